import Derived.Test.YtkgmhggliifkjaaGreatP13
import Derived.Laws.IdiomCopy
namespace Go.Proofs.YtkgmhggliifkjaaGreat
open Go.RowKit Go.Proofs.Tryz
set_option linter.all false
set_option maxHeartbeats 8000000
set_option maxRecDepth 100000
section
attribute [local irreducible] Ax
def SlP (g lo sz:Nat)(w:World)(e:Ending)(w':World):Prop:=∃cap:Nat,e=.returned (.slice (some ⟨g,lo,none⟩) sz cap)/\sz<=cap/\Ext [] w w'
theorem Lv {w:World}{A:CA}{m:Mc}{xs:List Ins}{S:MS}(h:Ag w A m xs S)(lo sz:Nat)(h1:1<=sz)(h2:lo+sz<=m.main.toNat) :
  Calls prog 81 #[.pointer (some A.c),.agg #[.int .i64 (-1),lo,sz]] w (SlP A.mb lo sz w):=by
 have HH:=hd h;have hm:=Bc h.kd.ok;have hmc:=h.stat.mcap;have hms:m.main.toNat<=524288:=by omega
 have HX:=hd (Blk.new w 91 #[.int .i64 (-1),lo,sz]);obtain⟨M,hM⟩:∃M,m.main.toNat=M:=⟨_,rfl⟩;have HMM:=hd hM;rw[hM] at h2 hms hmc;clear h hm hM;have hsl:((lo:Int)+(sz:Int)).toNat=lo+sz:=by omega
 go_enter func81,ntmps81
 have hw1:IntKind.i64.wrap ((lo:Int)+(sz:Int))=(lo:Int)+(sz:Int):=IntWalk.i64_in _ (by omega);go_wp2_with fail
 refine rgE 11 [] ?_
 simp only[TK]
 repeat(refine dE (fun wr nr hJ=>by(have hC:=HH.o.nil (((Ext.refl [] w).alloc _).trans hJ);have q7:=hC.cell (i:=7) (by omega) (v:=.slice (some A.mb) m.main.toNat A.mcap) rfl;rw[HMM.o] at q7;have ql:=hC.lt;have qx:=HX.o.ext hJ (by simp);have qxc:=qx.cell;have qxl:=qx.lt;clear qx hC);clear hJ;exact CL) ?_;simp only[PT])
 refine Aa (fun w1 hJ hF=>?_)
 have HE:=hd (((Ext.refl [] w).alloc (.cells #[.int .i64 (-1),lo,sz] 91)).trans hJ);clear hF hJ hw1;go_wp2_with fail
 go_ret
 exact⟨_,rfl,by omega,HE.o⟩
theorem Ia {w:World}{A:CA}{m:Mc}{xs:List Ins}{S:MS}(h:Ag w A m xs S)(b lo sz:Nat)(hb:b<m.banks.toNat)(h1:1<=sz)(h2:lo+sz<=m.bank.toNat) :
  Calls prog 81 #[.pointer (some A.c),.agg #[b,lo,sz]] w (SlP (A.bk b) lo sz w):=by
 have HH:=hd h;have hm:=Bc h.kd.ok;have hms:m.bank.toNat<=4096:=by omega
 have hbs:m.banks.toNat<=8:=by omega
 have HX:=hd (Blk.new w 91 #[b,lo,sz]);obtain⟨M,hM⟩:∃M,m.bank.toNat=M:=⟨_,rfl⟩;obtain⟨BN,hBN⟩:∃BN,m.banks.toNat=BN:=⟨_,rfl⟩;have HMM:=hd hM;have HBN:=hd hBN;rw[hM] at h2 hms;rw[hBN] at hb hbs;clear h hm hM hBN;have hsl:((lo:Int)+(sz:Int)).toNat=lo+sz:=by omega
 have hw1:IntKind.i64.wrap ((lo:Int)+(sz:Int))=(lo:Int)+(sz:Int):=IntWalk.i64_in _ (by omega);have hbI:((b:Nat):Int)<(BN:Int):=by omega
 go_enter func81,ntmps81
 go_wp2_with fail
 refine rgE 15 [] ?_
 simp only[TK]
 repeat(refine dE (fun wr nr hJ=>by(have hC:=HH.o.nil (((Ext.refl [] w).alloc _).trans hJ);have q8:=hC.cell (i:=8) (by omega) (v:=.slice (some A.bo) m.banks.toNat A.bcap) rfl;have qb:=hC.stat.banks.cell (i:=b) (by rw[HBN.o];exact hb);have qbl:=hC.stat.banks.lt;rw[HMM.o] at qb;rw[HBN.o] at q8;have ql:=hC.lt;have qx:=HX.o.ext hJ (by simp);have qxc:=qx.cell;have qxl:=qx.lt;clear qx hC);clear hJ;exact CL) ?_;simp only[PT])
 refine Aa (fun w1 hJ hF=>?_)
 have HE:=hd (((Ext.refl [] w).alloc (.cells #[b,lo,sz] 91)).trans hJ);clear hF hJ hw1;go_wp2_with fail
 go_ret
 exact⟨_,rfl,by omega,HE.o⟩
section
variable {w w':World} {b n:Nat} {t:TypeId} {f:Nat->Value}
theorem UpW.setCells:∀(cs:List Value) (o:Nat) {w:World} {f:Nat->Value},UpW w b t n f->UpW (w.setCells b o cs) b t n (fun j=>if o<=j/\j<o+cs.length then cs.getD (j-o) undef else f j)
 | [],o,w,f,h=>h.same (fun j _=>by rw[if_neg];simp only[List.length_nil];omega)
 | c :: cs,o,w,f,h=>by
  have h1:=h.set o c (g:=fun j=>if j=o then c else f j) (fun j _=>rfl);have h2:=UpW.setCells cs (o+1) h1;refine h2.same (fun j _=>?_)
  simp only[List.length_cons];by_cases hj:j=o
  ·subst hj;rw[ijp (by omega),ijn (by omega),ijp rfl,Nat.sub_self];rfl
  ·by_cases hj2:o+1<=j/\j<o+1+cs.length
   ·rw[ijp (by omega),ijp hj2,show j-o=(j-(o+1))+1 by omega];rfl
   ·rw[ijn (by omega),ijn hj2,ijn hj]
theorem Ext.setCells {S:List Nat}{a:World}(hb:b∈S\/a.heap.size<=b):∀(cs:List Value) (o:Nat) {w:World},Ext S a w->Ext S a (w.setCells b o cs)
 | [],_,_,h=>h
 | c :: cs,o,w,h=>Ext.setCells hb cs (o+1) (h.setAt hb)
end
theorem Qi (S:MS)(bk:Int)(lo:Nat)(ws:List Int)(j:Nat):(if lo<=j/\j<lo+(ws.map (Value.int .i64)).length then(ws.map (Value.int .i64)).getD (j-lo) undef else .int .i64 (S.mem bk (j:Nat)))=.int .i64 ((S.put ⟨bk,(lo:Nat),(ws.length:Nat)⟩ ws).mem bk (j:Nat)):=by
 simp only[MS.put,List.length_map];by_cases h:lo<=j/\j<lo+ws.length
 ·rw[ijp h,ijp ⟨trivial,by omega,by omega⟩];have e:(((j:Int)-(lo:Int)).toNat)=j-lo:=by omega
  rw[e,List.getD_eq_getElem?_getD,List.getD_eq_getElem?_getD,List.getElem?_map,List.getElem?_eq_getElem (show j-lo<ws.length by omega)];rfl
 ·rw[ijn h,ijn (fun hh=>h (by have:=hh.2;omega))]
section
variable {w w':World} {A:CA} {m:Mc} {xs:List Ins} {S:MS}
theorem Ag.putMain (h:Ag w A m xs S)(lo:Nat)(ws:List Int):Ag (w.setCells A.mb lo (ws.map (Value.int .i64))) A m xs (S.put ⟨-1,(lo:Nat),(ws.length:Nat)⟩ ws):=by
 have hE:Ext [A.mb] w (w.setCells A.mb lo (ws.map (Value.int .i64))):=Ext.setCells (.inl (by simp)) _ _ er;have hT:∀x∈[A.mb],A.kd x=1:=fun x hx=>by rw[ms hx];exact h.kd.km
 refine⟨h.chip.ext hE (fun hm=>by have h0:=hT _ hm;have h1:=h.kd.kc;omega),h.stat.ext h.kd hE (fun x hx=>by have:=hT x hx;omega),⟨?_,fun b hb=>?_,fun b hb=>?_⟩,h.que.ext h.kd hE (fun x hx=>by have:=hT x hx;omega),h.loops.ext hE (fun x hx=>by have:=hT x hx;omega),h.kd⟩
 ·exact(UpW.setCells _ lo h.mem.main).same (fun j _=>(Qi S (-1) lo ws j).symm)
 ·refine((h.mem.bank b hb).ext hE (fun hm=>by have h0:=hT _ hm;have h1:=h.kd.kbk b hb;omega)).same (fun j _=>?_)
  simp only[MS.put];rw[ijn (by omega)]
 ·refine((h.mem.set b hb).ext hE (fun hm=>by have h0:=hT _ hm;have h1:=h.kd.ksb b hb;omega)).same (fun j _=>?_)
  simp only[MS.put];rw[ijn (by omega)]
def MS.putM (S:MS)(a:Ar)(l:List Int)(k:Int):MS:={S with mem:=(S.put a l).mem,set:=fun b i=>if b=a.bank/\a.lo<=i/\i<a.lo+k then true else S.set b i }
theorem Ag.putBank (h:Ag w A m xs S)(bk:Nat)(hbk:bk<m.banks.toNat)(lo:Nat)(ws:List Int):Ag (w.setCells (A.bk bk) lo (ws.map (Value.int .i64))) A m xs (S.putM ⟨(bk:Nat),(lo:Nat),(ws.length:Nat)⟩ ws 0):=by
 have hE:Ext [A.bk bk] w (w.setCells (A.bk bk) lo (ws.map (Value.int .i64))):=Ext.setCells (.inl (by simp)) _ _ er;have hT:∀x∈[A.bk bk],A.kd x=10+bk:=fun x hx=>by rw[ms hx];exact h.kd.kbk bk hbk
 have hs:=h.kd.small;refine⟨h.chip.ext hE (fun hm=>by have h0:=hT _ hm;have h1:=h.kd.kc;omega),h.stat.ext h.kd hE (fun x hx=>by have:=hT x hx;omega),⟨?_,fun b hb=>?_,fun b hb=>?_⟩,h.que.ext h.kd hE (fun x hx=>by have:=hT x hx;omega),h.loops.ext hE (fun x hx=>by have:=hT x hx;omega),h.kd⟩
 ·refine(h.mem.main.ext hE (fun hm=>by have h0:=hT _ hm;have h1:=h.kd.km;omega)).same (fun j _=>?_)
  simp only[MS.putM,MS.put];rw[ijn (by omega)]
 ·by_cases hbb:b=bk
  ·subst hbb;exact(UpW.setCells _ lo (h.mem.bank b hb)).same (fun j _=>(Qi S (b:Nat) lo ws j).symm)
  ·refine((h.mem.bank b hb).ext hE (fun hm=>by have h0:=hT _ hm;have h1:=h.kd.kbk b hb;omega)).same (fun j _=>?_)
   simp only[MS.putM,MS.put];rw[ijn (by omega)]
 ·refine((h.mem.set b hb).ext hE (fun hm=>by have h0:=hT _ hm;have h1:=h.kd.ksb b hb;omega)).same (fun j _=>?_)
  simp only[MS.putM];rw[ijn (by omega)]
theorem Ag.putSet (bk:Nat)(hbk:bk<m.banks.toNat)(lo k n:Nat)(ws:List Int)(h:Ag w A m xs (S.putM ⟨(bk:Nat),(lo:Nat),(n:Nat)⟩ ws (k:Nat))):Ag (w.setCell ⟨A.sb bk,lo+k,none⟩ (.bool true)) A m xs (S.putM ⟨(bk:Nat),(lo:Nat),(n:Nat)⟩ ws (k+1:Nat)):=by
 have hE:Ext [A.sb bk] w (w.setCell ⟨A.sb bk,lo+k,none⟩ (.bool true)):=er.setCell (.inl (by simp)) _;have hT:∀x∈[A.sb bk],A.kd x=20+bk:=fun x hx=>by rw[ms hx];exact h.kd.ksb bk hbk
 have hs:=h.kd.small;refine⟨h.chip.ext hE (fun hm=>by have h0:=hT _ hm;have h1:=h.kd.kc;omega),h.stat.ext h.kd hE (fun x hx=>by have:=hT x hx;omega),⟨?_,fun b hb=>?_,fun b hb=>?_⟩,h.que.ext h.kd hE (fun x hx=>by have:=hT x hx;omega),h.loops.ext hE (fun x hx=>by have:=hT x hx;omega),h.kd⟩
 ·exact h.mem.main.ext hE (fun hm=>by have h0:=hT _ hm;have h1:=h.kd.km;omega)
 ·exact(h.mem.bank b hb).ext hE (fun hm=>by have h0:=hT _ hm;have h1:=h.kd.kbk b hb;omega)
 ·by_cases hbb:b=bk
  ·subst hbb;refine(h.mem.set b hb).set (lo+k) _ (fun j _=>?_)
   simp only[MS.putM];by_cases hj:j=lo+k
   ·rw[ijp hj,ijp ⟨trivial,by omega,by omega⟩]
   ·rw[ijn hj];by_cases hj2:lo<=j/\j<lo+k
    ·rw[ijp ⟨trivial,by omega,by omega⟩,ijp ⟨trivial,by omega,by omega⟩]
    ·rw[ijn (fun hh=>by have:=hh.2;omega),ijn (fun hh=>by have:=hh.2;omega)]
  ·refine((h.mem.set b hb).ext hE (fun hm=>by have h0:=hT _ hm;have h1:=h.kd.ksb b hb;omega)).same (fun j _=>?_)
   simp only[MS.putM];rw[ijn (by omega),ijn (by omega)]
end
end
section
attribute [local irreducible] Ax
def PutP (T:List Nat)(A:CA)(m:Mc)(xs:List Ins)(S:MS)(w:World)(e:Ending)(w':World):Prop:=e=.returned (.tuple #[])/\Ext T w w'/\Ag w' A m xs S
theorem Ae6 {w:World}{A:CA}{m:Mc}{xs:List Ins}{S:MS}(h:Ag w A m xs S)(lo n b o cw:Nat)(ws:List Int)(hn:ws.length=n)(h1:1<=n)(h2:lo+n<=m.main.toNat)(hsrc:∀j x,ws[j]? = some x->w.cell? ⟨b,o+j,none⟩=some (.int .i64 x)) :
  Calls prog 82 #[.pointer (some A.c),.agg #[.int .i64 (-1),lo,n],.slice (some ⟨b,o,none⟩) n cw] w (PutP [A.mb] A m xs (S.put ⟨-1,(lo:Nat),(n:Nat)⟩ ws) w):=by
 have hm:=Bc h.kd.ok;have hms:m.main.toNat<=524288:=by omega
 have HH:=hd h;have HN:=hd hn;have HS:=hd hsrc;have H2:=hd h2;have hME:=hd (fun W (hW:Ext [] w W)=>Lv (HH.o.nil hW) lo n h1 H2.o);have hn5:n<=524288:=by omega
 clear h hn hsrc hm h2;have HX:=hd (Blk.new w 91 #[.int .i64 (-1),lo,n]);go_enter func82,ntmps82
 go_wp2_with fail
 refine(hME.o _ ((Ext.refl [] w).alloc _)).mono ?_
 rintro e w1 ⟨cap,rfl,hcap,hE1⟩;have HE1:=hd (((Ext.refl [] w).alloc _).trans hE1);have HC1:=hd (HH.o.nil HE1.o)
 have hcp:∀ty,(Builtin.copy_ #[22,22] ty #[.slice (some ⟨A.mb,lo,none⟩) n cap,.slice (some ⟨b,o,none⟩) n cw]).run prog w1=.ok (goInt (n:Nat)) (w1.setCells A.mb lo (ws.map (Value.int .i64))):=fun ty=>by
  have hr:=run_copy_cells (P:=prog) w1 22 22 ty 3 A.mb lo n cap ⟨b,o,none⟩ n cw (ws.map (Value.int .i64)) underlying22 (by kernel_rfl) (by rw[List.length_map,HN.o];exact(Nat.min_self n).symm)
   (fun j v hv=>by
    rw[List.getElem?_map] at hv;cases hj:ws[j]? with
    | none=>rw[hj] at hv;cases hv
    | some y=>rw[hj] at hv;cases hv;rw[Addr.add_mk];exact HE1.o.held (HS.o j y hj) (by simp))
   (fun j hj=>by rw[HC1.o.mem.main.cell (by rw[List.length_map,HN.o] at hj;have:=H2.o;omega)];rfl)
   (fun j hj=>HC1.o.mem.main.frozen _)
   (fun v hv=>by obtain⟨y,_,rfl⟩:=List.mem_map.1 hv;rfl)
  rw[List.length_map,HN.o] at hr;exact hr
 have HX1:=hd (HX.o.ext hE1 (by simp));have HE2:Hd (Ext [A.mb] w (w1.setCells A.mb lo (ws.map (Value.int .i64)))):=hd (Ext.setCells (.inl (by simp)) _ _ HE1.o.nil);have HC2:Hd (Ag (w1.setCells A.mb lo (ws.map (Value.int .i64))) A m xs (S.put ⟨-1,(lo:Nat),(n:Nat)⟩ ws)):=hd (by have:=HC1.o.putMain lo ws;rw[HN.o] at this;exact this);have HX2:=hd (HX1.o.ext (Ext.setCells (S:=[A.mb]) (b:=A.mb) (.inl (by simp)) (ws.map (Value.int .i64)) lo (Ext.refl _ w1)) (by have:=HH.o.mem.main.lt;simp;omega));have qx2:=HX2.o.cell;have ql2:=HX2.o.lt;generalize hws:w1.setCells A.mb lo (ws.map (Value.int .i64))=w2 at *;clear hE1 hws;go_wp2_with fail
 go_end0
 exact⟨rfl,HE2.o,HC2.o⟩
theorem Xh {w:World}{A:CA}{m:Mc}{xs:List Ins}{S:MS}(h:Ag w A m xs S)(bk lo n b o cw:Nat)(ws:List Int)(hn:ws.length=n)(h1:1<=n)(hbk:bk<m.banks.toNat)(h2:lo+n<=m.bank.toNat)(hsrc:∀j x,ws[j]? = some x->w.cell? ⟨b,o+j,none⟩=some (.int .i64 x)) :
  Calls prog 82 #[.pointer (some A.c),.agg #[bk,lo,n],.slice (some ⟨b,o,none⟩) n cw] w (PutP [A.bk bk,A.sb bk] A m xs (S.put ⟨(bk:Nat),(lo:Nat),(n:Nat)⟩ ws) w):=by
 have hm:=Bc h.kd.ok;have hms:m.bank.toNat<=4096:=by omega
 have hbs:m.banks.toNat<=8:=by omega
 have HH:=hd h;have HN:=hd hn;have HS:=hd hsrc;have H2:=hd h2;have hME:=hd (fun W (hW:Ext [] w W)=>Ia (HH.o.nil hW) bk lo n hbk h1 H2.o);have hn5:n<=4096:=by omega
 have hlo5:lo+n<=4096:=by omega
 obtain⟨BN,hBN⟩:∃BN,m.banks.toNat=BN:=⟨_,rfl⟩;have HBN:=hd hBN;rw[hBN] at hbk hbs;have hbI:((bk:Nat):Int)<(BN:Int):=by omega
 obtain⟨MB,hMB⟩:∃MB,m.bank.toNat=MB:=⟨_,rfl⟩;have HMB:=hd hMB;rw[hMB] at h2 hms;clear h hn hsrc hm hBN hMB;have HX:=hd (Blk.new w 91 #[bk,lo,n]);go_enter func82,ntmps82
 go_wp2_with fail
 refine(hME.o _ ((Ext.refl [] w).alloc _)).mono ?_
 rintro e w1 ⟨cap,rfl,hcap,hE1⟩;have HE1:=hd (((Ext.refl [] w).alloc _).trans hE1);have HC1:=hd (HH.o.nil HE1.o)
 have hcp:∀ty,(Builtin.copy_ #[22,22] ty #[.slice (some ⟨A.bk bk,lo,none⟩) n cap,.slice (some ⟨b,o,none⟩) n cw]).run prog w1=.ok (goInt (n:Nat)) (w1.setCells (A.bk bk) lo (ws.map (Value.int .i64))):=fun ty=>by
  have hb:=HC1.o.mem.bank bk (by rw[HBN.o];exact hbk)
  have hr:=run_copy_cells (P:=prog) w1 22 22 ty 3 (A.bk bk) lo n cap ⟨b,o,none⟩ n cw (ws.map (Value.int .i64)) underlying22 (by kernel_rfl) (by rw[List.length_map,HN.o];exact(Nat.min_self n).symm)
   (fun j v hv=>by
    rw[List.getElem?_map] at hv;cases hj:ws[j]? with
    | none=>rw[hj] at hv;cases hv
    | some y=>rw[hj] at hv;cases hv;rw[Addr.add_mk];exact HE1.o.held (HS.o j y hj) (by simp))
   (fun j hj=>by rw[hb.cell (by rw[List.length_map,HN.o] at hj;have:=H2.o;omega)];rfl)
   (fun j hj=>hb.frozen _)
   (fun v hv=>by obtain⟨y,_,rfl⟩:=List.mem_map.1 hv;rfl)
  rw[List.length_map,HN.o] at hr;exact hr
 have HX1:=hd (HX.o.ext hE1 (by simp));have HE2:Hd (Ext [A.bk bk,A.sb bk] w (w1.setCells (A.bk bk) lo (ws.map (Value.int .i64)))):=hd (Ext.setCells (.inl (by simp)) _ _ HE1.o.nil);have HC2:Hd (Ag (w1.setCells (A.bk bk) lo (ws.map (Value.int .i64))) A m xs (S.putM ⟨(bk:Nat),(lo:Nat),(n:Nat)⟩ ws ((0:Nat):Int))):=hd (by have:=HC1.o.putBank bk (by rw[HBN.o];exact hbk) lo ws;rw[HN.o] at this;exact this);have hxb:A.bk bk<w.heap.size/\A.sb bk<w.heap.size:=⟨(HH.o.mem.bank bk (by rw[HBN.o];exact hbk)).lt,(HH.o.mem.set bk (by rw[HBN.o];exact hbk)).lt⟩;have HX2:=hd (HX1.o.ext (Ext.setCells (S:=[A.bk bk]) (b:=A.bk bk) (.inl (by simp)) (ws.map (Value.int .i64)) lo (Ext.refl _ w1)) (by simp;omega));have qx2:=HX2.o.cell;have ql2:=HX2.o.lt;generalize hws:w1.setCells (A.bk bk) lo (ws.map (Value.int .i64))=w2 at *;clear hE1 hws;go_wp2_with fail
 clear qx2 ql2 hcp;go_loopw [17] (fun i wr=>∃k:Nat,i=.int .i64 k/\k<=n/\Hd (Ext [A.bk bk,A.sb bk] w wr)/\Hd (Blk wr w.heap.size 91 #[bk,lo,n])/\Hd (Ag wr A m xs (S.putM ⟨(bk:Nat),(lo:Nat),(n:Nat)⟩ ws (k:Nat)))) (fun i _=>(n-intOf i).toNat)
 case atStart=>exact⟨0,rfl,by omega,HE2,HX2,HC2⟩
 case round=>
  obtain⟨k,rfl,hk,HEk,HXk,HCk⟩:=hrel;rename World=>wk
  by_cases hlt:k<n
  ·have hw1:IntKind.i64.wrap ((lo:Int)+(k:Int))=(lo:Int)+(k:Int):=IntWalk.i64_in _ (by omega);have hlk:((lo:Int)+(k:Int)).toNat=lo+k:=by omega
   have hli:(lo:Int)+(k:Int)<(MB:Int):=by omega
   go_wp2_with fail
   refine rgE 13 [] ?_
   simp only[TK]
   repeat(refine dE (fun wr nr hJ=>by(have hC:=HCk.o.nil hJ;have q9:=hC.cell (i:=9) (by omega) (v:=.slice (some A.so) m.banks.toNat A.scap) rfl;have qb:=hC.stat.sets.cell (i:=bk) (by rw[HBN.o];exact hbk);have qbl:=hC.stat.sets.lt;rw[HMB.o] at qb;rw[HBN.o] at q9;have ql:=hC.lt;have qx:=HXk.o.ext hJ (by simp);have qxc:=qx.cell;have qxl:=qx.lt;clear qx hC);clear hJ;exact CL) ?_;simp only[PT])
   refine Aa (fun w4 hJ hF=>?_)
   have HC4:=hd (HCk.o.nil hJ);have HX4:=hd (HXk.o.ext hJ (by simp));have HE4:=hd (HEk.o.trans hJ.nil);have q1:=(HC4.o.mem.set bk (by rw[HBN.o];exact hbk)).cell (i:=lo+k) (by rw[HMB.o];omega);have q2:=(HC4.o.mem.set bk (by rw[HBN.o];exact hbk)).frozen (lo+k);have q3:=(HC4.o.mem.set bk (by rw[HBN.o];exact hbk)).lt;have hxne:w.heap.size≠A.sb bk:=by omega
   clear hF hJ hw1;go_wp2_with fail
   go_roundw
   case rel=>exact⟨k+1,by go_num,by omega,hd (HE4.o.setCell (.inl (by simp)) _),hd (HX4.o.far hxne _),hd (Ag.putSet bk (by rw[HBN.o];exact hbk) lo k n ws HC4.o)⟩
   case measure=>simp[intOf];omega
  ·have hkn:k=n:=by omega
   subst hkn;go_wp2_with fail
   go_end0
   exact⟨rfl,HEk.o,HCk.o⟩
end
section
attribute [local irreducible] Ax Jw
def MS.putP (S:MS)(a:Ar)(l:List Int)(k:Int):MS:=
 {S with
  mem:=fun b i=>if b=a.bank/\a.lo<=i/\i<a.lo+k then l.getD (i-a.lo).toNat 0 else S.mem b i
  set:=fun b i=>if b=a.bank/\a.lo<=i/\i<a.lo+k then true else S.set b i }
theorem MS.putP_zero (S:MS)(a:Ar)(l:List Int):S.putP a l 0=S:=by
 have h1:(fun b i=>if b=a.bank/\a.lo<=i/\i<a.lo+0 then l.getD (i-a.lo).toNat 0 else S.mem b i)=S.mem:=by
  funext b i;rw[ijn (fun h=>by omega)]
 have h2:(fun b i=>if b=a.bank/\a.lo<=i/\i<a.lo+0 then true else S.set b i)=S.set:=by
  funext b i;rw[ijn (fun h=>by omega)]
 unfold MS.putP;rw[h1,h2]
section
variable {w w':World} {A:CA} {m:Mc} {xs:List Ins} {S:MS}
theorem Ag.putP1 (lo k:Nat)(sz:Int)(ws:List Int)(h:Ag w A m xs (S.putP ⟨-1,(lo:Nat),sz⟩ ws (k:Nat))):Ag (w.setCell ⟨A.mb,lo+k,none⟩ (.int .i64 (ws.getD k 0))) A m xs (S.putP ⟨-1,(lo:Nat),sz⟩ ws (k+1:Nat)):=by
 have hE:Ext [A.mb] w (w.setCell ⟨A.mb,lo+k,none⟩ (.int .i64 (ws.getD k 0))):=er.setCell (.inl (by simp)) _;have hT:∀x∈[A.mb],A.kd x=1:=fun x hx=>by rw[ms hx];exact h.kd.km
 refine⟨h.chip.ext hE (fun hm=>by have h0:=hT _ hm;have h1:=h.kd.kc;omega),h.stat.ext h.kd hE (fun x hx=>by have:=hT x hx;omega),⟨?_,fun b hb=>?_,fun b hb=>?_⟩,h.que.ext h.kd hE (fun x hx=>by have:=hT x hx;omega),h.loops.ext hE (fun x hx=>by have:=hT x hx;omega),h.kd⟩
 ·refine h.mem.main.set (lo+k) _ (fun j _=>?_)
  simp only[MS.putP];by_cases hj:j=lo+k
  ·subst hj;rw[ijp rfl,ijp ⟨trivial,by omega,by omega⟩,show(((lo+k:Nat):Int)-(lo:Int)).toNat=k by omega]
  ·rw[ijn hj];by_cases hj2:lo<=j/\j<lo+k
   ·rw[ijp ⟨trivial,by omega,by omega⟩,ijp ⟨trivial,by omega,by omega⟩]
   ·rw[ijn (fun hh=>by have:=hh.2;omega),ijn (fun hh=>by have:=hh.2;omega)]
 ·refine((h.mem.bank b hb).ext hE (fun hm=>by have h0:=hT _ hm;have h1:=h.kd.kbk b hb;omega)).same (fun j _=>?_)
  simp only[MS.putP];rw[ijn (by omega),ijn (by omega)]
 ·refine((h.mem.set b hb).ext hE (fun hm=>by have h0:=hT _ hm;have h1:=h.kd.ksb b hb;omega)).same (fun j _=>?_)
  simp only[MS.putP];rw[ijn (by omega),ijn (by omega)]
theorem Ag.putP2 (bk:Nat)(hbk:bk<m.banks.toNat)(lo k:Nat)(sz:Int)(ws:List Int)(h:Ag w A m xs (S.putP ⟨(bk:Nat),(lo:Nat),sz⟩ ws (k:Nat))):Ag ((w.setCell ⟨A.bk bk,lo+k,none⟩ (.int .i64 (ws.getD k 0))).setCell ⟨A.sb bk,lo+k,none⟩ (.bool true)) A m xs (S.putP ⟨(bk:Nat),(lo:Nat),sz⟩ ws (k+1:Nat)):=by
 have hE1:Ext [A.bk bk] w (w.setCell ⟨A.bk bk,lo+k,none⟩ (.int .i64 (ws.getD k 0))):=er.setCell (.inl (by simp)) _;have hE2:Ext [A.sb bk] (w.setCell ⟨A.bk bk,lo+k,none⟩ (.int .i64 (ws.getD k 0))) ((w.setCell ⟨A.bk bk,lo+k,none⟩ (.int .i64 (ws.getD k 0))).setCell ⟨A.sb bk,lo+k,none⟩ (.bool true)):=er.setCell (.inl (by simp)) _;have hE:Ext [A.bk bk,A.sb bk] w _:=(hE1.mono (fun x hx=>.inl (by simp at hx;simp[hx]))).trans (hE2.mono (fun x hx=>.inl (by simp at hx;simp[hx])));have k1:=h.kd.kbk bk hbk;have k2:=h.kd.ksb bk hbk
 have hT:∀x∈[A.bk bk,A.sb bk],A.kd x=10+bk\/A.kd x=20+bk:=fun x hx=>by
  simp at hx;rcases hx with rfl|rfl
  ·exact .inl k1
  ·exact .inr k2
 have hT1:∀x∈[A.bk bk],A.kd x=10+bk:=fun x hx=>by rw[ms hx];exact k1
 have hT2:∀x∈[A.sb bk],A.kd x=20+bk:=fun x hx=>by rw[ms hx];exact k2
 have hs:=h.kd.small;refine⟨h.chip.ext hE (fun hm=>by have h0:=hT _ hm;have h1:=h.kd.kc;omega),h.stat.ext h.kd hE (fun x hx=>by have:=hT x hx;omega),⟨?_,fun b hb=>?_,fun b hb=>?_⟩,h.que.ext h.kd hE (fun x hx=>by have:=hT x hx;omega),h.loops.ext hE (fun x hx=>by have:=hT x hx;omega),h.kd⟩
 ·refine(h.mem.main.ext hE (fun hm=>by have h0:=hT _ hm;have h1:=h.kd.km;omega)).same (fun j _=>?_)
  simp only[MS.putP];rw[ijn (by omega),ijn (by omega)]
 ·by_cases hbb:b=bk
  ·subst hbb;refine(((h.mem.bank b hb).set (lo+k) (.int .i64 (ws.getD k 0)) (g:=fun i=>.int .i64 ((S.putP ⟨(b:Nat),(lo:Nat),sz⟩ ws (k+1:Nat)).mem (b:Nat) (i:Nat))) (fun j _=>?_)).ext hE2 (fun hm=>by have h0:=hT2 _ hm;omega))
   simp only[MS.putP];by_cases hj:j=lo+k
   ·subst hj;rw[ijp rfl,ijp ⟨trivial,by omega,by omega⟩,show(((lo+k:Nat):Int)-(lo:Int)).toNat=k by omega]
   ·rw[ijn hj];by_cases hj2:lo<=j/\j<lo+k
    ·rw[ijp ⟨trivial,by omega,by omega⟩,ijp ⟨trivial,by omega,by omega⟩]
    ·rw[ijn (fun hh=>by have:=hh.2;omega),ijn (fun hh=>by have:=hh.2;omega)]
  ·refine((h.mem.bank b hb).ext hE (fun hm=>by have h0:=hT _ hm;have h1:=h.kd.kbk b hb;omega)).same (fun j _=>?_)
   simp only[MS.putP];rw[ijn (by omega),ijn (by omega)]
 ·by_cases hbb:b=bk
  ·subst hbb;refine((h.mem.set b hb).ext hE1 (fun hm=>by have h0:=hT1 _ hm;omega)).set (lo+k) _ (fun j _=>?_)
   simp only[MS.putP];by_cases hj:j=lo+k
   ·rw[ijp hj,ijp ⟨trivial,by omega,by omega⟩]
   ·rw[ijn hj];by_cases hj2:lo<=j/\j<lo+k
    ·rw[ijp ⟨trivial,by omega,by omega⟩,ijp ⟨trivial,by omega,by omega⟩]
    ·rw[ijn (fun hh=>by have:=hh.2;omega),ijn (fun hh=>by have:=hh.2;omega)]
  ·refine((h.mem.set b hb).ext hE (fun hm=>by have h0:=hT _ hm;have h1:=h.kd.ksb b hb;omega)).same (fun j _=>?_)
   simp only[MS.putP];rw[ijn (by omega),ijn (by omega)]
theorem Ag.setQ (h:Ag w A m xs S)(d:Nat)(hd:d<m.queues.toNat):Ag (w.setCell ⟨A.qb,d,none⟩ (.pointer none)) A m xs {S with q:=Be S.q (d:Nat) none }:=by
 have hE:Ext [A.qb] w (w.setCell ⟨A.qb,d,none⟩ (.pointer none)):=er.setCell (.inl (by simp)) _;have hT:∀x∈[A.qb],A.kd x=4:=fun x hx=>by rw[ms hx];exact h.kd.kq
 refine⟨h.chip.ext hE (fun hm=>by have h0:=hT _ hm;have h1:=h.kd.kc;omega),h.stat.ext h.kd hE (fun x hx=>by have:=hT x hx;omega),h.mem.ext h.kd hE (fun x hx=>by have:=hT x hx;omega),⟨?_,fun i hi t ht=>?_⟩,h.loops.ext hE (fun x hx=>by have:=hT x hx;omega),h.kd⟩
 ·refine h.que.queue.set d _ (fun j _=>?_)
  unfold Od;dsimp only;by_cases hj:j=d
  ·subst hj;rw[ijp rfl,Bt]
  ·rw[ijn hj,Cw _ _ (by omega)]
 ·have hid:i≠d:=fun e=>by subst e;dsimp only at ht;rw[Bt] at ht;cases ht
  have ht2:S.q (i:Nat)=some t:=by dsimp only at ht;rw[Cw _ _ (by omega)] at ht;exact ht
  obtain⟨h1,h2,h3,h4⟩:=h.que.trs i hi t ht2;exact⟨h1.ext hE (fun hm=>by have h0:=hT _ hm;have:=h.kd.small;omega),h2.ext hE (fun a ha hm=>by have h0:=hT _ hm;have:=h4 a ha;omega),h3,fun a ha=>⟨(h4 a ha).1,nl (h4 a ha).2 hE.size⟩⟩
end
def Aj (A:CA)(w w':World):Prop:=∃T,Ext T w w'/\∀x∈T,A.kd x<40
theorem Aj.refl (A:CA)(w:World):Aj A w w:=⟨[],er,by simp⟩
theorem Aj.trans {A:CA}{a b c:World}(h:Aj A a b)(k:Aj A b c):Aj A a c:=by
 obtain⟨T,h1,h2⟩:=h;obtain⟨U,k1,k2⟩:=k;refine⟨T ++ U,(h1.mono (fun x hx=>.inl (by simp[hx]))).trans (k1.mono (fun x hx=>.inl (by simp[hx]))),fun x hx=>?_⟩
 rcases List.mem_append.1 hx with hx|hx
 ·exact h2 x hx
 ·exact k2 x hx
theorem Aj.of {A:CA}{w w':World}{T:List Nat}(h:Ext T w w')(hT:∀x∈T,A.kd x<40):Aj A w w':=⟨T,h,hT⟩
theorem Aj.size {A:CA}{w w':World}(h:Aj A w w'):w.heap.size<=w'.heap.size:=by obtain⟨T,h1,_⟩:=h;exact h1.size
def Fb (A:CA)(m:Mc)(xs:List Ins)(S:MS)(w:World)(e:Ending)(w':World):Prop:=e=.returned (.tuple #[])/\Aj A w w'/\Ag w' A m xs S
def JW (p:Addr)(v:Value)(w0:World)(r:Nat->Bool)(w:World):Prop:=(r 38=true->Ext [] w0 w)/\(r 38=false->∃wq,Ext [] w0 wq/\w=wq.setCell p v)
theorem wait_none {w:World}{A:CA}{m:Mc}{xs:List Ins}{S:MS}(h:Ag w A m xs S)(d:Nat)(hd':d<m.queues.toNat)(hq:S.q (d:Nat)=none) :
  Calls prog 43 #[.pointer (some A.c),d] w (Fb A m xs S w):=by
 have HH:=hd h;have hm:=Bc h.kd.ok;obtain⟨Q,hQ⟩:∃Q,m.queues.toNat=Q:=⟨_,rfl⟩;have hdQ:d<Q:=by omega
 have hQ4:Q<=4:=by omega
 have hdI:((d:Nat):Int)<(Q:Int):=by omega
 have q162:=h.cell (i:=162) (by omega) (v:=.slice (some A.qb) m.queues.toNat m.queues.toNat) rfl;rw[hQ] at q162;have qd:=h.que.queue.cell (i:=d) hd';have qdl:=h.que.queue.lt;have ql:=h.lt;unfold Od at qd;rw[hq] at qd;clear h hd' hq hm hQ;go_enter func43,ntmps43
 go_wp2_with fail
 go_end0
 exact⟨rfl,Aj.refl _ _,HH.o⟩
theorem Acz {w:World}{A:CA}{m:Mc}{xs:List Ins}{S:MS}(h:Ag w A m xs S)(d lo n:Nat)(hd':d<m.queues.toNat)(src:Ar)(ws:List Int)(rdy:Int)(hq:S.q (d:Nat)=some ⟨src,⟨-1,(lo:Nat),(n:Nat)⟩,ws,rdy⟩)(hn:ws.length=n)(h1:1<=n)(hlo:lo+n<=m.main.toNat) :
  Calls prog 43 #[.pointer (some A.c),d] w (Fb A m xs (S.wait (d:Nat)) w):=by
 have HH:=hd h;have hm:=Bc h.kd.ok;have hmc:=h.stat.mcap;obtain⟨Q,hQ⟩:∃Q,m.queues.toNat=Q:=⟨_,rfl⟩;have hdQ:d<Q:=by omega
 have hQ4:Q<=4:=by omega
 have hdI:((d:Nat):Int)<(Q:Int):=by omega
 obtain⟨MM,hMM⟩:∃MM,m.main.toNat=MM:=⟨_,rfl⟩;have hMM2:MM<=524288:=by omega
 have HMM:=hd hMM;have q162:=h.cell (i:=162) (by omega) (v:=.slice (some A.qb) m.queues.toNat m.queues.toNat) rfl;rw[hQ] at q162;have qd:=h.que.queue.cell (i:=d) hd';have qdl:=h.que.queue.lt;have qdf:=h.que.queue.frozen d;have ql:=h.lt;unfold Od at qd;rw[hq] at qd;rw[hMM] at hlo;have HQV:=hd hQ;have HN:=hd hn;have HDQ:=hd hd'
 obtain⟨b0,o0,hta⟩:∃b0 o0,A.ta (d:Nat)=some ⟨b0,o0,none⟩:=by
  obtain⟨_,hb,_⟩:=h.que.trs d hd' _ hq;rcases hb with h0|⟨b0,o0,h1,_⟩
  ·dsimp only at h0;rw[h0] at hn;simp at hn;omega
  ·exact⟨b0,o0,h1⟩
 have HTR:Hd (∀W S',Ag W A m xs S'->S'.q=S.q->Blk W (A.tb (d:Nat)) 93 #[.int .i64 src.bank,.int .i64 src.lo,.int .i64 src.size,.int .i64 (-1),lo,n,.slice (some ⟨b0,o0,none⟩) n (A.tc (d:Nat)),rdy]/\∀k x,ws[k]? = some x->W.cell? ⟨b0,o0+k,none⟩=some (.int .i64 x)):=hd (fun W S' hW hS=>by
  obtain⟨a,b,_⟩:=hW.que.trs d hd' _ (by rw[hS];exact hq);rw[Jn,hn,hta] at a;refine⟨a,?_⟩
  rcases b with h0|⟨b1,o1,h2,h3⟩
  ·dsimp only at h0;rw[h0] at hn;simp at hn;omega
  ·rw[hta] at h2;cases h2;exact h3)
 have HWT:Hd (S.wait (d:Nat)={(({S with cyc:=max S.cyc rdy }:MS).putP ⟨-1,(lo:Nat),(n:Nat)⟩ ws (n:Nat)) with q:=Be S.q (d:Nat) none }):=hd (by rw[MS.wait_some hq];rfl);obtain⟨M,hM⟩:∃M,M=max S.cyc rdy:=⟨_,rfl⟩;rw[<-hM] at HWT;have hmx:=hM.symm;clear h hd' hq hm hQ hMM hn hM hmc hta;go_enter func43,ntmps43
 go_wp2_with fail
 clear q162 qd qdl qdf ql;refine rgE 10 [] ?_
 simp only[TK]
 repeat(refine dE (fun wr nr hJ=>by(have hC:=HH.o.nil hJ;have q165:=hC.cell (i:=165) (by omega) (v:=S.cyc) rfl;have ql:=hC.lt;have qt:=(HTR.o _ _ hC rfl).1;have qtc:=qt.cell;have qtl:=qt.lt;clear hC qt);clear hJ;exact CL) ?_;simp only[PT])
 refine Aa (fun w1 hJ hF=>?_)
 have HC1:=hd (HH.o.nil hJ);have HC2:=hd (HC1.o.setCyc M);have HE2:Hd (Aj A w (w1.setCell ⟨A.c,165,none⟩ M)):=hd (Aj.of (T:=[A.c]) (hJ.nil.setCell (.inl (by simp)) _) (fun x hx=>by rw[ms hx,HH.o.kd.kc];omega));have q165:=HC1.o.cell (i:=165) (by omega) (v:=S.cyc) rfl;have q165f:=HC1.o.chip.frozen 165;have ql:=HC1.o.lt;have qt:=(HTR.o _ _ HC2.o rfl).1;have qtc:=qt.cell;have qtl:=qt.lt;clear qt hF hJ;go_wp2_with fail
 clear q165 q165f ql qtc qtl;generalize w1.setCell ⟨A.c,165,none⟩ M=w2 at *;go_loopw [33] (fun i wr=>∃k:Nat,i=.int .i64 k/\k<=n/\Hd (Aj A w wr)/\Hd (Ag wr A m xs (({S with cyc:=M }:MS).putP ⟨-1,(lo:Nat),(n:Nat)⟩ ws (k:Nat)))) (fun i _=>(n-intOf i).toNat)
 case atStart=>exact⟨0,rfl,by omega,HE2,hd (by show Ag _ _ _ _ (MS.putP _ _ _ 0);rw[MS.putP_zero];exact HC2.o)⟩
 case round=>
  obtain⟨k,rfl,hk,HEk,HCk⟩:=hrel;rename World=>wk
  have HTk:=HTR.o _ _ HCk.o rfl;by_cases hlt:k<n
  ·have hkl:k<ws.length:=by have:=HN.o;omega
   have HTB:=hd HTk.1;have hgd:ws.getD k 0=ws[k]:=by rw[List.getD_eq_getElem?_getD,List.getElem?_eq_getElem hkl];rfl
   have hcw:wk.cell? ⟨b0,o0+k,none⟩=some (.int .i64 (ws.getD k 0)):=by
    rw[hgd];exact HTk.2 k _ (List.getElem?_eq_getElem hkl)
   have hcl:=World.block_lt_of_cell? wk _ hcw;simp only at hcl;have hw1:IntKind.i64.wrap ((lo:Int)+(k:Int))=(lo:Int)+(k:Int):=IntWalk.i64_in _ (by omega);have hlk:((lo:Int)+(k:Int)).toNat=lo+k:=by omega
   have hli:(lo:Int)+(k:Int)<(MM:Int):=by omega
   have qtc:=HTB.o.cell;have qtl:=HTB.o.lt;clear HTk hgd hkl;generalize hwk:ws.getD k 0=wv at *;have HWV:=hd hwk;clear hwk;go_wp2_with fail
   clear qtc qtl hcw hcl;refine rgE 12 [] ?_
   simp only[TK]
   repeat(refine dE (fun wr nr hJ=>by(have hC:=HCk.o.nil hJ;have q7:=hC.cell (i:=7) (by omega) (v:=.slice (some A.mb) m.main.toNat A.mcap) rfl;rw[HMM.o] at q7;have ql:=hC.lt;have qt:=HTB.o.ext hJ (by simp);have qtc:=qt.cell;have qtl:=qt.lt;clear hC qt);clear hJ;exact CL) ?_;simp only[PT])
   refine Aa (fun w3 hJ hF=>?_)
   have HC3:=hd (HCk.o.nil hJ);have HE3:=hd (HEk.o.trans (Aj.of hJ (by simp)));have q1:=HC3.o.mem.main.cell (i:=lo+k) (by rw[HMM.o];omega);have q2:=HC3.o.mem.main.frozen (lo+k);have q3:=HC3.o.mem.main.lt;clear hF hJ hw1;go_wp2_with fail
   go_roundw
   case rel=>exact⟨k+1,by go_num,by omega,hd (HE3.o.trans (Aj.of (T:=[A.mb]) (er.setCell (.inl (by simp)) _) (fun x hx=>by rw[ms hx,HH.o.kd.km];omega))),hd (by have:=Ag.putP1 lo k (n:Nat) ws HC3.o;rw[HWV.o] at this;exact this)⟩
   case measure=>simp[intOf];omega
  ·have hkn:k=n:=by omega
   subst hkn;have HCE:=hd (HCk.o.setQ d HDQ.o);have q162:=HCk.o.cell (i:=162) (by omega) (v:=.slice (some A.qb) m.queues.toNat m.queues.toNat) rfl;rw[HQV.o] at q162;have qd:=HCk.o.que.queue.cell (i:=d) HDQ.o;have qdl:=HCk.o.que.queue.lt;have qdf:=HCk.o.que.queue.frozen d;have ql:=HCk.o.lt;clear HTk;go_wp2_with fail
   go_end0
   refine⟨rfl,HEk.o.trans (Aj.of (T:=[A.qb]) (er.setCell (.inl (by simp)) _) (fun x hx=>by rw[ms hx,HH.o.kd.kq];omega)),?_⟩
   rw[HWT.o];exact HCE.o
theorem Ac0 {w:World}{A:CA}{m:Mc}{xs:List Ins}{S:MS}(h:Ag w A m xs S)(d bk lo n:Nat)(hd':d<m.queues.toNat)(src:Ar)(ws:List Int)(rdy:Int)(hq:S.q (d:Nat)=some ⟨src,⟨(bk:Nat),(lo:Nat),(n:Nat)⟩,ws,rdy⟩)(hn:ws.length=n)(h1:1<=n)(hbk:bk<m.banks.toNat)(hlo:lo+n<=m.bank.toNat) :
  Calls prog 43 #[.pointer (some A.c),d] w (Fb A m xs (S.wait (d:Nat)) w):=by
 have HH:=hd h;have hm:=Bc h.kd.ok;have hmc:=h.stat.mcap;obtain⟨Q,hQ⟩:∃Q,m.queues.toNat=Q:=⟨_,rfl⟩;have hdQ:d<Q:=by omega
 have hQ4:Q<=4:=by omega
 have hdI:((d:Nat):Int)<(Q:Int):=by omega
 obtain⟨MM,hMM⟩:∃MM,m.bank.toNat=MM:=⟨_,rfl⟩;have hMM2:MM<=524288:=by omega
 have HMM:=hd hMM;obtain⟨BN,hBN⟩:∃BN,m.banks.toNat=BN:=⟨_,rfl⟩;have HBN:=hd hBN;rw[hBN] at hbk;have hbs:BN<=8:=by omega
 have hbI:((bk:Nat):Int)<(BN:Int):=by omega
 have q162:=h.cell (i:=162) (by omega) (v:=.slice (some A.qb) m.queues.toNat m.queues.toNat) rfl;rw[hQ] at q162;have qd:=h.que.queue.cell (i:=d) hd';have qdl:=h.que.queue.lt;have qdf:=h.que.queue.frozen d;have ql:=h.lt;unfold Od at qd;rw[hq] at qd;rw[hMM] at hlo;have HQV:=hd hQ;have HN:=hd hn;have HDQ:=hd hd'
 obtain⟨b0,o0,hta⟩:∃b0 o0,A.ta (d:Nat)=some ⟨b0,o0,none⟩:=by
  obtain⟨_,hb,_⟩:=h.que.trs d hd' _ hq;rcases hb with h0|⟨b0,o0,h1,_⟩
  ·dsimp only at h0;rw[h0] at hn;simp at hn;omega
  ·exact⟨b0,o0,h1⟩
 have HTR:Hd (∀W S',Ag W A m xs S'->S'.q=S.q->Blk W (A.tb (d:Nat)) 93 #[.int .i64 src.bank,.int .i64 src.lo,.int .i64 src.size,bk,lo,n,.slice (some ⟨b0,o0,none⟩) n (A.tc (d:Nat)),rdy]/\∀k x,ws[k]? = some x->W.cell? ⟨b0,o0+k,none⟩=some (.int .i64 x)):=hd (fun W S' hW hS=>by
  obtain⟨a,b,_⟩:=hW.que.trs d hd' _ (by rw[hS];exact hq);rw[Jn,hn,hta] at a;refine⟨a,?_⟩
  rcases b with h0|⟨b1,o1,h2,h3⟩
  ·dsimp only at h0;rw[h0] at hn;simp at hn;omega
  ·rw[hta] at h2;cases h2;exact h3)
 have HWT:Hd (S.wait (d:Nat)={(({S with cyc:=max S.cyc rdy }:MS).putP ⟨(bk:Nat),(lo:Nat),(n:Nat)⟩ ws (n:Nat)) with q:=Be S.q (d:Nat) none }):=hd (by rw[MS.wait_some hq];rfl);obtain⟨M,hM⟩:∃M,M=max S.cyc rdy:=⟨_,rfl⟩;rw[<-hM] at HWT;have hmx:=hM.symm;clear h hd' hq hm hQ hMM hn hM hmc hta hBN;go_enter func43,ntmps43
 go_wp2_with fail
 clear q162 qd qdl qdf ql;refine rgE 10 [] ?_
 simp only[TK]
 repeat(refine dE (fun wr nr hJ=>by(have hC:=HH.o.nil hJ;have q165:=hC.cell (i:=165) (by omega) (v:=S.cyc) rfl;have ql:=hC.lt;have qt:=(HTR.o _ _ hC rfl).1;have qtc:=qt.cell;have qtl:=qt.lt;clear hC qt);clear hJ;exact CL) ?_;simp only[PT])
 refine Aa (fun w1 hJ hF=>?_)
 have HC1:=hd (HH.o.nil hJ);have HC2:=hd (HC1.o.setCyc M);have HE2:Hd (Aj A w (w1.setCell ⟨A.c,165,none⟩ M)):=hd (Aj.of (T:=[A.c]) (hJ.nil.setCell (.inl (by simp)) _) (fun x hx=>by rw[ms hx,HH.o.kd.kc];omega));have q165:=HC1.o.cell (i:=165) (by omega) (v:=S.cyc) rfl;have q165f:=HC1.o.chip.frozen 165;have ql:=HC1.o.lt;have qt:=(HTR.o _ _ HC2.o rfl).1;have qtc:=qt.cell;have qtl:=qt.lt;clear qt hF hJ;go_wp2_with fail
 clear q165 q165f ql qtc qtl;generalize w1.setCell ⟨A.c,165,none⟩ M=w2 at *;go_loopw [33] (fun i wr=>∃k:Nat,i=.int .i64 k/\k<=n/\Hd (Aj A w wr)/\Hd (Ag wr A m xs (({S with cyc:=M }:MS).putP ⟨(bk:Nat),(lo:Nat),(n:Nat)⟩ ws (k:Nat)))) (fun i _=>(n-intOf i).toNat)
 case atStart=>exact⟨0,rfl,by omega,HE2,hd (by show Ag _ _ _ _ (MS.putP _ _ _ 0);rw[MS.putP_zero];exact HC2.o)⟩
 case round=>
  obtain⟨k,rfl,hk,HEk,HCk⟩:=hrel;rename World=>wk
  have HTk:=HTR.o _ _ HCk.o rfl;by_cases hlt:k<n
  ·have hkl:k<ws.length:=by have:=HN.o;omega
   have HTB:=hd HTk.1;have hgd:ws.getD k 0=ws[k]:=by rw[List.getD_eq_getElem?_getD,List.getElem?_eq_getElem hkl];rfl
   have hcw:wk.cell? ⟨b0,o0+k,none⟩=some (.int .i64 (ws.getD k 0)):=by
    rw[hgd];exact HTk.2 k _ (List.getElem?_eq_getElem hkl)
   have hcl:=World.block_lt_of_cell? wk _ hcw;simp only at hcl;have hw1:IntKind.i64.wrap ((lo:Int)+(k:Int))=(lo:Int)+(k:Int):=IntWalk.i64_in _ (by omega);have hlk:((lo:Int)+(k:Int)).toNat=lo+k:=by omega
   have hli:(lo:Int)+(k:Int)<(MM:Int):=by omega
   have qtc:=HTB.o.cell;have qtl:=HTB.o.lt;clear HTk hgd hkl;generalize hwk:ws.getD k 0=wv at *;have HWV:=hd hwk;clear hwk;go_wp2_with fail
   clear qtc qtl hcw hcl;refine Lu 39 (JW ⟨A.bk bk,lo+k,none⟩ wv wk) (fun _ _=>True) (Bw [(38,⟨Unit,(),fun _=>undef,fun _ _=>True⟩)]) (by kernel_rfl) (by kernel_rfl) ?_ ?_ ?_ ?_
   ·intro i r w hi _ hJ
    have hi38:i≠38:=fun e=>by
     subst e;rcases hi with hi|⟨oi,hoi,hg⟩
     ·cases hi
     ·cases hoi;exact hg rfl
    unfold JW at *;rw[Dj hi38];exact hJ
   ·exact Ah.cons (fun _ _ _ _ h=>h) Ah.nil
   ·exact⟨fun _=>er.drew,fun h=>by simp at h⟩
   simp only[TK]
   repeat(refine dES (fun wr nr hg hJ=>by clear hJ;exact CL) ?_;simp only[PT])
   refine Gc rfl rfl ?_
   apply Exists.intro
   refine⟨fun wr nr hg hJ=>?_,?_⟩
   ·have hE:=hJ.1 (hg.later 38 (by kernel_rfl));have hC:=HCk.o.nil hE;have q8:=hC.cell (i:=8) (by omega) (v:=.slice (some A.bo) m.banks.toNat A.bcap) rfl;rw[HBN.o] at q8;have ql:=hC.lt;clear hC;clear hg hJ hE;(go_simp;try go_bits)
    first|rfl|exact⟨rfl,rfl⟩
   simp only[PT]
   repeat(refine dES (fun wr nr hg hJ=>by clear hJ;exact CL) ?_;simp only[PT])
   refine Gc rfl rfl ?_
   apply Exists.intro
   refine⟨fun wr nr hg hJ=>?_,?_⟩
   ·have hE:=hJ.1 (hg.later 38 (by kernel_rfl));have hC:=HCk.o.nil hE;have qt:=HTB.o.ext hE (by simp);have qtc:=qt.cell;have qtl:=qt.lt;clear hC qt;clear hg hJ hE;(go_simp;try go_bits)
    first|rfl|exact⟨rfl,rfl⟩
   simp only[PT]
   repeat(refine dES (fun wr nr hg hJ=>by clear hJ;exact CL) ?_;simp only[PT])
   refine Gc rfl rfl ?_
   apply Exists.intro
   refine⟨fun wr nr hg hJ=>?_,?_⟩
   ·have hE:=hJ.1 (hg.later 38 (by kernel_rfl));have hC:=HCk.o.nil hE;have qb:=hC.stat.banks.cell (i:=bk) (by rw[HBN.o];exact hbk);have qbl:=hC.stat.banks.lt;rw[HMM.o] at qb;clear hC;clear hg hJ hE;(go_simp;try go_bits)
    first|rfl|exact⟨rfl,rfl⟩
   simp only[PT]
   repeat(refine dES (fun wr nr hg hJ=>by clear hJ;exact CL) ?_;simp only[PT])
   refine Gc rfl rfl ?_
   apply Exists.intro
   refine⟨fun wr nr hg hJ=>?_,?_⟩
   ·have hE:=hJ.1 (hg.later 38 (by kernel_rfl));have hC:=HCk.o.nil hE;have qt:=HTB.o.ext hE (by simp);have qtc:=qt.cell;have qtl:=qt.lt;clear hC qt;clear hg hJ hE;(go_simp;try go_bits)
    first|rfl|exact⟨rfl,rfl⟩
   simp only[PT]
   repeat(refine dES (fun wr nr hg hJ=>by clear hJ;exact CL) ?_;simp only[PT])
   refine Gc rfl rfl ?_
   apply Exists.intro
   refine⟨fun wr nr hg hJ=>?_,?_⟩
   ·have hE:=hJ.1 (hg.later 38 (by kernel_rfl));have hC:=HCk.o.nil hE;have q9:=hC.cell (i:=9) (by omega) (v:=.slice (some A.so) m.banks.toNat A.scap) rfl;rw[HBN.o] at q9;have ql:=hC.lt;clear hC;clear hg hJ hE;(go_simp;try go_bits)
    first|rfl|exact⟨rfl,rfl⟩
   simp only[PT]
   repeat(refine dES (fun wr nr hg hJ=>by clear hJ;exact CL) ?_;simp only[PT])
   refine Gc rfl rfl ?_
   apply Exists.intro
   refine⟨fun wr nr hg hJ=>?_,?_⟩
   ·have hE:=hJ.1 (hg.later 38 (by kernel_rfl));have hC:=HCk.o.nil hE;have qt:=HTB.o.ext hE (by simp);have qtc:=qt.cell;have qtl:=qt.lt;clear hC qt;clear hg hJ hE;(go_simp;try go_bits)
    first|rfl|exact⟨rfl,rfl⟩
   simp only[PT]
   repeat(refine dES (fun wr nr hg hJ=>by clear hJ;exact CL) ?_;simp only[PT])
   refine Gc rfl rfl ?_
   apply Exists.intro
   refine⟨fun wr nr hg hJ=>?_,?_⟩
   ·have hE:=hJ.1 (hg.later 38 (by kernel_rfl));have hC:=HCk.o.nil hE;have qs:=hC.stat.sets.cell (i:=bk) (by rw[HBN.o];exact hbk);have qsl:=hC.stat.sets.lt;rw[HMM.o] at qs;clear hC;clear hg hJ hE;(go_simp;try go_bits)
    first|rfl|exact⟨rfl,rfl⟩
   simp only[PT]
   repeat(refine dES (fun wr nr hg hJ=>by clear hJ;exact CL) ?_;simp only[PT])
   refine Gc rfl rfl ?_
   apply Exists.intro
   refine⟨fun wr nr hg hJ=>?_,?_⟩
   ·have hE:=hJ.1 (hg.later 38 (by kernel_rfl));have hC:=HCk.o.nil hE;have qt:=HTB.o.ext hE (by simp);have qtc:=qt.cell;have qtl:=qt.lt;clear hC qt;clear hg hJ hE;(go_simp;try go_bits)
    first|rfl|exact⟨rfl,rfl⟩
   simp only[PT]
   repeat(refine dES (fun wr nr hg hJ=>by clear hJ;exact CL) ?_;simp only[PT])
   refine Oc rfl rfl ?_ ?_
   ·intro wr nr hg hJ hf;have hE:=hJ.1 hg.mine;have hC:=HCk.o.nil hE;have q1:=(hC.mem.bank bk (by rw[HBN.o];exact hbk)).cell (i:=lo+k) (by rw[HMM.o];omega);have q2:=(hC.mem.bank bk (by rw[HBN.o];exact hbk)).frozen (lo+k);have q3:=(hC.mem.bank bk (by rw[HBN.o];exact hbk)).lt;refine⟨wr.setCell ⟨A.bk bk,lo+k,none⟩ wv,?_,⟨fun h=>by simp[off] at h,fun _=>⟨wr,hE,rfl⟩⟩,trivial⟩
    clear hg hJ hf hE hC;go_simp
   simp only[PT];refine Rb (fun w3 r hr hJ hF=>?_)
   obtain⟨wq,hEq,rfl⟩:=hJ.2 (by rw[hr 38 (by decide)];rfl);have HC3:=hd (HCk.o.nil hEq);have HE3:=hd (HEk.o.trans (Aj.of hEq (by simp)));have q1:=(HC3.o.mem.set bk (by rw[HBN.o];exact hbk)).cell (i:=lo+k) (by rw[HMM.o];omega);have q2:=(HC3.o.mem.set bk (by rw[HBN.o];exact hbk)).frozen (lo+k);have q3:=(HC3.o.mem.set bk (by rw[HBN.o];exact hbk)).lt
   have hne:A.bk bk≠A.sb bk:=fun e=>by
    have h1:=HH.o.kd.kbk bk (by rw[HBN.o];exact hbk);have h2:=HH.o.kd.ksb bk (by rw[HBN.o];exact hbk);rw[e] at h1;omega
   have HKD:Hd (∀x∈[A.bk bk,A.sb bk],A.kd x<40):=hd (fun x hx=>by
    have h1:=HH.o.kd.kbk bk (by rw[HBN.o];exact hbk);have h2:=HH.o.kd.ksb bk (by rw[HBN.o];exact hbk);simp at hx;rcases hx with rfl|rfl<;>omega)
   clear hF hJ hr hw1 hEq;go_wp2_with fail
   go_roundw
   case rel=>exact⟨k+1,by go_num,by omega,hd (HE3.o.trans (Aj.of (T:=[A.bk bk,A.sb bk]) ((er.setCell (.inl (by simp)) _).setCell (.inl (by simp)) _) HKD.o)),hd (by have:=Ag.putP2 bk (by rw[HBN.o];exact hbk) lo k (n:Nat) ws HC3.o;rw[HWV.o] at this;exact this)⟩
   case measure=>simp[intOf];omega
  ·have hkn:k=n:=by omega
   subst hkn;have HCE:=hd (HCk.o.setQ d HDQ.o);have q162:=HCk.o.cell (i:=162) (by omega) (v:=.slice (some A.qb) m.queues.toNat m.queues.toNat) rfl;rw[HQV.o] at q162;have qd:=HCk.o.que.queue.cell (i:=d) HDQ.o;have qdl:=HCk.o.que.queue.lt;have qdf:=HCk.o.que.queue.frozen d;have ql:=HCk.o.lt;clear HTk;go_wp2_with fail
   go_end0
   refine⟨rfl,HEk.o.trans (Aj.of (T:=[A.qb]) (er.setCell (.inl (by simp)) _) (fun x hx=>by rw[ms hx,HH.o.kd.kq];omega)),?_⟩
   rw[HWT.o];exact HCE.o
end
section
attribute [local irreducible] Ax
theorem Rg {w:World}{A:CA}{m:Mc}{xs:List Ins}{S:MS}(h:Ag w A m xs S)(hw:WfM m S)(d:Nat)(hd':d<m.queues.toNat) :
  Calls prog 43 #[.pointer (some A.c),d] w (Fb A m xs (S.wait (d:Nat)) w):=by
 cases hq:S.q (d:Nat) with
 | none=>rw[MS.wait_none hq];exact wait_none h d hd' hq
 | some t=>
  obtain⟨_,_,ht⟩:=hw.q _ _ hq;obtain⟨src,⟨bank,lo,size⟩,ws,rdy⟩:=t;obtain⟨⟨hb,hs,hl,hls⟩,hlen⟩:Su m ⟨bank,lo,size⟩/\(ws.length:Int)=size:=⟨ht.dst,ht.len⟩;dsimp only at hb hs hl hls;obtain⟨lo,rfl⟩:∃k:Nat,lo=k:=⟨lo.toNat,by omega⟩;subst hlen;rcases hb with rfl|⟨hb0,hb1⟩
  ·exact Acz h d lo ws.length hd' src ws rdy hq rfl (by omega) (by unfold Bn at hls;rw[ijp (by omega)] at hls;omega)
  ·obtain⟨bk,rfl⟩:∃k:Nat,bank=k:=⟨bank.toNat,by omega⟩;exact Ac0 h d bk lo ws.length hd' src ws rdy hq rfl (by omega) (by omega) (by unfold Bn at hls;rw[ijn (by omega)] at hls;omega)
theorem Gi {w:World}{A:CA}{m:Mc}{xs:List Ins}{S:MS}(h:Ag w A m xs S)(hw:WfM m S)(p:Nat)(hp:p<=xs.length)(hl:xs.length<=100000) :
  Calls prog 48 #[.pointer (some A.c),p] w (Fb A m xs (Fq m xs {S with pc:=p }) w):=by
 have hm:=Bc h.kd.ok;have q164:=h.cell (i:=164) (by omega) (v:=S.pc) rfl;have q5:=h.cell (i:=5) (by omega) (v:=.slice A.code xs.length A.ccap) rfl;have q162:=h.cell (i:=162) (by omega) (v:=.slice (some A.qb) m.queues.toNat m.queues.toNat) rfl;have qf:=h.chip.frozen 164;have ql:=h.lt;have HC1:=hd (h.setPc p);have HW1:Hd (WfM m {S with pc:=p }):=hd (hw.frame rfl rfl rfl rfl rfl rfl);have HE1:Hd (Aj A w (w.setCell ⟨A.c,164,none⟩ p)):=hd (Aj.of (T:=[A.c]) (er.setCell (.inl (by simp)) _) (fun x hx=>by rw[ms hx,h.kd.kc];omega));have HKC:=hd h.kd.kc;obtain⟨Q,hQ⟩:∃Q,m.queues.toNat=Q:=⟨_,rfl⟩;have hQ4:Q<=4:=by omega
 rw[hQ] at q162;have HQ:=hd hQ;obtain⟨S1,hS1⟩:∃S1,S1=({S with pc:=p }:MS):=⟨_,rfl⟩;have HPC:Hd (S1.pc=p):=hd (by rw[hS1]);rw[<-hS1] at HC1 HW1;rw[<-hS1];clear h hw hm hQ hS1;by_cases hlt:p<xs.length
 ·have HEN:Hd (Fq m xs S1=S1):=hd (by unfold Fq;rw[ijn (by rw[HPC.o];omega)]);go_enter func48,ntmps48
  go_wp2_with fail
  exact bodyPost_ret (results_none rfl _ _ _) rfl ⟨rfl,HE1.o,by rw[HEN.o];exact HC1.o⟩
 ·have HPE:Hd (p=xs.length):=hd (by omega);have HEN:Hd (Fq m xs S1={S1.waits Q with over:=true }):=hd (by unfold Fq;rw[ijp (by rw[HPC.o];exact HPE.o),HQ.o]);go_enter func48,ntmps48
  go_wp2_with fail
  clear q164 q5 q162 qf ql;generalize w.setCell ⟨A.c,164,none⟩ p=w1 at *;go_loopw [21] (fun i wr=>∃k:Nat,i=.int .i64 k/\k<=Q/\Hd (Aj A w wr)/\Hd (Ag wr A m xs (S1.waits k))) (fun i _=>(Q-intOf i).toNat)
  case atStart=>exact⟨0,rfl,by omega,HE1,HC1⟩
  case round=>
   obtain⟨k,rfl,hk,HEk,HCk⟩:=hrel;rename World=>wk
   by_cases hlk:k<Q
   ·have HWT:=hd (Rg HCk.o (HW1.o.waits k) k (by rw[HQ.o];exact hlk));go_wp2_with fail
    refine HWT.o.mono ?_
    rintro e w2 ⟨rfl,hE2,hC2⟩;have HE2:=hd (HEk.o.trans hE2);have HC2:=hd hC2;clear hE2 hC2;go_wp2_with fail
    go_roundw
    case rel=>exact⟨k+1,by go_num,by omega,HE2,HC2⟩
    case measure=>simp[intOf];omega
   ·have hkQ:k=Q:=by omega
    subst hkQ;have q168:=HCk.o.cell (i:=168) (by omega) (v:=.bool (S1.waits k).over) rfl;have qf:=HCk.o.chip.frozen 168;have ql:=HCk.o.lt;go_wp2_with fail
    go_end0
    exact⟨rfl,HEk.o.trans (Aj.of (T:=[A.c]) (er.setCell (.inl (by simp)) _) (fun x hx=>by rw[ms hx,HKC.o];omega)),by rw[HEN.o];exact HCk.o.setOver⟩
end
section
attribute [local irreducible] Ax
theorem Ed:∀st:List (Nat×Int),(Ec st).length=st.length*2
 | []=>rfl
 | (s,i) :: st=>by simp[Ec,Ed st];omega
theorem PL.top {w:World}{A:CA}{s:Nat}{i:Int}{st:List (Nat×Int)}(h:PL w A ((s,i) :: st)) :
  ∃g cap:Nat,A.lv=.slice (some g) (st.length+1) cap/\st.length+1<=cap/\g<w.heap.size/\A.kd g=7/\w.cell? ⟨g,st.length*2,none⟩=some (.int .i64 (s:Int))/\w.cell? ⟨g,st.length*2+1,none⟩=some (.int .i64 (i-1))/\∀j,w.frozen? ⟨g,j,none⟩=false:=by
 obtain⟨h1,h2⟩:=h;rcases h1.2 with⟨hv,hx⟩|⟨g,c,cur,hv,hb,hg,hc,hs,hp⟩
 ·simp at hx
 ·have hB:Blk w g 133 cur:=hg;have hcell:=h1.cells (g:=g) (by rw[hv];rfl);have hl:=Ed st;have f:=fun j u (hu:(Ec ((s,i) :: st))[j]? = some u)=>by have:=hcell j u hu;rw[Addr.add_mk,Nat.zero_add] at this;exact this
  refine⟨g,c,hv,by simpa using hc,hB.lt,h2 g (by rw[hv];rfl),f _ _ ?_,f _ _ ?_,hB.frozen⟩
  ·show(Ec st ++ _)[_]? = _
   rw[List.getElem?_append_right (by omega),hl,Nat.sub_self];rfl
  ·show(Ec st ++ _)[_]? = _
   rw[List.getElem?_append_right (by omega),hl,show st.length*2+1-st.length*2=1 by omega];rfl
def Rh (B:Nat):Bo:=⟨Nat,0,fun b=>.pointer (some ⟨b,0,none⟩),fun b w=>Blk w b 133 #[(0:Int),(0:Int)]/\B<=b⟩
theorem Rh.stays {B:Nat}:∀y w w',RH [] w w'->(Rh B).V y w->(Rh B).V y w':=fun _ _ _ hR h=>⟨Blk.ext h.1 hR.1 List.not_mem_nil,h.2⟩
theorem Ua {w:World}{A:CA}{m:Mc}{xs:List Ins}{S:MS}(h:Ag w A m xs S)(hw:WfM m S)(s:Nat)(i:Int)(st:List (Nat×Int))(ht:S.turns=(s,i+1) :: st)(hi:0<=i/\i<=1000000)(hs:s+1<=xs.length)(hl:xs.length<=100000)(hst:st.length<=100000)
  (lo lk ld la lb lc lp ln lm:Int) (hv:VI m ⟨lo,lk,ld,la,lb,lc,lp,ln,lm⟩) (hcy:0<=S.cyc/\S.cyc<=1000000000000) :
  Calls prog 84 #[.pointer (some A.c),.agg #[lo,lk,ld,la,lb,lc,lp,ln,lm]] w (Fb A m xs (Fq m xs {S with cyc:=S.cyc+1,r:=Be S.r ld (w32 (ln+i*lc)),pc:=s+1 }) w):=by
 have HH:=hd h;have hld:=hv.d;have hlc:=hv.c;have hln:=hv.n;obtain⟨d,rfl⟩:∃d:Nat,ld=d:=⟨ld.toNat,by dsimp only at hld;omega⟩;have hd16:d<16:=by dsimp only at hld;omega
 have hdZ:((d:Nat):Int)<16:=by omega
 have hc0 : -1000<=lc:=hlc.1;have hc1:lc<=1000:=hlc.2;have hn0 : -2147483648<=ln:=hln.1;have hn1:ln<=2147483647:=hln.2;obtain⟨hi0,hi1⟩:=hi
 have hic : -1000000000<=i*lc/\i*lc<=1000000000:=by
  have h1:=Int.natAbs_mul i lc;have h2:i.natAbs<=1000000:=by omega
  have h3:lc.natAbs<=1000:=by omega
  have h4:=Nat.mul_le_mul h2 h3;rw[<-h1] at h4;omega
 have hloops:=h.loops;rw[ht] at hloops;obtain⟨g,cap,hlv,hcap,hgl,hgk,hc1',hc2',hgf⟩:=hloops.top;have HLV:=hd hlv;have HG1:=hd hc1';have HG2:Hd (w.cell? ⟨g,st.length*2+1,none⟩=some (.int .i64 i)):=hd (by rw[hc2'];congr 2;omega);have HW:=hd hw;have hcy0:=hcy.1;have hcy1:=hcy.2;have HX:=hd (Blk.new w 76 #[lo,lk,d,la,lb,lc,lp,ln,lm]);have HE0:=hd ((Ext.refl [] w).alloc (.cells #[lo,lk,d,la,lb,lc,lp,ln,lm] 76));generalize hL:st.length=L at *;clear h hw ht hv hld hlc hln hlv hc1' hc2' hgf hgk hloops hcy hL;have hsl:((L:Int)+1-1).toNat=L:=by omega
 have hLL:(L:Int)<(L:Int)+1:=by omega
 go_enter func84,ntmps84
 go_wp2_with fail
 generalize w.alloc (.cells #[lo,lk,d,la,lb,lc,lp,ln,lm] 76)=w0 at *;generalize hxb:w.heap.size=xbk at *;have hx0:xbk<w0.heap.size:=HX.o.lt;refine rgH 13 [(12,Rh w0.heap.size)] ?_ ?_
 ·exact Ah.cons Rh.stays Ah.nil
 simp only[TK]
 repeat(refine dE (fun wr nr hJ=>by(have hE:=HE0.o.trans hJ.1;have hC:=HH.o.nil hE;have q163:=hC.cell (i:=163) (by omega) (v:=A.lv) rfl;rw[HLV.o] at q163;have ql:=hC.lt;have g1:=hE.held HG1.o (by simp);have g2:=hE.held HG2.o (by simp);have gl:g<wr.heap.size:=nl hgl (by have:=hE.size;omega);clear hC hE);clear hJ;exact CL) ?_;simp only[PT])
 refine Ct (Rh w0.heap.size) rfl rfl ?_ ?_
 ·intro wr nr hJ hf;refine⟨wr.heap.size,.cells #[(0:Int),(0:Int)] 133,?_,Blk.new _ _ _,by have:=hJ.1.size;exact this⟩
  clear hJ hf;go_simp
  first|rfl|exact⟨rfl,rfl⟩
 intro (b12:Nat);simp only[PT];dsimp only[Rh];refine Aa (fun w1 hJ hF=>?_)
 have hf12:Blk w1 b12 133 #[(0:Int),(0:Int)]/\w0.heap.size<=b12:=hF 12;have HB12:=hd hf12.1;have hb12:=hf12.2;have hbl12:=HB12.o.lt;have hbc:=HB12.o.cell;have hbf:=HB12.o.frozen;have HE1:=hd (HE0.o.trans hJ.1);have HX1:=hd (HX.o.ext hJ.1 (by simp));have hcb:A.c<xbk:=by have:=HH.o.lt;omega
 have hcne:A.c≠b12:=by omega
 have q165:=(HH.o.nil HE1.o).cell (i:=165) (by omega) (v:=S.cyc) rfl;have q165f:=(HH.o.nil HE1.o).chip.frozen 165;have qcl:=(HH.o.nil HE1.o).lt;clear hF hJ hf12;have HE2:Hd (Ext [] w ((w1.setCell ⟨b12,0,none⟩ s).setCell ⟨b12,1,none⟩ i)):=hd ((HE1.o.setCell (.inr (by simp only;omega)) _).setCell (.inr (by simp only;omega)) _);have HC2:=hd ((HH.o.nil HE2.o).setCyc (S.cyc+1));have HB2:=hd (((HB12.o.set_' 0 s #[s,(0:Int)] rfl).set_' 1 i #[s,i] rfl).far (p:=⟨A.c,165,none⟩) (Ne.symm hcne) (.int .i64 (S.cyc+1)));have HX2:=hd (((HX1.o.far (p:=⟨b12,0,none⟩) (show xbk≠b12 by omega) (.int .i64 s)).far (p:=⟨b12,1,none⟩) (show xbk≠b12 by omega) (.int .i64 i)).far (p:=⟨A.c,165,none⟩) (show xbk≠A.c by omega) (.int .i64 (S.cyc+1)));have HE3:=hd (Aj.of (A:=A) (T:=[A.c]) (HE2.o.nil.setCell (p:=⟨A.c,165,none⟩) (.inl (by simp)) (.int .i64 (S.cyc+1))) (fun x hx=>by rw[ms hx,HH.o.kd.kc];omega));go_wp2_with fail
 clear q165 q165f qcl hbc hbf;generalize ((w1.setCell ⟨b12,0,none⟩ s).setCell ⟨b12,1,none⟩ i).setCell ⟨A.c,165,none⟩ (.int .i64 (S.cyc+1))=w2 at *;obtain⟨P,hP⟩:∃P,P=i*lc:=⟨_,rfl⟩;have hw1:IntKind.i64.wrap (i*lc)=P:=by rw[hP];exact IntWalk.i64_in _ (by omega)
 rw[<-hP] at hic;obtain⟨hp0,hp1⟩:=hic;have hw2:IntKind.i64.wrap (ln+P)=ln+P:=IntWalk.i64_in _ (by omega);have HP:=hd hP;clear hP;have hrun:=Ja (ln+P);have HWR:=hd hrun;clear hrun;refine rgE 14 [(11,Bv (.int .i64 (w32 (ln+P))))] ?_
 simp only[TK]
 repeat(refine dE (fun wr nr hJ=>by(have qx:=HX2.o.ext hJ (by simp);have qxc:=qx.cell;have qxl:=qx.lt;have qb:=HB2.o.ext hJ (by simp);have qbc:=qb.cell;have qbl:=qb.lt;clear qx qb);clear hJ;exact CL) ?_;simp only[PT])
 refine Bj rfl rfl ?_ ?_
 ·apply Exists.intro
  apply Exists.intro
  refine⟨fun wr=>?_,fun wr nr hJ=>?_⟩
  ·go_simp
   first|exact⟨rfl,rfl⟩|rfl
  ·exact(HWR.o _).mono (fun e w' h=>⟨h.1,by rw[h.2];exact er⟩)
 simp only[PT]
 repeat(refine dE (fun wr nr hJ=>by(have qx:=HX2.o.ext hJ (by simp);have qxc:=qx.cell;have qxl:=qx.lt;have qb:=HB2.o.ext hJ (by simp);have qbc:=qb.cell;have qbl:=qb.lt;clear qx qb);clear hJ;exact CL) ?_;simp only[PT])
 refine Aa (fun w3 hJ hF=>?_)
 have HC3:=hd (HC2.o.nil hJ);have HE4:=hd (HE3.o.trans (Aj.of hJ (by simp)));have HB3:=hd (HB2.o.ext hJ (by simp));have q1:=HC3.o.reg hd16;have q2:=HC3.o.chip.frozen (10+d);have q3:=HC3.o.lt;have qbc:=HB3.o.cell;have qbl:=HB3.o.lt;have HC4:=hd (HC3.o.setReg d hd16 (w32 (ln+P)));have HE5:=hd (HE4.o.trans (Aj.of (A:=A) (T:=[A.c]) (er.setCell (p:=⟨A.c,10+d,none⟩) (.inl (by simp)) (.int .i64 (w32 (ln+P)))) (fun x hx=>by rw[ms hx,HH.o.kd.kc];omega)));have HWF:Hd (WfM m {S with cyc:=S.cyc+1,r:=Be S.r (d:Nat) (w32 (ln+P)) }):=hd (HW.o.setR (d:Nat) (Hl _) rfl rfl rfl rfl rfl rfl);clear hF hJ hw1 hw2;go_wp2_with fail
 refine(Gi HC4.o HWF.o (s+1) hs hl).mono ?_
 rintro e w5 ⟨rfl,hE5,hC5⟩;have HE6:=hd (HE5.o.trans hE5);have HC5:=hd hC5;rw[HP.o] at HC5;clear hE5 hC5;go_wp2_with fail
 go_end0
 exact⟨rfl,HE6.o,HC5.o⟩
end
section
section
variable {w w':World} {A:CA} {m:Mc} {xs:List Ins} {S:MS} {T:List Nat}
theorem RdC.lt {A:Option Addr}{xs:List Ins}(h:RdC w A xs)(hx:xs≠[]){a:Addr}(ha:A=some a):a.block<w.heap.size:=by
 rcases h with h|⟨b,o,rfl,h⟩
 ·exact absurd h hx
 ·cases ha
  obtain⟨x,l,rfl⟩:=List.exists_cons_of_ne_nil hx;have:=h 0 x rfl 0 (.int .i64 x.op) rfl;exact World.block_lt_of_cell? w _ this
theorem PL.own (h:PL w A S.turns):∀g,A.lv.ownBlock=some g->g<w.heap.size:=fun g hg=>(h.1.lt g hg).2
theorem Ag.rekd (h:Ag w A m xs S)(kd':Nat->Nat)(hk:∀b,b<w.heap.size->kd' b=A.kd b):Ag w {A with kd:=kd' } m xs S where
 chip:=h.chip
 stat:=⟨h.stat.code,h.stat.ends,h.stat.banks,h.stat.sets,h.stat.mcap⟩
 mem:=⟨h.mem.main,h.mem.bank,h.mem.set⟩
 que:=⟨h.que.queue,fun i hi t ht=>by
  obtain⟨h1,h2,h3,h4⟩:=h.que.trs i hi t ht;exact⟨h1,h2,by show kd' _=_;rw[hk _ h1.lt];exact h3,fun a ha=>⟨by show kd' _=_;rw[hk _ (h4 a ha).2];exact(h4 a ha).1,(h4 a ha).2⟩⟩⟩
 loops:=⟨h.loops.1,fun g hg=>by show kd' g=7;rw[hk g (h.loops.own g hg)];exact h.loops.2 g hg⟩
 kd:={
  ok:=h.kd.ok
  kc:=by show kd' _=_;rw[hk _ h.chip.lt];exact h.kd.kc
  km:=by show kd' _=_;rw[hk _ h.mem.main.lt];exact h.kd.km
  kb:=by show kd' _=_;rw[hk _ h.stat.banks.lt];exact h.kd.kb
  ks:=by show kd' _=_;rw[hk _ h.stat.sets.lt];exact h.kd.ks
  kq:=by show kd' _=_;rw[hk _ h.que.queue.lt];exact h.kd.kq
  ke:=by show kd' _=_;rw[hk _ h.stat.ends.lt];exact h.kd.ke
  ko:=by
   by_cases hx:xs=[]
   ·exact .inl hx
   ·refine .inr (fun a ha=>?_)
    show kd' _=_
    rw[hk _ (h.stat.code.lt hx ha)];exact(h.kd.ko.resolve_left hx) a ha
  kbk:=fun b hb=>by show kd' _=_;rw[hk _ (h.mem.bank b hb).lt];exact h.kd.kbk b hb
  ksb:=fun b hb=>by show kd' _=_;rw[hk _ (h.mem.set b hb).lt];exact h.kd.ksb b hb }
theorem Ahc (m:Mc)(A:CA)(S:MS)(n:Nat)(lv:Value)(st:List (Nat×Int)){j:Nat}(hj:j≠163):chF m A S n j=chF m {A with lv:=lv } {S with turns:=st } n j:=by
 unfold chF;rw[ijn (c:=j=163) hj,ijn (c:=j=163) hj];rfl
theorem Ag.setLv (h:Ag w A m xs S)(hE:Ext T w w')(hT:∀x∈T,A.kd x=7)(lv:Value)(st:List (Nat×Int))(hl:PL w' {A with lv:=lv } st) :
  Ag (w'.setCell ⟨A.c,163,none⟩ lv) {A with lv:=lv } m xs {S with turns:=st }:=by
 have hE2:Ext [A.c] w' (w'.setCell ⟨A.c,163,none⟩ lv):=er.setCell (.inl (by simp)) _;have hT2:∀x∈[A.c],A.kd x=0:=fun x hx=>by rw[ms hx];exact h.kd.kc
 have hEE:Ext (A.c :: T) w (w'.setCell ⟨A.c,163,none⟩ lv):=(hE.mono (fun x hx=>.inl (by simp[hx]))).trans (hE2.mono (fun x hx=>.inl (by simp at hx;simp[hx])))
 have hTT:∀x∈A.c :: T,A.kd x=0\/A.kd x=7:=fun x hx=>by
  rcases List.mem_cons.1 hx with rfl|hx
  ·exact .inl h.kd.kc
  ·exact .inr (hT x hx)
 have st':=h.stat.ext h.kd hEE (fun x hx=>by have:=hTT x hx;omega);have me':=h.mem.ext h.kd hEE (fun x hx=>by have:=hTT x hx;omega);have qu':=h.que.ext h.kd hEE (fun x hx=>by have:=hTT x hx;omega);have hc1:=h.chip.ext hE (fun hm=>by have h0:=hT _ hm;have h1:=h.kd.kc;omega);refine⟨hc1.set_' 163 lv _ (Pm 163 (fun j _ hj=>Ahc m A S _ lv st hj) (fun _=>rfl)),⟨st'.code,st'.ends,st'.banks,st'.sets,st'.mcap⟩,⟨me'.main,me'.bank,me'.set⟩,⟨qu'.queue,qu'.trs⟩,?_,⟨h.kd.ok,h.kd.kc,h.kd.km,h.kd.kb,h.kd.ks,h.kd.kq,h.kd.ke,h.kd.ko,h.kd.kbk,h.kd.ksb⟩⟩
 refine⟨An hl.1 hE2 (fun g hg hm=>?_),hl.2⟩
 have h0:=hT2 _ hm;have h1:A.kd g=7:=hl.2 g hg;omega
theorem PL.setTop {s:Nat}{i:Int}{st:List (Nat×Int)}(h:PL w A ((s,i) :: st))(g cap:Nat)(hlv:A.lv=.slice (some g) (st.length+1) cap)(j:Int):PL (w.setCell ⟨g,st.length*2+1,none⟩ (.int .i64 (j-1))) A ((s,j) :: st):=by
 obtain⟨⟨h0,h1⟩,h2⟩:=h;refine⟨⟨by simp[Ed],?_⟩,h2⟩
 rcases h1 with⟨hv,hx⟩|⟨g',c,cur,hv,hb,hg,hc,hm,hs,hp⟩
 ·rw[hlv] at hv;cases hv
 ·have hv':=hv;rw[hlv] at hv;injection hv with e1 e2 e3;injection e1 with e1;injection e1 with e1;subst e1;have hB:Blk w g 133 cur:=hg;refine .inr ⟨g,c,_,hv',hb,hB.set_ (st.length*2+1) _,hc,hm,by simpa using hs,?_⟩
  have hl:=Ed st;simp only[List.length_cons] at hc hp⊢;have hp2:cur.toList.take ((st.length+1)*2)=Ec st ++ [.int .i64 (s:Int),.int .i64 (i-1)]:=hp;show(cur.setIfInBounds (st.length*2+1) _).toList.take ((st.length+1)*2)=Ec st ++ [.int .i64 (s:Int),.int .i64 (j-1)]
  rw[Array.toList_setIfInBounds,List.take_set,hp2,List.set_append,ijn (by omega),hl,show st.length*2+1-st.length*2=1 by omega];rfl
theorem PL.pop {s:Nat}{i:Int}{st:List (Nat×Int)}(h:PL w A ((s,i) :: st))(g cap:Nat)(hlv:A.lv=.slice (some g) (st.length+1) cap):PL w {A with lv:=.slice (some g) st.length cap } st:=by
 obtain⟨⟨h0,h1⟩,h2⟩:=h;refine⟨⟨Ed st,?_⟩,fun g' hg'=>h2 g' (by rw[hlv];exact hg')⟩
 rcases h1 with⟨hv,hx⟩|⟨g',c,cur,hv,hb,hg,hc,hm,hs,hp⟩
 ·rw[hlv] at hv;cases hv
 ·rw[hlv] at hv;injection hv with e1 e2 e3;injection e1 with e1;injection e1 with e1;subst e1 e3;have hl:=Ed st;simp only[List.length_cons] at hc hp;refine .inr ⟨g,cap,cur,rfl,hb,hg,by omega,hm,hs,?_⟩
  have hp2:cur.toList.take ((st.length+1)*2)=Ec st ++ [.int .i64 (s:Int),.int .i64 (i-1)]:=hp;have:=congrArg (List.take (st.length*2)) hp2;rw[List.take_take,Nat.min_eq_left (by omega),List.take_append_of_le_length (by omega),List.take_of_length_le (l:=Ec st) (by omega)] at this;exact this
theorem Ag.setTop (h:Ag w A m xs S){s:Nat}{i:Int}{st:List (Nat×Int)}(ht:S.turns=(s,i) :: st)(g cap:Nat)(hlv:A.lv=.slice (some g) (st.length+1) cap)(j:Int) :
  Ag (w.setCell ⟨g,st.length*2+1,none⟩ (.int .i64 (j-1))) A m xs {S with turns:=(s,j) :: st }:=by
 have hg:A.kd g=7:=h.loops.2 g (by rw[hlv];rfl);have hE:Ext [g] w (w.setCell ⟨g,st.length*2+1,none⟩ (.int .i64 (j-1))):=er.setCell (.inl (by simp)) _;have hT:∀x∈[g],A.kd x=7:=fun x hx=>by rw[ms hx];exact hg
 have hl:=h.loops;rw[ht] at hl;refine⟨h.chip.ext hE (fun hm=>by have h0:=hT _ hm;have h1:=h.kd.kc;omega),h.stat.ext h.kd hE (fun x hx=>by have:=hT x hx;omega),h.mem.ext h.kd hE (fun x hx=>by have:=hT x hx;omega),h.que.ext h.kd hE (fun x hx=>by have:=hT x hx;omega),hl.setTop g cap hlv j,h.kd⟩
theorem Bz.length {m:Mc}(hc:Bh m 0 xs=0):∀{st:List (Nat×Int)} {p:Nat},Bz xs st p->st.length+min (Gh xs p) xs.length<=xs.length
 | [],p,_=>by simp;omega
 | (s,i) :: st,p,h=>by
  unfold Bz at h;obtain⟨⟨l,a,b,_⟩,_,h3,h4⟩:=h;obtain⟨y,hy,_⟩:=Qh hc a b;have h5:=(ils hy).1;have h6:=Bz.length hc h4;have h7:=Uy xs (Gh xs (s+1)+1);rw[h3];simp only[List.length_cons];omega
end
theorem Ext.nine {a w:World}{b:Nat}(h:Ext [] a w)(hb:a.heap.size<=b)(y0 y1 y2 y3 y4 y5 y6 y7 y8:Value):Ext [] a (((((((((w.setCell ⟨b,0,none⟩ y0).setCell ⟨b,1,none⟩ y1).setCell ⟨b,2,none⟩ y2).setCell ⟨b,3,none⟩ y3).setCell ⟨b,4,none⟩ y4).setCell ⟨b,5,none⟩ y5).setCell ⟨b,6,none⟩ y6).setCell ⟨b,7,none⟩ y7).setCell ⟨b,8,none⟩ y8):=
 Ext.setAt (.inr hb) (Ext.setAt (.inr hb) (Ext.setAt (.inr hb) (Ext.setAt (.inr hb) (Ext.setAt (.inr hb) (Ext.setAt (.inr hb) (Ext.setAt (.inr hb) (Ext.setAt (.inr hb) (Ext.setAt (.inr hb) (h)))))))))
def Og (A:CA)(m:Mc)(xs:List Ins)(S:MS)(w:World)(e:Ending)(w':World):Prop:=e=.returned (.tuple #[])/\∃A',Aj A w w'/\Ag w' A' m xs S/\A'.c=A.c/\∀b,b<w.heap.size->A'.kd b=A.kd b
theorem Fb.doneF {A:CA}{m:Mc}{xs:List Ins}{S:MS}{w w':World}{e:Ending}(h:Fb A m xs S w e w'):Og A m xs S w e w':=⟨h.1,A,h.2.1,h.2.2,rfl,fun _ _=>rfl⟩
theorem Aj.re {A A':CA}{w w1 w2:World}(h1:Aj A w w1)(h2:Aj A' w1 w2)(hk:∀b,b<w.heap.size->A'.kd b=A.kd b):Aj A w w2:=by
 obtain⟨T,a1,a2⟩:=h1;obtain⟨U,b1,b2⟩:=h2;refine⟨T ++ U.filter (fun x=>decide (x<w.heap.size)),(a1.mono (fun x hx=>.inl (by simp[hx]))).step b1 (fun x hx=>?_),fun x hx=>?_⟩
 ·by_cases hlt:x<w.heap.size
  ·exact .inl (by simp[hx,hlt])
  ·exact .inr (by omega)
 ·rcases List.mem_append.1 hx with hx|hx
  ·exact a2 x hx
  ·simp at hx;rw[<-hk x hx.2];exact b2 x hx.1
end
section
attribute [local irreducible] Ax
def sIx (B:Nat):Bo:=⟨Nat,0,fun b=>.pointer (some ⟨b,0,none⟩),fun b w=>Blk w b 76 #[(0:Int),(0:Int),(0:Int),(0:Int),(0:Int),(0:Int),(0:Int),(0:Int),(0:Int)]/\B<=b⟩
theorem sIx.stays {B:Nat}:∀y w w',RH [] w w'->(sIx B).V y w->(sIx B).V y w':=fun _ _ _ hR h=>⟨Blk.ext h.1 hR.1 List.not_mem_nil,h.2⟩
theorem Afe {w:World}{A:CA}{m:Mc}{xs:List Ins}{S:MS}(h:Ag w A m xs S)(hw:WfM m S)(s:Nat)(i:Int)(st:List (Nat×Int))(ht:S.turns=(s,i) :: st)(hi:1<=i/\i<=1000000)(hpc:S.pc<xs.length)(hl:xs.length<=100000)(hst:st.length<=100000)
  (lo lk ld la lb lc lp ln lm:Int) (hx:xs[s]? = some ⟨lo,lk,ld,la,lb,lc,lp,ln,lm⟩) (hv:VI m ⟨lo,lk,ld,la,lb,lc,lp,ln,lm⟩) (hce:Gh xs (s+1)=S.pc) (hcy:0<=S.cyc/\S.cyc<=1000000000000) (xk xd xa xb xc xp xn xm:Int) :
  Calls prog 47 #[.pointer (some A.c),.agg #[(4:Int),xk,xd,xa,xb,xc,xp,xn,xm]] w (Og A m xs (Fq m xs (Cz xs S s i st ⟨lo,lk,ld,la,lb,lc,lp,ln,lm⟩)) w):=by
 have HH:=hd h;have HV:=hd hv;have HT:=hd ht;have hloops:=h.loops;rw[ht] at hloops;obtain⟨g,cap,hlv,hcap,hgl,hgk,hc1',hc2',hgf⟩:=hloops.top;have HLV:=hd hlv;have HG1:=hd hc1';have HG2:=hd hc2';have HGF:=hd hgf;have HW:=hd hw;have HGK:=hd hgk;have hs1:s<xs.length:=(ils hx).1;have hs1I:((s:Nat):Int)<xs.length:=by omega
 have hlm0:=hv.lo;obtain⟨cb,co,hcode,hcb,hcx⟩:=h.stat.code.at hx;have HCD:=hd hcode;have HX0:=hd (hcx 0 _ rfl);have HX1:=hd (hcx 1 _ rfl);have HX2:=hd (hcx 2 _ rfl);have HX3:=hd (hcx 3 _ rfl);have HX4:=hd (hcx 4 _ rfl);have HX5:=hd (hcx 5 _ rfl);have HX6:=hd (hcx 6 _ rfl);have HX7:=hd (hcx 7 _ rfl);have HX8:=hd (hcx 8 _ rfl);have HCE:=hd hce;have HCY:=hd hcy;have HS1:Hd (s+1<=xs.length):=hd hs1;have HPC:=hd hpc;have HE0:=hd ((Ext.refl [] w).alloc (.cells #[(4:Int),xk,xd,xa,xb,xc,xp,xn,xm] 76));have HGE:Hd (∀wq,Ext [] w wq->PL wq A ((s,i) :: st)):=hd (fun wq hq=>by have:=(HH.o.nil hq).loops;rw[HT.o] at this;exact this);have HSTL:=hd hst;obtain⟨hi0,hi1⟩:=hi;obtain⟨L,hL⟩:∃L,L=st.length:=⟨_,rfl⟩;have HL:=hd hL;rw[<-hL] at hlv HG1 HG2 HLV hcap;have HXL:=hd hl;clear h hw ht hv hx hlv hc1' hc2' hgf hgk hloops hcode hcx hce hcy hlm0 hL hst hpc;have hsl:((L:Int)+1-1).toNat=L:=by omega
 have hLL:(L:Int)<(L:Int)+1:=by omega
 have hLb:L<=100000:=by have h1:=HL.o;have h2:=HSTL.o;omega
 go_enter func47,ntmps47
 go_wp2_with fail
 generalize w.alloc (.cells #[(4:Int),xk,xd,xa,xb,xc,xp,xn,xm] 76)=w0 at *;refine rgE 11 [] ?_
 simp only[TK]
 repeat(refine dE (fun wr nr hJ=>by(have hE:=HE0.o.trans hJ;have hC:=HH.o.nil hE;have q163:=hC.cell (i:=163) (by omega) (v:=A.lv) rfl;rw[HLV.o] at q163;have ql:=hC.lt;clear hC hE);clear hJ;exact CL) ?_;simp only[PT])
 refine Aa (fun w1 hJ hF=>?_)
 have HE1:=hd (HE0.o.trans hJ);clear hF hJ;go_wp2_with fail
 refine rgH 11 [(10,sIx w1.heap.size)] ?_ ?_
 ·exact Ah.cons sIx.stays Ah.nil
 simp only[TK]
 repeat(refine dE (fun wr nr hJ=>by(have hE:=HE1.o.trans hJ.1;have hC:=HH.o.nil hE;have q5:=hC.cell (i:=5) (by omega) (v:=.slice A.code xs.length A.ccap) rfl;rw[HCD.o] at q5;have ql:=hC.lt;have g1:=hE.held HG1.o (by simp);have g2:=hE.held HG2.o (by simp);have gl:g<wr.heap.size:=nl hgl (by have:=hE.size;omega);have x0:=hE.held HX0.o (by simp);rw[Nat.add_zero] at x0;have x1:=hE.held HX1.o (by simp);have x2:=hE.held HX2.o (by simp);have x3:=hE.held HX3.o (by simp);have x4:=hE.held HX4.o (by simp);have x5:=hE.held HX5.o (by simp);have x6:=hE.held HX6.o (by simp);have x7:=hE.held HX7.o (by simp);have x8:=hE.held HX8.o (by simp);clear hC hE);clear hJ;exact CL) ?_;simp only[PT])
 refine Ct (sIx w1.heap.size) rfl rfl ?_ ?_
 ·intro wr nr hJ hf;refine⟨wr.heap.size,.cells #[(0:Int),(0:Int),(0:Int),(0:Int),(0:Int),(0:Int),(0:Int),(0:Int),(0:Int)] 76,?_,Blk.new _ _ _,by have:=hJ.1.size;exact this⟩
  clear hJ hf;go_simp
  first|rfl|exact⟨rfl,rfl⟩
 intro (b10:Nat);simp only[PT];dsimp only[sIx];refine Aa (fun w2 hJ hF=>?_)
 have hf10:Blk w2 b10 76 #[(0:Int),(0:Int),(0:Int),(0:Int),(0:Int),(0:Int),(0:Int),(0:Int),(0:Int)]/\w1.heap.size<=b10:=hF 10;have HB2:=hd hf10.1;have hb10:w.heap.size<=b10:=by have h1:=hf10.2;have h2:=HE1.o.size;omega
 have HE2:=hd (HE1.o.trans hJ.1);have hbc:=HB2.o.cell;have hbf:=HB2.o.frozen;have hbl:=HB2.o.lt;clear hF hJ hf10;have HB3:=hd (HB2.o.all9 (.int .i64 lo) (.int .i64 lk) (.int .i64 ld) (.int .i64 la) (.int .i64 lb) (.int .i64 lc) (.int .i64 lp) (.int .i64 ln) (.int .i64 lm));have HE3:=hd (HE2.o.nine hb10 (.int .i64 lo) (.int .i64 lk) (.int .i64 ld) (.int .i64 la) (.int .i64 lb) (.int .i64 lc) (.int .i64 lp) (.int .i64 ln) (.int .i64 lm));go_upto_region 8 with fail
 clear hbc hbf hbl;generalize ((((((((w2.setCell ⟨b10,0,none⟩ lo).setCell ⟨b10,1,none⟩ lk).setCell ⟨b10,2,none⟩ ld).setCell ⟨b10,3,none⟩ la).setCell ⟨b10,4,none⟩ lb).setCell ⟨b10,5,none⟩ lc).setCell ⟨b10,6,none⟩ lp).setCell ⟨b10,7,none⟩ ln).setCell ⟨b10,8,none⟩ lm=w3 at *;have HL3:=hd (HGE.o _ HE3.o);have HC3:=hd (HH.o.nil HE3.o);have hgc:=HE3.o.held HG2.o (by simp);have hgf:w3.frozen? ⟨g,L*2+1,none⟩=false:=by rw[HE3.o.frozen hgl (by simp)];exact HGF.o _
 have hgl3:g<w3.heap.size:=nl hgl HE3.o.size;have HC4:Hd (Ag (w3.setCell ⟨g,L*2+1,none⟩ i) A m xs {S with turns:=(s,i+1) :: st }):=hd (by have:=HC3.o.setTop HT.o g cap (by rw[HLV.o,HL.o]) (i+1);rw[Int.add_sub_cancel,<-HL.o] at this;exact this);have HE4:Hd (Aj A w (w3.setCell ⟨g,L*2+1,none⟩ i)):=hd (Aj.of (T:=[g]) (HE3.o.nil.setCell (.inl (by simp)) _) (fun x hx=>by rw[ms hx,HGK.o];omega));have HB4:Hd (Blk (w3.setCell ⟨g,L*2+1,none⟩ i) b10 76 #[lo,lk,ld,la,lb,lc,lp,ln,lm]):=hd (HB3.o.far (p:=⟨g,L*2+1,none⟩) (show b10≠g by omega) _);have HG4:Hd ((w3.setCell ⟨g,L*2+1,none⟩ i).cell? ⟨g,L*2+1,none⟩=some (.int .i64 i)):=hd (by have:=HC4.o.loops;obtain⟨g',c',e1,_,_,_,_,e2,_⟩:=this.top;rw[HLV.o] at e1;injection e1 with e1;injection e1 with e1;injection e1 with e1;subst e1;rw[Int.add_sub_cancel,<-HL.o] at e2;exact e2);have hii:i-1+1=i:=by omega
 go_wp2_with fail
 generalize w3.setCell ⟨g,L*2+1,none⟩ i=w4 at *;clear hgc hgf hgl3 hii;have hgl4:g<w4.heap.size:=by have:=HE4.o.size;omega
 have hbl4:=HB4.o.lt;by_cases hm:lm<=i
 ·have hlt:decide (i<lm)=false:=by simp;omega
  have HB:Hd (Cz xs S s i st ⟨lo,lk,ld,la,lb,lc,lp,ln,lm⟩={S with turns:=st,pc:=S.pc+1 }):=hd (by unfold Cz;rw[ijp hm,show(cnt xs xs.length (s+1)).2=S.pc from HCE.o]);refine rgE 7 [] ?_
  simp only[TK]
  repeat(refine dE (fun wr nr hJ=>by(have qg:=HG4.o;have qx:=HB4.o.cell;have qg':=hJ.held qg (by simp);have qx':∀j:Nat,wr.cell? ⟨b10,j,none⟩=w4.cell? ⟨b10,j,none⟩:=fun j=>hJ.cell (p:=⟨b10,j,none⟩) hbl4 (by simp);have q8:=(qx' 8).trans (qx 8);have gl:g<wr.heap.size:=nl hgl4 hJ.size;have bl:b10<wr.heap.size:=nl hbl4 hJ.size;clear qx qx' qg);clear hJ;exact CL) ?_;simp only[PT])
  refine Aa (fun w5 hJ hF=>?_)
  have HC5:=hd (HC4.o.nil hJ);have HE5:=hd (HE4.o.trans (Aj.of (A:=A) hJ (by simp)));clear hF hJ hbl4;have hLc:L<=cap:=by omega
  go_wp2_with fail
  refine rgE 12 [] ?_
  simp only[TK]
  repeat(refine dE (fun wr nr hJ=>by(have hC:=HC5.o.nil hJ;have q163:=hC.cell (i:=163) (by omega) (v:=A.lv) rfl;rw[HLV.o] at q163;have ql:=hC.lt;clear hC);clear hJ;exact CL) ?_;simp only[PT])
  refine Aa (fun w6 hJ hF=>?_)
  have HC6:=hd (HC5.o.nil hJ);have HE6:=hd (HE5.o.trans (Aj.of (A:=A) hJ (by simp)));have q163:=HC6.o.cell (i:=163) (by omega) (v:=A.lv) rfl;have qf:=HC6.o.chip.frozen 163;have ql:=HC6.o.lt;clear hF hJ
  have HC7:Hd (Ag (w6.setCell ⟨A.c,163,none⟩ (.slice (some g) L cap)) {A with lv:=(.slice (some g) L cap) } m xs {S with turns:=st }):=hd (by
   have h1:=HC6.o.loops.pop g cap (by rw[HLV.o,HL.o]);rw[<-HL.o] at h1;exact HC6.o.setLv (T:=[]) er (by simp) _ st h1)
  have HE7:Hd (Aj A w (w6.setCell ⟨A.c,163,none⟩ (.slice (some g) L cap))):=hd (HE6.o.trans (Aj.of (A:=A) (T:=[A.c]) (er.setCell (p:=⟨A.c,163,none⟩) (.inl (by simp)) _) (fun x hx=>by rw[ms hx,HH.o.kd.kc];omega)));have q164:=HC7.o.cell (i:=164) (by omega) (v:=S.pc) rfl;dsimp only at q164;have HN:=hd (Gi HC7.o ((HW.o.frame rfl rfl rfl rfl rfl rfl:WfM m {S with turns:=st })) (S.pc+1) HPC.o HXL.o);have hpc0:0<=S.pc:=Nat.zero_le _;have hpcw:IntKind.i64.wrap ((S.pc:Int)+1)=((S.pc+1:Nat):Int):=by have h1:=HPC.o;have h2:=HXL.o;rw[IntWalk.i64_in _ (by omega)];omega
  go_upto_region 12 with fail
  clear qf;generalize w6.setCell ⟨A.c,163,none⟩ (.slice (some g) L cap)=w7 at *;have ql7:=HC7.o.lt;dsimp only at ql7;go_wp2_with fail
  refine HN.o.mono ?_
  rintro e w8 ⟨rfl,hE8,hC8⟩;have HE8:=hd hE8;have HC8:=hd hC8;clear hE8 hC8;go_wp2_with fail
  go_end0
  exact⟨rfl,{A with lv:=.slice (some g) L cap },HE7.o.trans HE8.o,by rw[HB.o];exact HC8.o,rfl,fun _ _=>rfl⟩
 ·have hlt:decide (i<lm)=true:=by simp;omega
  have HB:Hd (Cz xs S s i st ⟨lo,lk,ld,la,lb,lc,lp,ln,lm⟩={S with turns:=(s,i+1) :: st,r:=Be S.r ld (w32 (ln+i*lc)),cyc:=S.cyc+1,pc:=s+1 }):=hd (by unfold Cz;rw[ijn hm]);have HN:=hd (fun w5 hC=>Ua (w:=w5) (A:=A) (m:=m) (xs:=xs) (S:={S with turns:=(s,i+1) :: st }) hC (HW.o.frame rfl rfl rfl rfl rfl rfl) s i st rfl ⟨by omega,hi1⟩ HS1.o HXL.o HSTL.o lo lk ld la lb lc lp ln lm HV.o HCY.o);refine rgE 7 [] ?_
  simp only[TK]
  repeat(refine dE (fun wr nr hJ=>by(have qg:=HG4.o;have qx:=HB4.o.cell;have qg':=hJ.held qg (by simp);have qx':∀j:Nat,wr.cell? ⟨b10,j,none⟩=w4.cell? ⟨b10,j,none⟩:=fun j=>hJ.cell (p:=⟨b10,j,none⟩) hbl4 (by simp);have q8:=(qx' 8).trans (qx 8);have gl:g<wr.heap.size:=nl hgl4 hJ.size;have bl:b10<wr.heap.size:=nl hbl4 hJ.size;clear qx qx' qg);clear hJ;exact CL) ?_;simp only[PT])
  refine Aa (fun w5 hJ hF=>?_)
  have HC5:=hd (HC4.o.nil hJ);have HE5:=hd (HE4.o.trans (Aj.of (A:=A) hJ (by simp)));have HB5:=hd (HB4.o.ext hJ (by simp));have qc:=HB5.o.cell;have ql:=HB5.o.lt;clear hF hJ hbl4;go_wp2_with fail
  refine(HN.o _ HC5.o).mono ?_
  rintro e w8 ⟨rfl,hE8,hC8⟩;have HE8:=hd (HE5.o.trans hE8);have HC8:=hd hC8;clear hE8 hC8;go_wp2_with fail
  go_end0
  exact⟨rfl,A,HE8.o,by rw[HB.o];exact HC8.o,rfl,fun _ _=>rfl⟩
end
section
attribute [local irreducible] Ax
theorem Ada {w:World}{A:CA}{m:Mc}{xs:List Ins}{S:MS}(h:Ag w A m xs S)(hw:WfM m S)(E:Nat)(hpc:S.pc<xs.length)(hl:xs.length<=100000)(hE':(eSt xs xs.length).2 S.pc=E)(hEl:E+1<=xs.length)(xk xd xa xb xc xp xn:Int) :
  Calls prog 47 #[.pointer (some A.c),.agg #[(3:Int),xk,xd,xa,xb,xc,xp,xn,(0:Int)]] w (Fb A m xs (Fq m xs {S with pc:=E+1 }) w):=by
 have HH:=hd h;have HE0:=hd ((Ext.refl [] w).alloc (.cells #[(3:Int),xk,xd,xa,xb,xc,xp,xn,(0:Int)] 76))
 have HEC:Hd (∀wq,Ext [] w wq->wq.cell? ⟨A.eb,S.pc,none⟩=some (.int .i64 E)/\A.eb<wq.heap.size):=hd (fun wq hq=>by
  have hb:=h.stat.ends.ext hq (by simp);refine⟨?_,hb.lt⟩
  rw[hb.cell S.pc];simp[Db,Jm,hpc,hE'])
 obtain⟨pc,hpc'⟩:∃pc,pc=S.pc:=⟨_,rfl⟩;have HPC:=hd hpc';rw[<-hpc'] at HEC hpc;have HW:=hd hw;have hpcI:((pc:Nat):Int)<xs.length:=by omega
 have hwr:IntKind.i64.wrap ((E:Int)+1)=((E+1:Nat):Int):=by rw[IntWalk.i64_in _ (by omega)];omega
 have HN:=hd (fun wq hC=>Gi (w:=wq) (A:=A) (m:=m) (xs:=xs) (S:=S) hC hw (E+1) hEl hl);clear h hw hE' hpc' hEl;go_enter func47,ntmps47
 go_wp2_with fail
 generalize w.alloc (.cells #[(3:Int),xk,xd,xa,xb,xc,xp,xn,(0:Int)] 76)=w0 at *;refine rgE 12 [] ?_
 simp only[TK]
 repeat(refine dE (fun wr nr hJ=>by(have hE:=HE0.o.trans hJ;have hC:=HH.o.nil hE;have q6:=hC.cell (i:=6) (by omega) (v:=.slice (some A.eb) xs.length xs.length) rfl;have q164:=hC.cell (i:=164) (by omega) (v:=S.pc) rfl;rw[<-HPC.o] at q164;have ql:=hC.lt;have qe:=(HEC.o _ hE).1;have qel:=(HEC.o _ hE).2;clear hC hE);clear hJ;exact CL) ?_;simp only[PT])
 refine Aa (fun w1 hJ hF=>?_)
 have HE1:=hd (HE0.o.trans hJ);clear hF hJ;go_wp2_with fail
 refine(HN.o _ (HH.o.nil HE1.o)).mono ?_
 rintro e w8 ⟨rfl,hE8,hC8⟩;have HE8:=hd ((Aj.of (A:=A) HE1.o (by simp)).trans hE8);have HC8:=hd hC8;clear hE8 hC8;go_wp2_with fail
 go_end0
 exact⟨rfl,HE8.o,HC8.o⟩
theorem Agm:(prog.info? 133).map (fun i=>(i.zero,i.size,i.bytes))=some (some (.agg #[(0:Int),(0:Int)]),2,16):=by kernel_rfl
theorem Adb {w:World}{A:CA}{m:Mc}{xs:List Ins}{S:MS}(h:Ag w A m xs S)(hw:WfM m S)(hpc:S.pc<xs.length)(hl:xs.length<=100000)(hst:S.turns.length<=100000)(hcy:0<=S.cyc/\S.cyc<=1000000000000)
  (xk xd xa xb xc xp xn xm:Int) (hv:VI m ⟨3,xk,xd,xa,xb,xc,xp,xn,xm⟩) (hm0:xm≠0) :
  Calls prog 47 #[.pointer (some A.c),.agg #[(3:Int),xk,xd,xa,xb,xc,xp,xn,xm]] w (Og A m xs (Fq m xs (Cz xs S S.pc 0 S.turns ⟨3,xk,xd,xa,xb,xc,xp,xn,xm⟩)) w):=by
 have HH:=hd h;have HV:=hd hv;have HW:=hd hw;have HCY:=hd hcy;have HX:=hd (Blk.new w 76 #[(3:Int),xk,xd,xa,xb,xc,xp,xn,xm]);have HE0:=hd ((Ext.refl [] w).alloc (.cells #[(3:Int),xk,xd,xa,xb,xc,xp,xn,xm] 76));obtain⟨i0,hi0,hz0,hz1,hz2⟩:=info_parts Agm;obtain⟨pc,hpc'⟩:∃pc,pc=S.pc:=⟨_,rfl⟩;have HPC:=hd hpc';obtain⟨n,hn⟩:∃n,n=S.turns.length:=⟨_,rfl⟩;have HN:=hd hn;have HPL:=hd hpc;have HST:=hd hst;have HL:=hd hl;obtain⟨lv,hlv⟩:∃v,v=A.lv:=⟨_,rfl⟩;have HLV:=hd hlv;have hbx:w.heap.size<(w.alloc (.cells #[(3:Int),xk,xd,xa,xb,xc,xp,xn,xm] 76)).heap.size:=HX.o.lt;have hmz:(xm==0)=false:=by simpa using hm0
 have HM:Hd (Cz xs S S.pc 0 S.turns ⟨3,xk,xd,xa,xb,xc,xp,xn,xm⟩={S with turns:=(S.pc,0+1) :: S.turns,r:=Be S.r xd (w32 (xn+0*xc)),cyc:=S.cyc+1,pc:=S.pc+1 }):=hd (by unfold Cz;rw[ijn (by have:=hv.lo rfl;dsimp only at this⊢;omega)]);have hnb:n<=100000:=by omega
 clear h hv hw hcy hpc' hn hlv hpc hst hl hm0;go_enter func47,ntmps47
 go_wp2_with fail
 generalize w.alloc (.cells #[(3:Int),xk,xd,xa,xb,xc,xp,xn,xm] 76)=w0 at *;have hC:=HH.o.nil HE0.o;have q163:=hC.cell (i:=163) (by omega) (v:=A.lv) rfl;rw[<-HLV.o] at q163;have q164:=hC.cell (i:=164) (by omega) (v:=S.pc) rfl;rw[<-HPC.o] at q164;have qf:=hC.chip.frozen 163;have ql:=hC.lt;clear hC
 have HO0:Hd (∀wq,Ext [] w0 wq->wq.ownsRow 0 133 2 lv n (Ec S.turns)):=hd (fun wq hq=>by
  have:=(HH.o.nil (HE0.o.trans hq)).loops.1;rw[<-HLV.o,<-HN.o] at this;exact this)
 go_region_law (
  refine step_append_lies _ rfl (.tmp 29) (.tmp 35) 70 rfl 0 133 i0 _ 2 16 underlying70 hi0 hz0 hz1 hz2 rfl (by omega) lv n (Ec S.turns) rfl ?_ ⟨w0.heap.size,0,none⟩ 1 1 [.int .i64 pc,.int .i64 0] rfl rfl ?_ ?_ (by omega) ?_ ?_ ?_ _ rfl ?_
  ·refine HO0.o _ ?_
   repeat(first|exact er|apply Ext.alloc|apply Ext.drew|apply Ext.drewN)
  ·exact World.news_of_block (Blk.new' _ _ _ _ (by simp))
  ·intro u hu;simp at hu;rcases hu with rfl|rfl<;>rfl
  ·unfold maxLen;omega
  ·omega
  ·simp
  intro g2 cap2 w2 ho hg ha hz
  have hE02:Ext lv.ownBlock.toList w0 w2:=by
   refine Ext.grown ?_ hg (fun k hk=>.inl (by simp[hk]))
   repeat(first|exact er|apply Ext.alloc|apply Ext.drew|apply Ext.drewN)
  have hE2:Ext lv.ownBlock.toList w w2:=(HE0.o.nil (S:=lv.ownBlock.toList)).trans hE02
  have hol:∀k∈lv.ownBlock.toList,k<w.heap.size/\A.kd k=7:=fun k hk=>by
   have h1:A.lv.ownBlock=some k:=by rw[<-HLV.o];simpa using hk
   exact⟨HH.o.loops.own k h1,HH.o.loops.2 k h1⟩
  have hX2:Blk w2 w.heap.size 76 #[(3:Int),xk,xd,xa,xb,xc,xp,xn,xm]:=HX.o.ext hE02 (fun hm=>by have:=(hol _ hm).1;omega);have ha2:lv.ownBlock=some g2\/w.heap.size<=g2:=ha.imp id (fun e=>by rw[e];simp;omega)
  have hne:A.c∉lv.ownBlock.toList:=by
   intro hm;have h1:=(hol _ hm).2;have h2:=HH.o.kd.kc;omega
  have hC2:=HH.o.chip.ext hE2 hne;have p163:w2.cell? ⟨A.c,163,none⟩=some lv:=by rw[hC2.cell,Dp _ _ _ _ (by omega),HLV.o];rfl
  have pf:=hC2.frozen 163;have pl:=hC2.lt;have HO2:=hd ho;have HA2:=hd ha2;have HE2:=hd hE2;have HX2:=hd hX2;have HOL:=hd hol;clear ho hg ha hE2 hE02 hne hC2 hz hol hX2 ha2 q163 q164 qf ql)
 all_goals
  have hcx:A.c<w.heap.size:=HH.o.lt;have HK:Hd (∀b,b<w.heap.size->(fun b=>if b=g2/\w.heap.size<=b then 7 else A.kd b) b=A.kd b):=hd (fun b hb=>by show(if _ then _ else _)=_;rw[ijn (by omega)]);have HR:=hd (HH.o.rekd (fun b=>if b=g2/\w.heap.size<=b then 7 else A.kd b) HK.o)
  have HPLs:Hd (PL w2 {A with kd:=fun b=>if b=g2/\w.heap.size<=b then 7 else A.kd b,lv:=(.slice (some g2) (n+1) cap2) } ((S.pc,0+1) :: S.turns)):=hd (by
   refine⟨?_,fun g hg=>?_⟩
   ·have h1:=HO2.o;rw[HN.o] at h1⊢;rw[HPC.o] at h1;exact h1
   ·have hgg:g=g2:=by injection hg with hg;exact hg.symm
    subst hgg;show(if _ then _ else _)=7
    rcases HA2.o with h1|h1
    ·have h2:=HOL.o g (by simp[h1]);rw[ijn (by omega)];exact h2.2
    ·rw[ijp ⟨rfl,h1⟩])
  have HC3:=hd (HR.o.setLv HE2.o (fun x hx=>by have h2:=HOL.o x hx;show(if _ then _ else _)=7;rw[ijn (by omega)];exact h2.2) (.slice (some g2) (n+1) cap2) ((S.pc,0+1) :: S.turns) HPLs.o);have HX3:Hd (Blk (w2.setCell ⟨A.c,163,none⟩ (.slice (some g2) (n+1) cap2)) w.heap.size 76 #[(3:Int),xk,xd,xa,xb,xc,xp,xn,xm]):=hd (HX2.o.far (p:=⟨A.c,163,none⟩) (show w.heap.size≠A.c by omega) _);have HE3:Hd (Aj A w (w2.setCell ⟨A.c,163,none⟩ (.slice (some g2) (n+1) cap2))):=hd ((Aj.of HE2.o (fun x hx=>by rw[(HOL.o x hx).2];omega)).trans (Aj.of (A:=A) (T:=[A.c]) (er.setCell (p:=⟨A.c,163,none⟩) (.inl (by simp)) _) (fun x hx=>by rw[ms hx,HH.o.kd.kc];omega)));have qx:=HX3.o.cell;have qxl:=HX3.o.lt;have qcl:=HC3.o.lt;dsimp only at qcl;clear p163 pf pl;generalize w2.setCell ⟨A.c,163,none⟩ (.slice (some g2) (n+1) cap2)=w3 at *;go_wp2_with fail
  refine(Ua HC3.o (HW.o.frame rfl rfl rfl rfl rfl rfl) S.pc 0 S.turns rfl (by omega) HPL.o HL.o HST.o 3 xk xd xa xb xc xp xn xm HV.o HCY.o).mono ?_
  rintro e w8 ⟨rfl,hE8,hC8⟩;have HE8:=hd (HE3.o.re hE8 HK.o);have HC8:=hd hC8;clear hE8 hC8;go_wp2_with fail
  go_end0
  exact⟨rfl,{A with kd:=fun b=>if b=g2/\w.heap.size<=b then 7 else A.kd b,lv:=.slice (some g2) (n+1) cap2 },HE8.o,by rw[HM.o];exact HC8.o,rfl,HK.o⟩
theorem Aff {w:World}{A:CA}{m:Mc}{xs:List Ins}{S:MS}(h:Ag w A m xs S)(hw:WfM m S)(hc:Bh m 0 xs=0)(hs:Bz xs S.turns S.pc)(hl:xs.length<=100000)(hcy:0<=S.cyc/\S.cyc<=1000000000000)
  (xo xk xd xa xb xc xp xn xm:Int) (hx:xs[S.pc]? = some ⟨xo,xk,xd,xa,xb,xc,xp,xn,xm⟩) (h34:xo=3\/xo=4) :
  Calls prog 47 #[.pointer (some A.c),.agg #[xo,xk,xd,xa,xb,xc,xp,xn,xm]] w (Og A m xs (Fq m xs (De xs S ⟨xo,xk,xd,xa,xb,xc,xp,xn,xm⟩)) w):=by
 have hpc:S.pc<xs.length:=(ils hx).1;have hst:=hs.length hc;have hv:=Er h.kd.ok hc _ (ilm hx);rcases h34 with rfl|rfl
 ·obtain⟨y,hy,_⟩:=Qh hc hx rfl;have hE:=Aew hc hx rfl (f:=xs.length) (by omega);have hEl:=(ils hy).1;have hf:De xs S ⟨3,xk,xd,xa,xb,xc,xp,xn,xm⟩=Cz xs S S.pc 0 S.turns ⟨3,xk,xd,xa,xb,xc,xp,xn,xm⟩:=by unfold De;rw[ijp rfl]
  rw[hf];have hlo:=hv.lo rfl;dsimp only at hlo;by_cases hm:xm=0
  ·subst hm;have hb:Cz xs S S.pc 0 S.turns ⟨3,xk,xd,xa,xb,xc,xp,xn,0⟩={S with pc:=Gh xs (S.pc+1)+1 }:=by unfold Cz;rw[ijp (Int.le_refl _)];rfl
   rw[hb];exact(Ada h hw (Gh xs (S.pc+1)) hpc hl hE (by omega) xk xd xa xb xc xp xn).mono (fun e w' hd=>hd.doneF)
  ·exact Adb h hw hpc hl (by omega) hcy xk xd xa xb xc xp xn xm hv hm
 ·obtain⟨s,i,st,l,he,hls,hl3,hi0,hi1,hlt,hce,_⟩:=hs.top hx rfl
  have hf:De xs S ⟨4,xk,xd,xa,xb,xc,xp,xn,xm⟩=Cz xs S s i st l:=by
   unfold De;rw[ijn (show ¬(4:Int)=3 by decide),ijp rfl,he];dsimp only;rw[List.getD_eq_getElem?_getD,hls];rfl
  rw[hf];have hvl:=Er h.kd.ok hc _ (ilm hls);have hlo:=hvl.lo hl3;obtain⟨lo,lk,ld,la,lb,lc,lp,ln,lm⟩:=l;dsimp only at hlo hi1;rw[he] at hst;simp only[List.length_cons] at hst;exact Afe h hw s i st he ⟨hi0,by omega⟩ hpc hl (by omega) lo lk ld la lb lc lp ln lm hls hvl hce hcy xk xd xa xb xc xp xn xm
end
end Go.Proofs.YtkgmhggliifkjaaGreat
