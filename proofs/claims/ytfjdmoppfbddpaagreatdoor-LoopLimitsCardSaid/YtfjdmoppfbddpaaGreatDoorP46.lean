import Derived.Test.YtfjdmoppfbddpaaGreatDoorP45
namespace Go.Proofs.YtfjdmoppfbddpaaGreatDoor
open Go.RowKit Go.Proofs.Tryz
set_option linter.all false
theorem catN_len_le {α:Type}{f:Nat->List α}{g:Nat->Nat}(h:∀k,(f k).length<=g k):∀n,(catN n f).length<=sumN n g
 | 0=>by simp[catN_zero]
 | n+1=>by
  rw[catN_succ,List.length_append,sumN_succ];have:=catN_len_le h n;have:=h n;omega
theorem instL_run_of {env:Env}(l:List St)(ih:∀s∈l,∀no,(instS env no s).length<=runN env s):∀no,(instL env no l).length<=runNL env l:=by
 induction l with
 | nil=>intro no;simp[instL]
 | cons s r ihr=>
  intro no;simp only[instL,runNL,List.length_append];have h1:=ih s (List.mem_cons_self ..) no;have h2:=ihr (fun s hs=>ih s (List.mem_cons_of_mem _ hs)) (no+storesS s);omega
theorem instS_run:∀(s:St) (env:Env) (no:Nat),(instS env no s).length<=runN env s:=by
 refine st_ind fun h b ih=>?_
 intro env no;have hl:∀env no,(instL env no b).length<=runNL env b:=fun env=>instL_run_of b fun s hs no=>ih s hs env no
 rw[instS,runN];split
 ·simp
 split
 ·split
  ·have:=hl env no;omega
  ·simp
 split
 ·rw[vecI_len,Nat.mul_add,Nat.mul_comm (manyS h) b.length];omega
 ·have h1:=catN_len_le (f:=fun k=>instL (envS env h k) no b) (g:=fun k=>1+runNL (envS env h k) b) (fun k=>by have:=hl (envS env h k) no;omega) (manyS h);have h2:(catN (manyS h) fun k=>instL (envS env h k) no b).length<=((List.range (manyS h)).map fun k=>1+runNL (envS env h k) b).sum:=h1;show(catN (manyS h) fun k=>instL (envS env h k) no b).length<=_
  omega
theorem instL_run (env:Env)(no:Nat)(l:List St):(instL env no l).length<=runNL env l:=instL_run_of l (fun s _=>instS_run s env) no
theorem sumI_bound {nb:Nat}{body:List St}(hF:∀s∈body,Fd nb [] s):sumI (instL [] 0 body)<=(instL [] 0 body).length*10000000:=by
 rw[<-sumW_sumI (body:=body) _ (noOk_any hF)];generalize instL [] 0 body=l
 induction l with
 | nil=>simp[sumW]
 | cons i l ih=>
  have:=wdB_le hF i.no;have h1:sumW (wdB body) (i :: l)=wdB body i.no+sumW (wdB body) l:=by simp[sumW]
  rw[h1,List.length_cons,Nat.add_mul];omega
def RtAt (H:Nat)(v:Value)(O:List RtO)(w:World):Prop:=O.length<=20000/\∃B hi,H<=B/\hi<=w.heap.size/\w.ownsRow B 118 7 v O.length (O.flatMap rtC)/\∀x∈O,NumB B hi x.A x.d.vs w
theorem RtAt.keep {H:Nat}{v:Value}{O:List RtO}{w w':World}(h:RtAt H v O w)(hE:Ext [] w w'):RtAt H v O w':=by
 obtain⟨h1,B,hi,h2,h3,h4,h5⟩:=h;exact⟨h1,B,hi,h2,Nat.le_trans h3 hE.size,own_ext h4 hE (by simp),fun x hx=>(h5 x hx).ext hE (by simp)⟩
def TchsP (body:List St)(w:World)(e:Ending)(w':World):Prop:=Ext [] w w'/\((smallB body=false/\e=.returned (.tuple #[.slice none 0 0,.int .i64 2]))\/
 (smallB body=true/\∃(O:List RtO) (v:Value),e=.returned (.tuple #[v,.int .i64 0])/\O.map RtO.d=rqL [] 0 0 body/\RtAt w.heap.size v O w'))
def OrdP (p:Pg)(w:World)(e:Ending)(w':World):Prop:=Ext [] w w'/\((orderE p≠0/\e=.returned (.tuple #[.slice none 0 0,.int .i64 (orderE p)]))\/
 (orderE p=0/\∃(O:List RtO) (v:Value),e=.returned (.tuple #[v,.int .i64 0])/\O.map RtO.d=rqL [] 0 0 p.body/\RtAt w.heap.size v O w'))
theorem touQ_new {w:World}{tb mb:Nat}{keep:Bool}(hB:Blk w tb 173 #[.slice none 0 0,.int .i64 0,.bool keep,.int .i64 0])(hM:SMap w mb [])(ht:tb<mb)(hs:w.heap.size=mb+1):TobQ tb mb (mb+1) keep [] [] 0 [] 0 0 none w:=
 ⟨by omega,w.heap.size,Nat.le_refl _,⟨by omega,by omega,.slice none 0 0,[],rfl,rfl,hB,own_none _ _ _ _,by simp⟩,⟨[],hM,by simp,by simp,fun s hs=>by cases hs⟩⟩
set_option maxHeartbeats 8000000 in
set_option maxRecDepth 100000 in
theorem touches_any (p:Pg)(w:World)(hP:PgIn w p)(hc:checkE p.bs p.body=0):Calls Tryz.prog 45 #[pgV p] w (TchsP p.body w):=by
 obtain⟨A,cap,bs,PB,bcap,body⟩:=p;unfold pgV;dsimp only at *
 have hFE:formedE bs body=0/\runNL [] body<=2500000:=by
  unfold checkE at hc;split at hc
  ·rename_i h0
   split at hc
   ·omega
   ·exact⟨h0,by omega⟩
  ·rename_i h0
   exact absurd hc h0
 have HFK:=hd (FormOk.of hFE.1);have hI1:=instL_run [] 0 body;have hI2:=sumI_bound HFK.o.fd;have hR9:=hFE.2;have HTB:=hd (rbody_list body (fun s _=>rbody_any s));have HSM:Hd (smallB body=(decide ((instL [] 0 body).length<=2000)&&decide (sumI (instL [] 0 body)<=20000))):=hd rfl;have HBR:=hd hP.body;have HST:=hd hP.stmt;clear hc hP hFE;generalize hm:body.length=m at *;have HM:=hd hm;clear hm;generalize bs.length=n at *;have HE0:=hd ((Ext.refl [] w).alloc (.cells #[.slice A n cap,.slice PB m bcap] 29));have HBP:=hd (Blk.new w 29 #[.slice A n cap,.slice PB m bcap]);go_enter Tryz.func45,Tryz.ntmps45
 go_upto_region 2 with fail
 have hw2:((w.alloc (.cells #[.slice A n cap,.slice PB m bcap] 29)).alloc (.cells #[.slice none 0 0,.int .i64 0,.bool false,.int .i64 0] 173)).heap.size=w.heap.size+1+1:=by rw[alloc_size,alloc_size]
 have HE2:=hd (HE0.o.alloc (.cells #[.slice none 0 0,.int .i64 0,.bool false,.int .i64 0] 173));have HBP2:=hd (HBP.o.alloc (.cells #[.slice none 0 0,.int .i64 0,.bool false,.int .i64 0] 173));have HBT:=hd (Blk.new (w.alloc (.cells #[.slice A n cap,.slice PB m bcap] 29)) 173 #[.slice none 0 0,.int .i64 0,.bool false,.int .i64 0]);rw[alloc_size] at HBT;generalize World.alloc (World.alloc w _) _=w2 at *;generalize hs0:w.heap.size=s0 at *;clear HE0 HBP;have qp:=HBP2.o.cell;have qpl:=HBP2.o.lt;have HE3:=hd (HE2.o.alloc (.map #[] 0));have HBP3:=hd (HBP2.o.alloc (.map #[] 0));have HBT3:=hd (HBT.o.alloc (.map #[] 0));have HM3:=hd (SMap.made w2);have hw3:=alloc_size w2 (.map #[] 0);rw[hw2] at HM3;have HQ3:=hd (touQ_new HBT3.o HM3.o (by omega) (by omega));have HCC:=hd (HTB.o (s0+1) (s0+1+1) (s0+1+1+1) bs.length 0 0 0 0 false none 0 [] [] w (w2.alloc (.map #[] 0)) PB bcap [] none NmG.nil (by omega) (by omega) HQ3.o HBR.o HST.o HFK.o.fd HE3.o (.inl rfl) ⟨fun _=>⟨rfl,rfl⟩,Nat.le_refl _,fun a ha=>by cases ha⟩ (by have:=HFK.o.sto;omega) (by show 0+2*runNL [] body<=_;omega) ⟨by simp,by show 0+sumI (instL [] 0 body)<=_;omega,by show 0+(instL [] 0 body).length<=_;omega⟩);rw[HM.o] at HCC;have hmm:=@run_makeMap Tryz.prog;go_wp2_with fail
 refine HCC.o.mono ?_
 rintro e w4 ⟨rfl,V4,hE,hq⟩;have HE4:=hd (hE.stay HQ3.o HE3.o (by omega) (by omega));have HBP4:=hd (hE.blk HQ3.o HBP3.o (by decide) (by decide));obtain⟨vt,hvt⟩:=hq.tch;have HBT4:=hd hvt;clear hE hq hvt HCC HQ3 HBP2 HBP3 HBT HBT3 HE3 HE2 HM3 qp qpl hw2 hw3;have HSZ4:=hd (show smallB body=(decide (0+(instL [] 0 body).length<=2000)&&decide (0+sumI (instL [] 0 body)<=20000)) by rw[HSM.o,Nat.zero_add,Nat.zero_add]);have hen:([]:List ByteArray).zip ([]:List Int)=[]:=rfl;rw[hen] at HBT4;have hz1:0+sumI (instL [] 0 body)<=30000000000000:=by omega
 have hz2:0+(instL [] 0 body).length<=3000000:=by omega
 generalize hmk:0+sumI (instL [] 0 body)=mk at *;generalize hck:0+(instL [] 0 body).length=ck at *;have qt:=HBT4.o.cell;have qtl:=HBT4.o.lt;by_cases h1:2000<ck
 ·have e1:decide ((2000:Int)<(ck:Int))=true:=by simp;omega
  have hsm:smallB body=false:=by rw[HSZ4.o];simp;omega
  go_wp2_with fail
  go_ret2
  exact⟨HE4.o,.inl ⟨hsm,rfl⟩⟩
 ·have e1:decide ((2000:Int)<(ck:Int))=false:=by simp;omega
  by_cases h2:20000<mk
  ·have e2:decide ((20000:Int)<(mk:Int))=true:=by simp;omega
   have hsm:smallB body=false:=by rw[HSZ4.o];simp;omega
   go_wp2_with fail
   go_ret2
   exact⟨HE4.o,.inl ⟨hsm,rfl⟩⟩
  ·have e2:decide ((20000:Int)<(mk:Int))=false:=by simp;omega
   have hsm:smallB body=true:=by rw[HSZ4.o];simp;omega
   go_upto_region 6 with fail
   clear qt qtl;have HE5:=hd (HE4.o.alloc (.cells #[.slice none 0 0,.int .i64 0,.bool true,.int .i64 0] 173));have HBP5:=hd (HBP4.o.alloc (.cells #[.slice none 0 0,.int .i64 0,.bool true,.int .i64 0] 173));have HBT5:=hd (Blk.new w4 173 #[.slice none 0 0,.int .i64 0,.bool true,.int .i64 0]);have hw5:=alloc_size w4 (.cells #[.slice none 0 0,.int .i64 0,.bool true,.int .i64 0] 173);have hw4:s0<=w4.heap.size:=by have:=HE4.o.size;omega
   generalize World.alloc w4 _=w5 at *;generalize hs4:w4.heap.size=s4 at *;have qp:=HBP5.o.cell;have qpl:=HBP5.o.lt;have HE6:=hd (HE5.o.alloc (.map #[] 0));have HBT6:=hd (HBT5.o.alloc (.map #[] 0));have HM6:=hd (SMap.made w5);have hw6:=alloc_size w5 (.map #[] 0);rw[hw5] at HM6;have HQ6:=hd (touQ_new HBT6.o HM6.o (by omega) (by omega));have HCC:=hd (HTB.o s4 (s4+1) (s4+1+1) bs.length 0 0 0 0 true none 0 [] [] w (w5.alloc (.map #[] 0)) PB bcap [] none NmG.nil (by omega) (by omega) HQ6.o HBR.o HST.o HFK.o.fd HE6.o (.inl rfl) ⟨fun _=>⟨rfl,rfl⟩,Nat.le_refl _,fun a ha=>by cases ha⟩ (by have:=HFK.o.sto;omega) (by show 0+2*runNL [] body<=_;omega) ⟨fun _=>by show 0+sumI (instL [] 0 body)<=_;omega,by show 0+sumI (instL [] 0 body)<=_;omega,by show 0+(instL [] 0 body).length<=_;omega⟩);rw[HM.o] at HCC;go_wp2_with fail
   refine HCC.o.mono ?_
   rintro e w7 ⟨rfl,V7,hE,hq⟩;have HE7:=hd (hE.stay HQ6.o HE6.o (by omega) (by omega));rw[hen] at hq;obtain⟨-,hi,h7,⟨-,-,v,O,-,hO,hB,hR,hNO⟩,-⟩:=hq;have hO':O.map RtO.d=rqL [] 0 0 body:=by simpa[kL] using hO
   have hln:O.length=sumI (instL [] 0 body):=by rw[<-rqL_len [] 0 0,<-hO',List.length_map]
   have HAT:=hd (show RtAt w.heap.size v O w7 from⟨by omega,s4+1+1,hi,by omega,h7,hR,hNO⟩);have HOO:=hd hO';have qt:=hB.cell;have qtl:=hB.lt;clear hE hB hR hNO HCC qp qpl hO hO' hln h7;go_wp2_with fail
   go_ret2
   exact⟨HE7.o,.inr ⟨hsm,O,v,rfl,HOO.o,hs0 ▸ HAT.o⟩⟩
set_option maxHeartbeats 8000000 in
set_option maxRecDepth 100000 in
theorem order_any (p:Pg)(w:World)(hP:PgIn w p):Calls Tryz.prog 16 #[pgV p] w (OrdP p w):=by
 have HL:=hd (fun W (hW:Ext [] w W)=>loopFaultR_any p W (hP.keep hW));have HT:=hd (fun W (hW:Ext [] w W) (hc:checkE p.bs p.body=0)=>touches_any p W (hP.keep hW) hc);have HOE:Hd (orderE p=if checkE p.bs p.body≠0 then checkE p.bs p.body else if smallB p.body then 0 else 2):=hd rfl;unfold OrdP;generalize orderE p=oe at *;generalize hce:checkE p.bs p.body=ce at *;unfold TchsP at HT;obtain⟨A,cap,bs,PB,bcap,body⟩:=p;unfold pgV at *;dsimp only at *;clear hP;generalize body.length=m at *;generalize bs.length=n at *;have HE0:=hd ((Ext.refl [] w).alloc (.cells #[.slice A n cap,.slice PB m bcap] 29));have HBP:=hd (Blk.new w 29 #[.slice A n cap,.slice PB m bcap]);go_enter Tryz.func16,Tryz.ntmps16
 have hsz:w.heap.size<=(w.alloc (.cells #[.slice A n cap,.slice PB m bcap] 29)).heap.size:=HE0.o.size;go_upto_region 1 with fail
 generalize World.alloc w _=w1 at *;generalize hs0:w.heap.size=s0 at *;have qp:=HBP.o.cell;have qpl:=HBP.o.lt;go_wp2_with fail
 refine(HL.o w1 HE0.o).mono ?_
 rintro e w2 ⟨rfl,hE⟩;have HE2:=hd (HE0.o.trans hE);have HBP2:=hd (HBP.o.ext hE (by simp));clear hE HL qp qpl;have qp:=HBP2.o.cell;have qpl:=HBP2.o.lt;by_cases hc0:ce=0
 ·subst hc0;have hOE:=HOE.o;simp only[ne_eq,not_true,if_false] at hOE;have HOE2:=hd hOE;clear hOE HOE;go_wp2_with fail
  refine(HT.o w2 HE2.o (by first|trivial|exact hce)).mono ?_
  rintro e w3 ⟨hE,hr⟩;have HE3:=hd (HE2.o.trans hE);have hs3:s0<=w2.heap.size:=by have:=HE2.o.size;omega
  clear hE HT qp qpl hce;rcases hr with⟨h1,rfl⟩|⟨h1,O,v,rfl,hO,hA⟩
  ·have h2:oe=2:=by rw[HOE2.o,h1];rfl
   subst h2;go_wp2_with fail
   go_ret2
   exact⟨HE3.o,.inl ⟨by decide,rfl⟩⟩
  ·have h2:oe=0:=by rw[HOE2.o,h1];rfl
   subst h2;have HO:=hd hO
   have HA:=hd (show RtAt s0 v O w3 by
    obtain⟨h1,B,hi,h2,h3⟩:=hA;exact⟨h1,B,hi,by omega,h3⟩)
   clear hO hA;go_wp2_with fail
   go_ret2
   exact⟨HE3.o,by first|exact .inr ⟨rfl,O,v,rfl,HO.o,HA.o⟩|exact⟨O,v,rfl,HO.o,HA.o⟩⟩
 ·have hOE:=HOE.o;rw[if_pos hc0] at hOE;have hb:(ce != 0)=true:=by simpa using hc0
  have hb2:(ce==0)=false:=by simpa using hc0
  have HC0:=hd hc0;have HOE2:=hd hOE;clear hOE HOE HT hc0 hce;go_wp2_with fail
  go_ret2
  exact⟨HE2.o,.inl ⟨by rw[HOE2.o];exact HC0.o,by rw[HOE2.o];rfl⟩⟩
theorem flat_getG {α:Type}{f:α->List Value}{s:Nat}(hs:∀x,(f x).length=s):∀{l:List α} {k j:Nat} {x:α},l[k]? = some x->j<s->(l.flatMap f)[k*s+j]? = (f x)[j]?
 | [],k,j,x,h,_=>by simp at h
 | y :: l,0,j,x,h,hj=>by
  cases h
  rw[List.flatMap_cons,Nat.zero_mul,Nat.zero_add,List.getElem?_append_left (by rw[hs];exact hj)]
 | y :: l,k+1,j,x,h,hj=>by
  have h1:=flat_getG hs (l:=l) (k:=k) (j:=j) (x:=x) h hj;rw[List.flatMap_cons,List.getElem?_append_right (by rw[hs,Nat.add_mul,Nat.one_mul];omega),hs,show(k+1)*s+j-s=k*s+j by rw[Nat.add_mul,Nat.one_mul];omega];exact h1
theorem own_seqG {α:Type}{f:α->List Value}{s:Nat}(hs:∀x,(f x).length=s){w:World}{B:Nat}{e:TypeId}{A:Option Addr}{n c:Nat}{l:List α}(h:w.ownsRow B e s (.slice A n c) l.length (l.flatMap f))(hl:l.length<=1000000):n=l.length/\SeqIn w A s f l:=by
 obtain⟨A',c',hv,hc,hnz⟩:=own_form h;cases hv
 refine⟨rfl,hl,?_⟩
 by_cases h0:l=[]
 ·exact .inl h0
 ·obtain⟨g,rfl,-,-⟩:=hnz (List.length_pos_iff.2 h0);refine .inr ⟨g,rfl,fun i x hx j v hv=>?_⟩
  refine cell_row h rfl ?_
  have hj:=(List.getElem?_eq_some_iff.1 hv).1;rw[hs] at hj;rw[flat_getG hs hx hj];exact hv
theorem rtC_len (x:RtO):(rtC x).length=7:=rfl
theorem ioC_len (x:InO):(ioC x).length=2:=rfl
def toIO (x:RtO):InO:=⟨x.d.no,x.d.vs,x.A,x.c⟩
def wrO (O:List RtO):List InO:=(O.filter fun x=>x.d.wr).map toIO
theorem wrO_snoc {O:List RtO}{k:Nat}{x:RtO}(h:O[k]? = some x):wrO (O.take (k+1))=wrO (O.take k) ++ (if x.d.wr then [toIO x] else []):=by
 unfold wrO;rw[List.take_add_one,h,List.filter_append,List.map_append];cases hw:x.d.wr<;>simp[hw]
theorem wrO_len {O:List RtO}{k:Nat}:(wrO (O.take k)).length<=(wrO O).length:=by
 have h:=congrArg wrO (List.take_append_drop k O);have h2:wrO (O.take k ++ O.drop k)=wrO (O.take k) ++ wrO (O.drop k):=by unfold wrO;rw[List.filter_append,List.map_append]
 rw[h2] at h;rw[<-h,List.length_append];omega
def rtA' (x:RtO):Array Value:=#[.int .i64 x.d.no,.slice x.A x.d.vs.length x.c,.int .i64 x.d.buf,.int .i64 x.d.at_,.bool x.d.wr,.int .i64 x.d.part,.int .i64 x.d.inst]
theorem rtA'_list (x:RtO):(rtA' x).toList=rtC x:=rfl
set_option maxHeartbeats 8000000 in
set_option maxRecDepth 100000 in
theorem instancesOf_any (H:Nat)(v:Value)(O:List RtO)(w:World)(hA:RtAt H v O w)(hl:(wrO O).length<=2000)(hH:H<=w.heap.size):Calls Tryz.prog 21 #[v] w fun e w'=>∃v',e=.returned v'/\Ext [] w w'/\InsAt H v' (wrO O) w':=by
 obtain⟨h20,B,hi,hB,hhi,hO,hN⟩:=hA;obtain⟨A,c,rfl,hc,-⟩:=own_form hO;have HS:=hd (own_seqG rtC_len hO (by omega)).2;have HN:=hd hN;have HL:=hd hl;have HWL:=hd (fun k=>@wrO_len O k);clear hO hN hl;generalize hn:O.length=n at *;have HNL:=hd hn;clear hn;generalize hH0:w.heap.size=H0 at *;go_enter Tryz.func21,Tryz.ntmps21
 go_wp2_with fail
 go_loopw [3,8] (fun q i wr=>∃(k:Nat) (vv:Value),vv=q/\i=.int .i64 k/\k<=n/\Hd (Ext [] w wr)/\Hd (wr.ownsRow H0 108 2 vv (wrO (O.take k)).length ((wrO (O.take k)).flatMap ioC))) (fun _ i _=>(n-intOf i).toNat)
 case atStart=>exact⟨0,_,rfl,rfl,Nat.zero_le _,hd (Ext.refl _ _),hd (own_none _ _ _ _)⟩
 case round=>
  obtain⟨k,vv,rfl,rfl,hk,HE,HO⟩:=hrel;rename World=>wq
  by_cases hlt:k<n
  ·obtain⟨b,x,rfl,hx,hc⟩:=(HS.o.keep HE.o).at (i:=k) (by have:=HNL.o;omega);have HSN:=hd (wrO_snoc hx);have hlk:=HWL.o (k+1);have HW:=hd (fun j u hu=>hc j u (by rw[<-rtA'_list];exact hu):∀(j:Nat) (u:Value),(rtA' x).toList[j]? = some u->wq.cell? ⟨b,k*7+j,none⟩=some u);have HB2:=hd (Blk.new wq 118 (rtA' x));have HEx2:=hd ((Ext.refl [] wq).alloc (.cells (rtA' x) 118));have HSZ:=hd (show(Tryz.prog.info? 118).map (·.size)=some (rtA' x).size from infoRt);have HZS:=hd (show(rtA 0 none 0 0 0).size=(rtA' x).size from rfl);have HON:=hd (show(rtA' x).all (·.oneCell')=true from by simp[rtA'];repeat(first|exact rfl|refine⟨rfl,?_⟩));have hwq:=HE.o.size;clear hx hc
   go_upto_region 5 with(first
    | refine wpList_load_wide rfl 118 _ rfl b (k*7) rfl (rtA' x) HW.o _ Tryz.underlying118 rfl HSZ.o ?_
    | refine wpList_make_wide rfl rfl 118 _ _ rfl rfl (rtA 0 none 0 0 0) (zRt_run _) (rtA' x) rfl rfl HSZ.o HZS.o HON.o ?_)
   have HE2:=hd (HE.o.trans HEx2.o);have HO2:=hd (own_ext HO.o HEx2.o (by simp));have hw2:(World.alloc wq (.cells (rtA' x) 118)).heap.size=wq.heap.size+1:=alloc_size _ _;generalize World.alloc wq _=w2 at *;generalize hs2:wq.heap.size=s2 at *;have qb:=HB2.o.cell;unfold rtA' at qb;have qbl:=HB2.o.lt;clear HO HE HW HZS HON HEx2;cases hwr:x.d.wr
   ·have HSN2:Hd (wrO (O.take (k+1))=wrO (O.take k)):=hd (by rw[HSN.o,hwr];simp);rw[hwr] at qb;clear hwr;go_wp2_with fail
    go_roundw
    case rel=>exact⟨k+1,_,rfl,by go_num,by omega,HE2,by rw[HSN2.o];exact HO2⟩
    case measure=>simp[intOf];omega
   ·have HSN2:Hd (wrO (O.take (k+1))=wrO (O.take k) ++ [toIO x]):=hd (by rw[HSN.o,hwr];simp)
    have hlen:(wrO (O.take k)).length+1<=2000:=by
     have h1:=congrArg List.length HSN2.o;rw[List.length_append,List.length_singleton] at h1;have:=HL.o;omega
    have HLN:=hd (show(wrO (O.take (k+1))).length=(wrO (O.take k)).length+1 by rw[HSN2.o];simp);have HFN:=hd (show(wrO (O.take (k+1))).flatMap ioC=(wrO (O.take k)).flatMap ioC ++ [.int .i64 x.d.no,.slice x.A x.d.vs.length x.c] by rw[HSN2.o,List.flatMap_append];rfl);rw[hwr] at qb;clear hwr;obtain⟨i0,hi0,hz0,hz1,hz2⟩:=ioInfo;generalize (wrO (O.take k)).length=m at *;generalize (wrO (O.take k)).flatMap ioC=ts at *;have HS9:=hd (Blk.new w2 108 #[.int .i64 x.d.no,.slice x.A x.d.vs.length x.c]);have HIO:=hd (io_slice w2 (.int .i64 x.d.no) (.slice x.A x.d.vs.length x.c) rfl rfl)
    go_wp2_with (first
     | refine wpList_op_run rfl (.slice (some ⟨w2.heap.size,0,none⟩) 1 1) _ (exec_buildSlice rfl _ _ _ _ (.agg #[.int .i64 x.d.no,.slice x.A x.d.vs.length x.c]) rfl HIO.o) ?_
     | (
       refine wpList_append_lies _ rfl _ _ 51 rfl H0 108 i0 _ 2 32 Tryz.underlying51 hi0 hz0 hz1 hz2 rfl (by decide) vv m ts rfl ?c0 ⟨w2.heap.size,0,none⟩ 1 1 [.int .i64 x.d.no,.slice x.A x.d.vs.length x.c] rfl rfl ?c1 ?c2 (by omega) ?c3 ?c4 ?c5 _ rfl ?_
       case c0=>exact own_ext HO2.o ((Ext.refl [] w2).alloc _) (by simp)
       case c1=>intro j u hu;rw[Addr.add_lit,Nat.zero_add,HS9.o.cell,<-Array.getElem?_toList];exact hu
       case c2=>intro u hu;simp only[List.mem_cons,List.not_mem_nil,or_false] at hu;rcases hu with rfl|rfl<;>rfl
       case c3=>unfold maxLen;omega
       case c4=>omega
       case c5=>exact Nat.le_trans (by omega) ((Ext.refl [] w2).alloc _).size
       intro g8 c8 w8 ho8 hg8 hi8 ha8;have HO8:=hd ho8;have HE8:Hd (Ext [] w w8):=hd ((HE2.o.alloc _).grown hg8 fun q hq=>.inr (by have:=own_base HO2.o q hq;omega));clear ho8 hg8 hi8 ha8))
    go_roundw
    case rel=>exact⟨k+1,_,rfl,by go_num,by omega,HE8,by rw[HLN.o,HFN.o];exact HO8⟩
    case measure=>simp[intOf];omega
  ·have hkn:k=n:=by omega
   subst hkn;have HT:Hd (O.take k=O):=hd (List.take_of_length_le (by have:=HNL.o;omega));rw[HT.o] at HO;go_wp2_with fail
   go_ret
   refine⟨_,rfl,HE.o,HL.o,⟨H0,by omega,HO.o⟩,fun y hy=>?_⟩
   unfold wrO at hy;obtain⟨z,hz,rfl⟩:=List.mem_map.1 hy;have h1:=(HN.o z (List.mem_filter.1 hz).1).ext HE.o (by simp);rcases h1 with h1|⟨b,C,h1,h2,h3,h4,h5⟩
   ·exact .inl h1
   ·exact .inr ⟨b,C,h1,by omega,h4,h5⟩
theorem enters_same:∀args w,(callFunc 52 args).run Tryz.prog w=.ok (.enter 52 args) w:=by
 obtain⟨c,hc⟩:∃c,Tryz.f52.body=some c:=⟨_,rfl⟩;exact fun args w=>enters_of Tryz.func52 (by kernel_rfl) hc args w
def IoG (w:World)(x:InO):Prop:=RdI w x.A x.vs/\x.vs.length<=1000000
theorem IoG.keep {w w':World}{x:InO}(h:IoG w x)(hE:Ext [] w w'):IoG w' x:=⟨h.1.ext hE (by simp),h.2⟩
def ioA (x:InO):Array Value:=#[.int .i64 x.no,.slice x.A x.vs.length x.c]
set_option maxRecDepth 100000 in
theorem same_any (x y:InO)(w:World)(hx:IoG w x)(hy:IoG w y)(hxn:x.no<=1000000)(hyn:y.no<=1000000):Calls Tryz.prog 52 #[.agg (ioA x),.agg (ioA y)] w (HasP (decide (x.key=y.key)) w):=by
 have HEQ:=hd (fun W (hW:Ext [] w W)=>equal_int x.A y.A x.c y.c x.vs y.vs W (hx.keep hW).1 (hy.keep hW).1 (by have:=hx.2;omega) (by have:=hy.2;omega));have HK:Hd (decide (x.key=y.key)=(decide (x.no=y.no)&&decide (x.vs=y.vs))):=hd (by rw[<-Bool.decide_and,decide_eq_decide];unfold InO.key;rw[Prod.mk.injEq]);rw[HK.o];clear hx hy;obtain⟨n1,v1,A1,c1⟩:=x;obtain⟨n2,v2,A2,c2⟩:=y;dsimp only[ioA] at *;generalize hdv:decide (v1=v2)=dv at *;clear hdv HK;generalize v1.length=l1 at *;generalize v2.length=l2 at *;have HE2:=hd (((Ext.refl [] w).alloc (.cells #[.int .i64 n1,.slice A1 l1 c1] 108)).alloc (.cells #[.int .i64 n2,.slice A2 l2 c2] 108));go_enter Tryz.func52,Tryz.ntmps52
 by_cases hn:n1=n2
 ·subst hn;go_wp2_with fail
  refine(HEQ.o _ HE2.o).mono ?_
  rintro e w3 ⟨rfl,hE⟩;have HE3:=hd (HE2.o.trans hE);clear hE;go_wp2_with fail
  go_ret
  exact⟨by simp,HE3.o⟩
 ·have hb:((n1:Int)==(n2:Int))=false:=by simp;omega
  go_wp2_with fail
  go_ret
  exact⟨by simp[hn],HE2.o⟩
theorem infoIo:(Tryz.prog.info? 108).map (·.size)=some 2:=by kernel_rfl
def zIo:Array Value:=#[.int .i64 0,.slice none 0 0]
theorem zIo_run (W:World):(zeroValue 108).run Tryz.prog W=.ok (.agg zIo) W:=by kernel_rfl
theorem ioA_list (x:InO):(ioA x).toList=ioC x:=rfl
theorem ioA_one (x:InO):(ioA x).all (·.oneCell')=true:=by simp[ioA];repeat(first|exact rfl|refine⟨rfl,?_⟩)
theorem take_eq {α β:Type}{f:α->β}{a b:List α}{k:Nat}{x y:α}(h:(a.take k).map f=(b.take k).map f)(hx:a[k]? = some x)(hy:b[k]? = some y)(hf:f x=f y):(a.take (k+1)).map f=(b.take (k+1)).map f:=by
 rw[List.take_add_one,List.take_add_one,hx,hy,List.map_append,List.map_append,h];simp[hf]
theorem ne_at {α β:Type}{f:α->β}{a b:List α}{k:Nat}{x y:α}(hx:a[k]? = some x)(hy:b[k]? = some y)(hf:f x≠f y):a.map f≠b.map f:=fun h=>by
 have:=congrArg (fun l=>l[k]?) h;simp only[List.getElem?_map,hx,hy,Option.map_some] at this;exact hf (Option.some.inj this)
set_option maxHeartbeats 8000000 in
set_option maxRecDepth 100000 in
theorem eqF_any (A1 A2:Option Addr)(c1 c2:Nat)(O1 O2:List InO)(w:World)(h1:SeqIn w A1 2 ioC O1)(h2:SeqIn w A2 2 ioC O2)(g1:∀x∈O1,IoG w x/\x.no<=1000000)(g2:∀x∈O2,IoG w x/\x.no<=1000000) :
  Calls Tryz.prog 51 #[.slice A1 O1.length c1,.slice A2 O2.length c2,.func (.func 52) #[] #[]] w (HasP (decide (O1.map InO.key=O2.map InO.key)) w):=by
 have hn1:=h1.1;have hn2:=h2.1;have HS1:=hd h1;have HS2:=hd h2;have HG1:=hd g1;have HG2:=hd g2;clear h1 h2 g1 g2;generalize hl1:O1.length=n1 at *;generalize hl2:O2.length=n2 at *;have HL1:=hd hl1;have HL2:=hd hl2;clear hl1 hl2;go_enter Tryz.func51,Tryz.ntmps51
 by_cases hne:n1=n2
 ·subst hne;go_wp2_with fail
  go_loopw [17] (fun i wr=>∃k:Nat,i=.int .i64 k/\k<=n1/\Hd (Ext [] w wr)/\Hd ((O1.take k).map InO.key=(O2.take k).map InO.key)) (fun i _=>(n1-intOf i).toNat)
  case atStart=>exact⟨0,rfl,Nat.zero_le _,hd (Ext.refl _ _),hd rfl⟩
  case round=>
   obtain⟨k,rfl,hk,HE,HEQ⟩:=hrel;rename World=>wq
   by_cases hlt:k<n1
   ·obtain⟨b1,x,rfl,hx,hcx⟩:=(HS1.o.keep HE.o).at (i:=k) (by have:=HL1.o;omega);obtain⟨b2,y,rfl,hy,hcy⟩:=(HS2.o.keep HE.o).at (i:=k) (by have:=HL2.o;omega);have HXK:=hd hx;have HYK:=hd hy;have hgx:=HG1.o x (List.mem_of_getElem? hx);have hgy:=HG2.o y (List.mem_of_getElem? hy);have HSA:=hd (fun W (hW:Ext [] w W)=>same_any x y W (hgx.1.keep hW) (hgy.1.keep hW) hgx.2 hgy.2);have HTE:=hd (fun hf=>take_eq (f:=InO.key) HEQ.o hx hy hf);have HNE:=hd (fun hf=>ne_at (f:=InO.key) hx hy hf);have HW1:=hd (fun j u hu=>hcx j u (by rw[<-ioA_list];exact hu):∀(j:Nat) (u:Value),(ioA x).toList[j]? = some u->wq.cell? ⟨b1,k*2+j,none⟩=some u);have HW2:=hd (fun j u hu=>hcy j u (by rw[<-ioA_list];exact hu):∀(j:Nat) (u:Value),(ioA y).toList[j]? = some u->wq.cell? ⟨b2,k*2+j,none⟩=some u);have HB1:=hd (Blk.new wq 108 (ioA x));have HX1:=hd ((Ext.refl [] wq).alloc (.cells (ioA x) 108));have HZ1:=hd (show zIo.size=(ioA x).size from rfl);have HZ2:=hd (show zIo.size=(ioA y).size from rfl);have HO1:=hd (ioA_one x);have HO2:=hd (ioA_one y);have HI1:=hd (show(Tryz.prog.info? 108).map (·.size)=some (ioA x).size from infoIo);have HI2:=hd (show(Tryz.prog.info? 108).map (·.size)=some (ioA y).size from infoIo);clear hx hy hcx hcy hgx hgy HEQ;generalize hdk:decide (x.key=y.key)=dk at *;have HDK:=hd hdk;clear hdk;generalize ioA x=ax at *;generalize ioA y=ay at *
    go_upto_region 6 with(first
     | refine wpList_load_wide rfl 108 _ rfl b1 (k*2) rfl ax HW1.o _ Tryz.underlying108 rfl HI1.o ?_
     | refine wpList_make_wide3 rfl rfl rfl 108 _ _ _ rfl rfl rfl zIo (zIo_run _) ax _ rfl rfl rfl HI1.o HZ1.o HO1.o ?_)
    have HW3:=hd (fun j u hu=>HX1.o.held (HW2.o j u hu) (by simp));have HE1:=hd (HE.o.trans HX1.o);have hw1:(World.alloc wq (.cells ax 108)).heap.size=wq.heap.size+1:=alloc_size _ _;generalize World.alloc wq _=w1 at *;generalize wq.heap.size=s1 at *;have HB2:=hd (Blk.new w1 108 ay);have HX2:=hd ((Ext.refl [] w1).alloc (.cells ay 108));have HB3:=hd (HB1.o.ext HX2.o (by simp));have HE2:=hd (HE1.o.trans HX2.o);clear HW1 HW2
    go_upto_region 7 with(first
     | refine wpList_load_wide rfl 108 _ rfl b2 (k*2) rfl ay HW3.o _ Tryz.underlying108 rfl HI2.o ?_
     | refine wpList_make_wide rfl rfl 108 _ _ rfl rfl zIo (zIo_run _) ay rfl rfl HI2.o HZ2.o HO2.o ?_)
    rw[hw1] at HB2;generalize World.alloc w1 _=w2 at *;rw[hw1]
    go_wp2_with (first
     | refine wpList_load_wide rfl 108 _ rfl s1 0 rfl ax HB3.o.wide _ Tryz.underlying108 rfl HI1.o ?_
     | refine wpList_load_wide rfl 108 _ rfl (s1+1) 0 rfl ay HB2.o.wide _ Tryz.underlying108 rfl HI2.o ?_)
    refine(HSA.o w2 HE2.o).mono ?_
    rintro e w3 ⟨rfl,hE⟩;have HE3:=hd (HE2.o.trans hE);clear hE HSA;cases dk
    ·have hkk:x.key≠y.key:=of_decide_eq_false HDK.o;have hno:decide (O1.map InO.key=O2.map InO.key)=false:=by rw[decide_eq_false_iff_not];exact HNE.o hkk
     have HNO:=hd hno;clear hkk hno;go_wp2_with fail
     go_ret
     exact⟨by rw[HNO.o];rfl,HE3.o⟩
    ·have hkk:x.key=y.key:=of_decide_eq_true HDK.o;have HTK:=hd (HTE.o hkk);clear hkk;go_wp2_with fail
     go_roundw
     case rel=>exact⟨k+1,by go_num,by omega,HE3,HTK⟩
     case measure=>simp[intOf];omega
   ·have hkn:k=n1:=by omega
    subst hkn;have hT1:O1.take k=O1:=List.take_of_length_le (by have:=HL1.o;omega);have hT2:O2.take k=O2:=List.take_of_length_le (by have:=HL2.o;omega)
    have hyes:decide (O1.map InO.key=O2.map InO.key)=true:=by
     rw[decide_eq_true_iff,<-hT1,<-hT2];exact HEQ.o
    have HYES:=hd hyes;clear hyes hT1 hT2;go_wp2_with fail
    go_ret
    exact⟨by rw[HYES.o];rfl,HE.o⟩
 ·have hb:((n1:Int) != (n2:Int))=true:=by simp;omega
  have hno:decide (O1.map InO.key=O2.map InO.key)=false:=by
   rw[decide_eq_false_iff_not];intro h;have h3:=congrArg List.length h;rw[List.length_map,List.length_map,HL1.o,HL2.o] at h3;exact hne h3
  rw[hno];go_wp2_with fail
  go_ret
  exact⟨rfl,Ext.refl _ _⟩
theorem NumR.rd {H:Nat}{A:Option Addr}{vs:List Int}{w:World}(h:NumR H A vs w):RdI w A vs:=by
 rcases h with h|⟨b,C,h1,h2,h3,h4⟩
 ·exact .inl h
 ·exact .inr ⟨b,0,h1,fun i x hx=>by rw[Nat.zero_add,h3.cell];exact h4 i x hx⟩
theorem InsAt.seq {H:Nat}{v:Value}{O:List InO}{w:World}(h:InsAt H v O w):∃A c,v=.slice A O.length c/\SeqIn w A 2 ioC O:=by
 obtain⟨h1,⟨B,h2,h3⟩,h4⟩:=h;obtain⟨A,c,rfl,hc,-⟩:=own_form h3;exact⟨A,c,rfl,(own_seqG ioC_len h3 (by omega)).2⟩
set_option maxRecDepth 100000 in
theorem sameI_any (H1 H2:Nat)(v1 v2:Value)(O1 O2:List InO)(w:World)(h1:InsAt H1 v1 O1 w)(h2:InsAt H2 v2 O2 w)(k1:∀x∈O1,x.vs.length<=1000000/\x.no<=1000000)(k2:∀x∈O2,x.vs.length<=1000000/\x.no<=1000000) :
  Calls Tryz.prog 20 #[v1,v2] w (HasP (decide (O1.map InO.key=O2.map InO.key)) w):=by
 obtain⟨A1,c1,rfl,hS1⟩:=h1.seq;obtain⟨A2,c2,rfl,hS2⟩:=h2.seq;have HC:=hd (eqF_any A1 A2 c1 c2 O1 O2 w hS1 hS2 (fun x hx=>⟨⟨(h1.2.2 x hx).rd,(k1 x hx).1⟩,(k1 x hx).2⟩) (fun x hx=>⟨⟨(h2.2.2 x hx).rd,(k2 x hx).1⟩,(k2 x hx).2⟩));clear h1 h2 k1 k2 hS1 hS2;generalize decide (O1.map InO.key=O2.map InO.key)=d at *;generalize O1.length=n1 at *;generalize O2.length=n2 at *;go_enter Tryz.func20,Tryz.ntmps20
 go_wp2_with fail
 refine HC.o.mono ?_
 rintro e w1 ⟨rfl,hE⟩;have HE1:=hd hE;clear hE;go_wp2_with fail
 go_ret
 exact⟨rfl,HE1.o⟩
def kyR (x:RtD):Nat×List Int:=(x.no,x.vs)
def wkL (X:List RtD):List (Nat×List Int):=(X.filter fun x=>x.wr).map kyR
theorem wkL_append (a b:List RtD):wkL (a ++ b)=wkL a ++ wkL b:=by unfold wkL;rw[List.filter_append,List.map_append]
theorem wkL_wrO (O:List RtO):(wrO O).map InO.key=wkL (O.map RtO.d):=by
 unfold wrO wkL
 induction O with
 | nil=>rfl
 | cons x O ih=>
  simp only[List.map_cons,List.filter_cons];cases hw:x.d.wr
  ·simpa[hw] using ih
  ·simp only[hw,if_true,List.map_cons];rw[<-ih];rfl
theorem rdC_rd (env:Env)(h:EH)(inst part k:Nat):∀t∈rdC env h inst part k,t.wr=false:=fun t ht=>by
 unfold rdC at ht;obtain⟨i,-,rfl⟩:=List.mem_map.1 ht;rfl
mutual
theorem rdT_rd (env:Env)(inst:Nat):∀(part:Nat) (e:Ex),∀t∈rdT env inst part e,t.wr=false
 | part,.mk h ks,t,ht=>by
  rw[rdT] at ht;rcases List.mem_append.1 ht with h1|h1
  ·exact rdC_rd _ _ _ _ _ t h1
  ·exact rdTL_rd env inst _ ks t h1
theorem rdTL_rd (env:Env)(inst:Nat):∀(part:Nat) (l:List Ex),∀t∈rdTL env inst part l,t.wr=false
 | part,[],t,ht=>by simp[rdTL] at ht
 | part,e :: r,t,ht=>by
  rw[rdTL] at ht;rcases List.mem_append.1 ht with h1|h1
  ·exact rdT_rd env inst part e t h1
  ·exact rdTL_rd env inst _ r t h1
end
theorem wk_rqI (env:Env)(no:Nat)(h:SH)(c:Nat):wkL (rqI env no h c)=[]:=by
 unfold wkL rqI;rw[List.map_eq_nil_iff,List.filter_eq_nil_iff];intro x hx;obtain⟨t,ht,rfl⟩:=List.mem_map.1 hx;have:=rdT_rd env c 0 h.val t ht;simp[rtOf,this]
theorem wk_rqW (env:Env)(no:Nat)(h:SH)(c:Nat):wkL (rqW env no h c)=[kyI ⟨no,h,env⟩]:=rfl
theorem wk_cat {f:Nat->List RtD}{g:Nat->List (Nat×List Int)}(h:∀k,wkL (f k)=g k):∀n,wkL (catN n f)=catN n g
 | 0=>rfl
 | n+1=>by rw[catN_succ,catN_succ,wkL_append,wk_cat h n,h]
theorem catN_nil {α:Type}:∀n,catN n (fun _=>([]:List α))=[]
 | 0=>rfl
 | n+1=>by rw[catN_succ,catN_nil n];rfl
theorem cat_one {α:Type}(f:Nat->α):∀n,catN n (fun k=>[f k])=(List.range n).map f
 | 0=>rfl
 | n+1=>by rw[catN_succ,cat_one f n,List.range_succ,List.map_append];rfl
theorem cat_map {α β:Type}(g:α->β)(f:Nat->List α):∀n,catN n (fun k=>(f k).map g)=(catN n f).map g
 | 0=>rfl
 | n+1=>by rw[catN_succ,catN_succ,cat_map g f n,List.map_append]
theorem wk_rqV (env:Env)(h:SH):∀(b:List St) (no c:Nat),wkL (rqV env h no c b)=(vecI env h no b).map kyI
 | [],no,c=>rfl
 | s :: b,no,c=>by
  have h1:vecI env h no (s :: b)=rowI env h no s (manyS h) ++ vecI env h (no+1) b:=rfl;rw[h1,List.map_append,<-wk_rqV env h b (no+1) (c+manyS h)];simp only[rqV,wkL_append];rw[wk_cat (fun k=>wk_rqI (envS env h k) no s.h (c+k)),catN_nil,List.nil_append,wk_cat (fun k=>wk_rqW (envS env h k) no s.h (c+k)),cat_one];simp only[rowI,List.map_map];rfl
theorem wk_list_of {env:Env}(l:List St)(ih:∀s∈l,∀no c,wkL (rqS env no c s)=(instS env no s).map kyI):∀no c,wkL (rqL env no c l)=(instL env no l).map kyI:=by
 induction l with
 | nil=>intro no c;rfl
 | cons s r ihr=>
  intro no c;simp only[rqL,instL,wkL_append,List.map_append,ih s (List.mem_cons_self ..),ihr fun s hs=>ih s (List.mem_cons_of_mem _ hs)]
theorem wk_rqS:∀(s:St) (env:Env) (no c:Nat),wkL (rqS env no c s)=(instS env no s).map kyI:=by
 refine st_ind fun h b ih=>?_
 intro env no c;have hl:∀env no c,wkL (rqL env no c b)=(instL env no b).map kyI:=fun env=>wk_list_of b fun s hs no c=>ih s hs env no c
 rw[rqS,instS];split
 ·rw[wkL_append,wk_rqI,wk_rqW];rfl
 split
 ·split
  ·exact hl ..
  ·rfl
 split
 ·exact wk_rqV ..
 ·have h1:=wk_cat (f:=fun k=>rqL (envS env h k) no (c+(catN k fun j=>instL (envS env h j) no b).length) b) (g:=fun k=>(instL (envS env h k) no b).map kyI) (fun k=>hl _ _ _) (manyS h);rw[cat_map] at h1;exact h1
theorem wk_body (body:List St):wkL (rqL [] 0 0 body)=keysB body:=wk_list_of body (fun s _=>wk_rqS s []) 0 0
theorem orderE_zero {p:Pg}(h:orderE p=0):checkE p.bs p.body=0/\smallB p.body=true:=by
 unfold orderE at h;split at h
 ·rename_i h1;exact absurd h h1
 ·rename_i h1
  split at h
  ·rename_i h2;exact⟨by omega,h2⟩
  ·cases h
theorem orderE_check {p:Pg}(h:checkE p.bs p.body≠0):orderE p=checkE p.bs p.body:=by
 unfold orderE;rw[if_pos h]
theorem checkE_form {bs:List Bf}{body:List St}(h:checkE bs body=0):FormOk bs body:=FormOk.of (by
 unfold checkE at h;split at h
 ·assumption
 ·rename_i h1;exact absurd h h1)
theorem keys_fit {p:Pg}(h:checkE p.bs p.body=0):∀k∈keysB p.body,k.2.length<=1000000/\k.1<=1000000:=fun k hk=>by
 have HF:=checkE_form h;have h8:=keys8 HF.fd k hk;obtain⟨i,hi,rfl⟩:=List.mem_map.1 hk;have hn:=noOk_any HF.fd i hi;have hl:=(List.getElem?_eq_some_iff.1 hn).1;rw[stoLL_len] at hl;have:=HF.sto;refine⟨by omega,?_⟩
 show i.no<=1000000
 omega
theorem keys_few {p:Pg}(h:smallB p.body=true):(keysB p.body).length<=2000:=by
 unfold smallB at h;rw[Bool.and_eq_true,decide_eq_true_eq,decide_eq_true_eq] at h;unfold keysB;rw[List.length_map];exact h.1
theorem io_fit {p:Pg}(h:checkE p.bs p.body=0){O:List InO}(hO:O.map InO.key=keysB p.body):∀x∈O,x.vs.length<=1000000/\x.no<=1000000:=fun x hx=>by
 have hk:x.key∈keysB p.body:=hO ▸ List.mem_map_of_mem hx;exact keys_fit h _ hk
theorem wr_keys {p:Pg}{O:List RtO}(hO:O.map RtO.d=rqL [] 0 0 p.body):(wrO O).map InO.key=keysB p.body:=by rw[wkL_wrO,hO,wk_body]
end Go.Proofs.YtfjdmoppfbddpaaGreatDoor
