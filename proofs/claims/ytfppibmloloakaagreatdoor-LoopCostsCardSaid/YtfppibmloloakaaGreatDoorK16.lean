import Derived.Test.YtfppibmloloakaaGreatDoorK11
import Derived.Test.YtfppibmloloakaaGreatDoorK15
namespace Go.Proofs.YtfppibmloloakaaGreatDoor
open Go.RowKit Go.Proofs.Tryz
set_option linter.all false
set_option maxHeartbeats 64000000
theorem Aiu (nb:Nat):∀(s:St) (vars:List ByteArray) (before:Nat),stE nb vars before s=0->before+Hm s<=3000:=by
 refine Dn fun h b ih vars before he=>?_
 obtain⟨h1,h2⟩:=Xr he;have h3:=(Ik h1).1
 have key:∀(l:List St) (bf:Nat),(∀s∈l,∀(vars:List ByteArray) (before:Nat),stE nb vars before s=0->before+Hm s<=3000)->bf<=3000->Eo nb (Aw vars h) bf l=0->bf+Bk l<=3000:=by
  intro l
  induction l with
  | nil=>intro bf _ hb _;simpa[Bk] using hb
  | cons x l ihl=>
   intro bf hx hb hl;simp only[Eo] at hl;split at hl
   ·rename_i h0
    have h5:=hx x (jO ..) _ _ h0;have:=ihl (bf+Hm x) (fun s hs=>hx s (jI _ hs)) h5 hl;simp only[Bk];omega
   ·rename_i h0
    exact absurd hl h0
 have:=key b (before+1) ih (by omega) h2;simp only[Hm];omega
theorem Yn {nb:Nat}{vars:List ByteArray}:∀{l:List St} {bf:Nat},bf<=3000->Eo nb vars bf l=0->bf+Bk l<=3000
 | [],bf,hb,_=>by simpa[Bk] using hb
 | x :: l,bf,hb,hl=>by
  simp only[Eo] at hl;split at hl
  ·rename_i h0
   have h5:=Aiu nb x _ _ h0;have:=Yn h5 hl;simp only[Bk];omega
  ·rename_i h0
   exact absurd hl h0
mutual
theorem Yo:∀s:St,Be s<=Hm s
 | .mk h b=>by
  simp only[Be,Hm];have:=Iy b;split<;>omega
theorem Iy:∀l:List St,Ab l<=Bk l
 | []=>by simp[Ab,Bk]
 | s :: r=>by
  simp only[Ab,Bk];have:=Yo s;have:=Iy r;omega
end
theorem Pu:∀{l ahead:List Bf},Ih ahead l=0->∀b∈l,1<=b.size/\b.size<=262144
 | [],_,_,b,hb=>by simp at hb
 | x :: l,ahead,h,b,hb=>by
  simp only[Ih] at h;split at h
  ·rename_i h0
   rcases jE.1 hb with rfl|hb
   ·unfold Ki at h0;split at h0
    ·omega
    split at h0
    ·omega
    split at h0
    ·omega
    rename_i h3
    have:=Bu.1 (by simpa using h3:btw b.size 1 262144=true);exact this
   ·exact Pu h b hb
  ·rename_i h0
   exact absurd h h0
theorem Yp {bs:List Bf}(h:Dy bs=0):∀b∈bs,1<=b.size/\b.size<=262144:=by
 unfold Dy at h;split at h
 ·omega
 split at h
 ·rename_i h0
  exact Pu h0
 ·rename_i h0
  exact absurd h h0
def Yq (p:Az->Bool)(d:List Az):Bool:=((d.getLast?).map p).getD true
theorem Nt (p:Az->Bool)(d:List Az)(i:Az):Yq p (d ++ [i])=p i:=by simp[Yq]
theorem Yr {p:Az->Bool}:∀(l d:List Az),Yq p (goL (fun _ i=>p i) d l).1=if l=[] then Yq p d else l.all p
 | [],d=>rfl
 | i :: l,d=>by
  cases h:p i
  ·rw[Pb h,Nt];simp[h]
  ·rw[Hu h,Yr l,ijn (List.cons_ne_nil _ _),Nt];split
   ·rename_i h1;subst h1;simp[h]
   ·simp[h]
theorem Ma (w:World):(Instr.makeSlice 22 (.int .i64 0) (.int .i64 8)).run prog w=.ok (.slice (some w.heap.size) (0:Nat) 8) (w.alloc (.cells (Array.replicate 8 (.int .i64 0)) 3)):=by
 kernel_rfl
def Et (B:Nat):Ba:=⟨Nat,0,fun b=>.slice (some ⟨b,0,none⟩) (0:Nat) 8,fun b w=>B<=b/\Bn w b []⟩
theorem Et.stays {B:Nat}:∀y w w',RH [] w w'->(Et B).V y w->(Et B).V y w':=fun b w w' h k=>⟨k.1,Bn.keep k.2 h.1 jH⟩
set_option maxRecDepth 100000 in
theorem Va (body:List St)(f:FuncId)(caps:Array Value)(C:List Nat)(cb nb n:Nat)(bA:Option Addr)(nbb bc:Nat)(gs:List Nat)(gA:Option Addr)(gc:Nat)(L:List Nat)(AL:List Value)(sA:Option Addr)(sc:Nat)(v1 av:Value)(G:List Az->Az->Bool)(I:List Az->World->Prop)(w:World)
  (hC:Hp w n cb bA nbb bc body gs gA gc L AL sA sc v1 av) (hF:∀s∈body,Fd nb [] s) (hg:gs.length<=1000000) (hn:n<=w.heap.size) (hD:∀eb,w.heap.size<=eb->DoC f caps C n nb eb L G I) (hI:∀w',Ext [] w w'->I [] w') :
  Calls prog 100 #[.pointer (some cb),.func (.func f) #[] caps] w fun e w'=>e=.returned (.tuple #[])/\Ext C w w'/\I (goL G [] (Au [] 0 body)).1 w':=by
 have HC:=hd hC;have HF:=hd hF;have HD:=hd hD;have HI:=hd hI;clear hC hF hD hI;have HQ:Hd (∀W,Ext [] w W->W.cell? ⟨cb,2,none⟩=some (.slice gA body.length gc)/\cb<W.heap.size):=hd fun W hW=>⟨(HC.o.blk.ext hW (by simp)).cell 2,(HC.o.blk.ext hW (by simp)).lt⟩
 go_enter func100,ntmps100
 go_wp2_with fail
 refine rgH 6 [(4,Et w.heap.size)] ?_ ?_
 ·refine Am.cons Et.stays Am.nil
 simp only[TK]
 repeat(refine dE (fun wr nr hJ=>by(obtain⟨q2,ql⟩:=HQ.o wr hJ.1);clear hJ;exact CL) ?_;simp only[PT])
 refine Gi (Et w.heap.size) rfl rfl (fun wr nr hJ hf=>?_) ?_
 ·refine⟨wr.heap.size,.cells (Array.replicate 8 (.int .i64 0)) 3,?_,hJ.1.size,Bn.made wr⟩
  have ab:=Ma wr;(go_simp;try go_bits)
  rfl
 intro (eb:Nat);simp only[PT]
 repeat(refine dE (fun wr nr hJ=>by clear hJ;exact CL) ?_;simp only[PT])
 refine Aj (fun w1 hJ hF=>?_)
 have a1:Hd (w.heap.size<=eb/\Bn w1 eb []):=hd (hF 4);have a2:=hd hJ.1;clear hF hJ;dsimp only[Et];have a6:=hd (Af8 body f caps C n nb eb G I gA gc gs [] [] 0 [] [] L AL [] w1 (HD.o eb a1.o.1) ((⟨HC.o.row.1,fun b o hA=>(HC.o.row.2 b o hA).1,HC.o.len,fun i g s hg hs=>by have:=HC.o.cst i g s hg hs;rw[Nat.zero_add];exact this,HF.o⟩:Dh w n nb L AL [] [] [] 0 gA gs body).step a2.o (by simp)) a1.o.2 rfl (nt hn a1.o.1) (HI.o w1 a2.o) (fun p i h=>by cases p<;>simp at h));simp only[List.length_nil] at a6;go_wp2_with fail
 refine a6.o.mono ?_
 rintro e w2 ⟨rfl,hE,a7,-⟩
 have a8:=hd (a2.o.nil.step hE fun x hx=>by
  rcases jE.1 hx with rfl|hx
  ·right;exact a1.o.1
  ·left;exact hx)
 have aa:=hd a7;clear hE a7 a6;go_wp2_with fail
 exact bodyPost_end (results_none rfl _ _ _) rfl ⟨rfl,a8.o,aa.o⟩
theorem Aaz:∀args w,(callFunc 101 args).run prog w=.ok (.enter 101 args) w:=by
 obtain⟨c,hc⟩:∃c,Tryz.f101.body=some c:=⟨_,rfl⟩;exact fun args w=>enters_of func101 (by kernel_rfl) hc args w
def Akg (bs:List Bf)(cb cc ib:Nat)(d:List Az)(w:World):Prop:=
 Adr w cb bs/\w.cell? ⟨cc,0,none⟩=some (.pointer (some cb))/\Blk w ib 4 #[.bool (Yq (inI bs) d)]
theorem Aiv (bs:List Bf)(cb cc ib eb nb:Nat)(hnb:bs.length=nb)(hic:ib≠cc)(hib:ib≠cb)(d:List Az)(i:Az)(g:Nat)(names:List ByteArray)(vs:List Int)(w:World)(hI:Akg bs cb cc ib d w)(hS:Lx w g names nb i.s i.no)(hV:Bn w eb vs)(hl:vs.length=names.length)(he:i.env=names.zip vs)(hbA:∀bA bc,w.cell? ⟨cb,0,none⟩=some (.slice bA bs.length bc)->bs=[]\/∀b o,bA=some ⟨b,o,none⟩->b≠ib) :
  Calls prog 101 (#[ptV g,.slice (some eb) vs.length 8] ++ #[.pointer (some cc),.pointer (some ib)]) w fun e w'=>e=.returned (.bool (inI bs i))/\Ext [ib] w w'/\Akg bs cb cc ib (d ++ [i]) w':=by
 subst hnb;obtain⟨no,h,env⟩:=i;simp only at he hS;subst he;have a6:=hd (Aat bs cb eb names vs hl g h no w hS hI.1 hV);have HI:=hd hI;have a7:=hd hbA;have q1:=hI.2.1;have a8:=jB w _ q1;simp only at a8;clear hI hS hV hl hbA;generalize vs.length=dl at *;generalize hr:inI bs ⟨no,h,names.zip vs⟩=r at *;have HR:=hd hr;clear hr;unfold ptV at *;go_enter func101,ntmps101
 go_wp2_with fail
 refine a6.o.mono ?_
 rintro e w2 ⟨rfl,hE⟩;have HE:=hd hE;have a1:=hd (HI.o.2.2.ext hE (by simp));clear hE a6;have q2:=a1.o.cell;have ab:=a1.o.frozen;have ac:=a1.o.lt;have aa:=hd (a1.o.set_' 0 (.bool r) #[.bool r] rfl);have a2:=hd (jL (b:=ib) (i:=0) (u:=Value.bool r) (.inl (by simp)) (jF [ib] w2));go_wp2_with fail
 go_ret
 refine⟨rfl,HE.o.nil.trans a2.o,?_,a2.o.held (HE.o.held HI.o.2.1 (by simp)) (fun hm=>by rw[jA] at hm;exact hic hm.symm),?_⟩
 ·obtain⟨bA,bc,h1,h2,h3⟩:=HI.o.1;refine⟨bA,bc,a2.o.held (HE.o.held h1 (by simp)) (fun hm=>by rw[jA] at hm;exact hib hm.symm),?_,h3⟩
  rcases a7.o bA bc h1 with h4|h4
  ·rw[h4];exact Ak.nil _ _ _ _
  ·refine(h2.keep HE.o).ext a2.o fun x hx b o hA hxb=>?_
   rw[jA.1 hx] at hxb;exact h4 b o hA hxb.symm
 ·rw[Nt,HR.o];exact aa.o
def Ok (p:Pg)(w:World)(e:Ending)(w':World):Prop:=Ext [] w w'/\((Cd p.bs p.body≠0/\e=.returned (.tuple #[.pointer none,(Cd p.bs p.body:Int)]))\/
 (Cd p.bs p.body=0/\∃(n cb:Nat) (gs:List Nat) (gA:Option Addr) (gc:Nat) (L:List Nat) (AL:List Value) (sA:Option Addr) (sc:Nat) (av:Value),e=.returned (.tuple #[.pointer (some cb),(0:Int)])/\w.heap.size<=cb/\n<=w'.heap.size/\Hp w' n cb p.A p.bs.length p.cap p.body gs gA gc L AL sA sc (.slice p.B p.body.length p.bcap) av))
structure Jg (bs:List Bf)(body:List St):Prop where
 fd:∀s∈body,Fd bs.length [] s
 cnt:Bk body<=3000
 sto:Ab body<=3000
 siz:∀b∈bs,1<=b.size/\b.size<=262144
theorem Jg.of {bs:List Bf}{body:List St}(h:Du bs body=0):Jg bs body:=by
 unfold Du at h;split at h
 ·rename_i h0
  have h1:=Yn (jQ _) h;have h2:=Iy body;exact⟨Aj8 h,by omega,by omega,Yp h0⟩
 ·rename_i h0
  exact absurd h h0
set_option maxRecDepth 100000 in
theorem Iz (p:Pg)(w:World)(hP:Lz w p):Calls prog 45 #[pgV p] w (Ok p w):=by
 have HP:=hd hP;have aA:=hd (fun W (hW:Ext [] w W)=>Aay p W (hP.keep hW));have aB:Hd (Cd p.bs p.body=if Du p.bs p.body=0 then(if 2500000<Av [] p.body then 2 else if(Au [] 0 p.body).all (inI p.bs) then 0 else 9) else Du p.bs p.body):=hd rfl;unfold Ok;generalize Cd p.bs p.body=ce at *;have aN:=hd (fun h=>Jg.of (bs:=p.bs) (body:=p.body) h);obtain⟨A,cap,bs,B,bcap,body⟩:=p;dsimp only[pgV] at *;clear hP;have ak:=hd ((jF [] w).alloc (.cells #[.slice A bs.length cap,.slice B body.length bcap] 29));have aC:=hd (jK w 29 #[.slice A bs.length cap,.slice B body.length bcap]);generalize aM:Du bs body=fe at *;have aY:=hd aM;clear aM;go_enter func45,ntmps45
 go_wp2_with fail
 generalize World.alloc w _=w1 at *;generalize w.heap.size=pb at *;refine(aA.o w1 ak.o).mono ?_
 rintro e w2 ⟨rfl,hE⟩;have ab:=hd (ak.o.trans hE);have al:=hd (aC.o.ext hE (by simp));clear hE aA ak aC;have q2:=al.o.cell;have ql:=al.o.lt;by_cases h0:fe=0
 ·subst h0;have a2:=hd (aN.o rfl);have aD:=hd (aB.o.trans (ijp rfl));have hP:=HP.o;have aE:=hd (Ye A B bs.length cap bcap body w2 (hP.body.keep ab.o) (fun s hs=>(hP.stmt s hs).keep ab.o) a2.o.fd (by have:=a2.o.cnt;omega) (by have:=a2.o.sto;omega));clear hP;go_wp2_with fail
  refine aE.o.mono ?_
  rintro e w3 ⟨cb,gs,gA,gc,L,AL,sA,sc,av,rfl,aL,hE,hC⟩;have af:=hd (ab.o.trans hE);have am:=hd hC;have aO:=hd aL;have an:gs.length<=1000000:=hC.row.1.1;clear hE hC aL aE q2 ql al;have aF:=hd ((jK w3 91 #[.pointer (some cb)]).ext ((jF [] _).alloc (.cells #[(2500000:Int)] 182)) (by simp));have ao:=hd (jK (w3.alloc (.cells #[.pointer (some cb)] 91)) 182 #[(2500000:Int)]);rw[Ag] at ao;have ac:=hd (((jF [] w3).alloc (.cells #[.pointer (some cb)] 91)).alloc (.cells #[(2500000:Int)] 182));go_upto_region 6 with fail
  generalize World.alloc (World.alloc w3 _) _=w5 at *;generalize hN:w3.heap.size=n at *;have HQ:Hd (∀W,Ext [] w5 W->W.cell? ⟨n,0,none⟩=some (.pointer (some cb))/\n<W.heap.size/\W.cell? ⟨cb,2,none⟩=some (.slice gA body.length gc)/\cb<W.heap.size):=hd fun W hW=>⟨(aF.o.ext hW (by simp)).cell 0,(aF.o.ext hW (by simp)).lt,((am.o.blk.ext ac.o (by simp)).ext hW (by simp)).cell 2,((am.o.blk.ext ac.o (by simp)).ext hW (by simp)).lt⟩
  have aZ:n<=w5.heap.size:=by have:=ac.o.size;omega
  refine rgH 6 [(5,Et w5.heap.size)] ?_ ?_
  ·exact Am.cons Et.stays Am.nil
  simp only[TK]
  repeat(refine dE (fun wr nr hJ=>by(obtain⟨q0,b6,q2,ql⟩:=HQ.o wr hJ.1);clear hJ;exact CL) ?_;simp only[PT])
  refine Gi (Et w5.heap.size) rfl rfl (fun wr nr hJ hf=>?_) ?_
  ·refine⟨wr.heap.size,.cells (Array.replicate 8 (.int .i64 0)) 3,?_,hJ.1.size,Bn.made wr⟩
   have b0:=Ma wr;(go_simp;try go_bits)
   rfl
  intro (eb:Nat);simp only[PT]
  repeat(refine dE (fun wr nr hJ=>by clear hJ;exact CL) ?_;simp only[PT])
  refine Aj (fun w6 hJ hF=>?_)
  have a8:Hd (w5.heap.size<=eb/\Bn w6 eb []):=hd (hF 5);have ag:=hd hJ.1;clear hF hJ;dsimp only[Et];have ad:=hd ((am.o.step ac.o (by simp) (jD _)).step ag.o (by simp) (jD _));have aP:Hd (Dh w6 n bs.length L AL [] [] [] 0 gA gs body):=hd ⟨ad.o.row.1,fun b o hA=>(ad.o.row.2 b o hA).1,ad.o.len,fun i g s hg hs=>by have:=ad.o.cst i g s hg hs;rw[Nat.zero_add];exact this,a2.o.fd⟩;have b1:=ao.o.lt;have ap:=hd (Aip body n bs.length (n+1) eb gA gc gs [] [] 0 [] [] L AL 2500000 w6 aP.o a8.o.2 rfl (by have:=a8.o.1;omega) (by omega) (by have:=a8.o.1;omega) (ao.o.ext ag.o (by simp)) (by have:=a2.o.cnt;omega) (by have:=a2.o.cnt;omega) (by omega));simp only[List.length_nil,List.zip_nil_left] at ap;go_wp2_with fail
  refine ap.o.mono ?_
  rintro e w7 ⟨aV,rfl,hE,-,-,-⟩
  have aq:=hd (((af.o.trans ac.o).trans ag.o).step hE fun x hx=>by
   have h1:=a8.o.1;have h2:=af.o.size;rw[hN] at h2;rcases jE.1 hx with rfl|hx
   ·right;omega
   ·right;rw[jA.1 hx];omega)
  have aG:=hd hE;clear hE ap;by_cases hr:2500000<Av [] body
  ·have ae:okR [] body 2500000=false:=by
    unfold okR;cases hb:body with
    | nil=>subst hb;simp[Av] at hr
    | cons s r=>
           rw[<-hb];have:decide ((Av [] body:Int)<=2500000)=false:=by simp;omega
           rw[this];rw[hb];rfl
   have HF:=hd (aD.o.trans (ijp hr));have a6:=hd ae;clear hr ae;rw[a6.o];go_wp2_with fail
   go_ret2
   exact⟨aq.o,.inl ⟨by rw[HF.o];decide,by rw[HF.o];rfl⟩⟩
  ·have ae:okR [] body 2500000=true:=by
    unfold okR;have:decide ((Av [] body:Int)<=2500000)=true:=by simp;omega
    rw[this];simp
   have HF:=hd (aD.o.trans (ijn hr));have a6:=hd ae;clear hr ae;rw[a6.o]
   have aH:=hd (ad.o.step aG.o (fun x hx=>by
    have h1:=a8.o.1;rcases jE.1 hx with rfl|hx
    ·omega
    ·rw[jA.1 hx];omega) (jD n))
   have au:Hd (w7.cell? ⟨n,0,none⟩=some (.pointer (some cb))):=hd (aG.o.held (HQ.o w6 ag.o).1 fun hm=>by
    have h1:=a8.o.1;simp only[jE,jH,or_false] at hm;omega)
   have b2:n<w7.heap.size:=by have:=jB w7 _ au.o;simpa using this
   have aQ:=aH.o.cbn
   have aw:Hd (bs=[]\/∀b o,A=some ⟨b,o,none⟩->b<n):=hd (by
    rcases HP.o.bufs.2 with h1|⟨b,h1,hc⟩
    ·exact .inl h1
    ·cases hb:bs with
     | nil=>exact .inl rfl
     | cons x r=>
      right
      intro b' o' hA;have h2:=jB w _ (hc 0 x (by simp only;rw[hb];rfl) 0 _ rfl);have h3:=af.o.size;simp only at h1 h2;rw[h1] at hA;cases hA
      omega)
   have ax:=hd (HP.o.bufs.keep aq.o);simp only at ax;have aa:=hd ((jF [] w7).alloc (.cells #[.bool true] 4));have aR:=hd (jK w7 4 #[.bool true]);have ah:Hd ((w7.alloc (.cells #[.bool true] 4)).heap.size=w7.heap.size+1):=hd (Ag _ _);go_upto_region 9 with fail
   generalize World.alloc w7 _=w8 at *;generalize b7:w7.heap.size=ib at *;have ai:=hd (aH.o.step aa.o (by simp) (jD n))
   have aI:=hd (Va body 101 #[.pointer (some n),.pointer (some ib)] [ib] cb bs.length n A bs.length cap gs gA gc L AL sA sc (.slice B body.length bcap) av (fun _ i=>inI bs i)
    (fun d w=>Akg bs cb n ib d w/\w.cell? ⟨cb,0,none⟩=some (.slice A bs.length cap)/\Ak w A 4 bfC bs) w8 ai.o a2.o.fd an (by rw[ah.o];omega)
    (fun eb' he=>⟨Aaz,fun x hx=>by rw[jA.1 hx];have:=ah.o;exact⟨by omega,by omega⟩,fun d w w' hE hI=>by
     have b3:=ah.o;have aS:∀b,b<n->b∉[eb']:=fun b hb hm=>by rw[jA] at hm;omega
     obtain⟨⟨-,h2,h3⟩,h4,h5⟩:=hI
     have h6:Ak w' A 4 bfC bs:=by
      rcases aw.o with h7|h7
      ·rw[h7];exact Ak.nil _ _ _ _
      ·exact h5.ext hE fun x hx b o hA hxb=>by have:=h7 b o hA;rw[jA.1 hx] at hxb;omega
     have h8:=hE.held h4 (aS cb aQ);exact⟨⟨⟨A,cap,h8,h6,a2.o.siz⟩,hE.held h2 (fun hm=>by rw[jA] at hm;simp only at hm;omega),h3.ext hE (fun hm=>by rw[jA] at hm;omega)⟩,h8,h6⟩,
    fun d i g names vs W hI _ hS _ hV hl he=>by
     refine(Aiv bs cb n ib eb' bs.length rfl (by omega) (by omega) d i g names vs W hI.1 hS hV hl he (fun bA bc hc=>?_)).mono ?_
     ·rw[hI.2.1] at hc;cases hc
      exact aw.o.imp id fun h b o hA=>by have:=h b o hA;omega
     ·rintro e w' ⟨h1,h2,h3⟩;refine⟨h1,h2,h3,h2.held hI.2.1 (fun hm=>by rw[jA] at hm;simp only at hm;omega),?_⟩
      rcases aw.o with h7|h7
      ·rw[h7];exact Ak.nil _ _ _ _
      ·exact hI.2.2.ext h2 fun x hx b o hA hxb=>by have:=h7 b o hA;rw[jA.1 hx] at hxb;omega⟩)
    (fun W hW=>⟨⟨⟨A,cap,(ai.o.blk.ext hW (by simp)).cell 0,(ax.o.keep aa.o).keep hW,a2.o.siz⟩,hW.held (aa.o.held au.o (by simp)) (by simp),aR.o.ext hW (by simp)⟩,(ai.o.blk.ext hW (by simp)).cell 0,(ax.o.keep aa.o).keep hW⟩))
   have qn:w8.cell? ⟨n,0,none⟩=some (.pointer (some cb)):=aa.o.held au.o (by simp);have ay:n<w8.heap.size:=by have:=ah.o;omega
   go_wp2_with fail
   refine aI.o.mono ?_
   rintro e w9 ⟨rfl,hE,⟨az,aW,aX⟩⟩;have b4:=hd hE;have a1:=az.2.2;rw[Yr] at a1
   have aJ:Hd (Blk w9 ib 4 #[.bool ((Au [] 0 body).all (inI bs))]):=hd (by
    by_cases a7:Au [] 0 body=[]
    ·rw[ijp a7] at a1;rw[a7];exact a1
    ·rw[ijn a7] at a1;exact a1)
   have aK:=hd ((aq.o.trans aa.o).step hE fun x hx=>by
    rw[jA.1 hx];have h1:=af.o.size;right
    omega)
   have aT:=hd (ai.o.step hE (fun x hx=>by rw[jA.1 hx];omega) (jD n));have aU:Hd (w9.cell? ⟨n,0,none⟩=some (.pointer (some cb))):=hd az.2.1;clear hE az aW aX a1 qn ay aI;have q9:=aJ.o.cell;have b5:=aJ.o.lt;cases hin:(Au [] 0 body).all (inI bs)
   ·rw[hin] at q9;have hf:=HF.o;rw[hin] at hf;have aj:=hd hf;clear hf hin;go_wp2_with fail
    go_ret2
    exact⟨aK.o,.inl ⟨by rw[aj.o];decide,by rw[aj.o];rfl⟩⟩
   ·rw[hin] at q9;have hf:=HF.o;rw[hin] at hf;have aj:=hd hf;clear hf hin;have qn:=aU.o;have ay:=jB w9 _ qn;simp only at ay;go_wp2_with fail
    go_ret2
    refine⟨aK.o,.inr ⟨aj.o,n,cb,gs,gA,gc,L,AL,sA,sc,av,rfl,?_,by omega,aT.o⟩⟩
    have h1:=ab.o.size;have h2:=aO.o;omega
 ·have e1:(fe==0)=false:=by simpa using h0
  have HF:=hd (aB.o.trans (ijn h0));have HN:=hd h0;clear h0;go_wp2_with fail
  go_ret2
  exact⟨ab.o,.inl ⟨by rw[HF.o];exact HN.o,by rw[HF.o];rfl⟩⟩
theorem Ad1 (p:Pg)(w:World)(hP:Lz w p):Calls prog 18 #[pgV p] w (My (Cd p.bs p.body) w):=by
 have HC:=hd (fun W (hW:Ext [] w W)=>Iz p W (hP.keep hW));obtain⟨A,cap,bs,B,bcap,body⟩:=p;dsimp only[pgV] at *;have a1:=hd ((jF [] w).alloc (.cells #[.slice A bs.length cap,.slice B body.length bcap] 29));go_enter func18,ntmps18
 go_wp2_with fail
 generalize World.alloc w _=w1 at *;refine(HC.o w1 a1.o).mono ?_
 rintro e w2 ⟨hE,h1|⟨h1,n,cb,gs,gA,gc,L,AL,sA,sc,av,h2,-⟩⟩
 ·obtain⟨h1,h2⟩:=h1;simp only at h1 h2;generalize Cd bs body=ce at *;subst h2;have HE:=hd (a1.o.trans hE);clear hE h1;go_wp2_with fail
  go_ret
  exact⟨rfl,HE.o⟩
 ·simp only at h1;generalize Cd bs body=ce at *;subst h1 h2;have HE:=hd (a1.o.trans hE);clear hE;go_wp2_with fail
  go_ret
  exact⟨rfl,HE.o⟩
mutual
def Kx:St->List SH|.mk h b=>(if h.k=3 then [h] else []) ++ Eu b
def Eu:List St->List SH | []=>[]|s :: r=>Kx s ++ Eu r
end
mutual
theorem Kg:∀s:St,(Kx s).length=Be s
 | .mk h b=>by
  have:=Vk b;simp only[Kx,Be,jG,this];split<;>simp
theorem Vk:∀l:List St,(Eu l).length=Ab l
 | []=>rfl
 | s :: r=>by simp only[Eu,Ab,jG,Kg s,Vk r]
end
theorem Sx:∀(l:List St) (j:Nat),j<Ab l->∃i s,l[i]? = some s/\Ab (l.take i)<=j/\j<Ab (l.take i)+Be s/\(Eu l)[j]? = (Kx s)[j-Ab (l.take i)]?
 | [],j,h=>by simp[Ab] at h
 | s :: r,j,h=>by
  by_cases h1:j<Be s
  ·exact⟨0,s,rfl,by simp[Ab],by simpa[Ab] using h1,by
    simp only[Eu,List.take_zero,Ab,Nat.sub_zero];rw[List.getElem?_append_left (by rw[Kg];exact h1)]⟩
  ·have h2:j-Be s<Ab r:=by simp only[Ab] at h;omega
   obtain⟨i,t,e1,e2,e3,e4⟩:=Sx r _ h2;refine⟨i+1,t,by simpa using e1,by simp only[List.take_succ_cons,Ab];omega,by simp only[List.take_succ_cons,Ab];omega,?_⟩
   simp only[Eu,List.take_succ_cons,Ab];rw[jM (by rw[Kg];omega),Kg,e4];congr 1
   omega
def Ag1 (no:Nat)(l:List St)(i:Az):Prop:=no<=i.no/\(Eu l)[i.no-no]? = some i.s
theorem Ac0 {env:Env}{h:SH}:∀(b:List St) (no:Nat),(∀s∈b,s.h.k=3)->(∀s∈b,s.body=[])->∀i∈Ct env h no b,Ag1 no b i
 | [],no,_,_,i,hi=>by simp[Ct] at hi
 | s :: r,no,h3,hb,i,hi=>by
  have e1:Kx s=[s.h]:=by
   have k3:=h3 s (jO ..);have k4:=hb s (jO ..);obtain⟨hh,bb⟩:=s;simp only[St.h,St.body] at k3 k4⊢;subst k4;simp[Kx,k3,Eu]
  simp only[Ct,jN,List.mem_map] at hi;unfold Ag1;simp only[Eu,e1];rcases hi with⟨k,-,rfl⟩|hi
  ·exact⟨jD _,by simp⟩
  ·obtain⟨e2,e3⟩:=Ac0 r (no+1) (fun s hs=>h3 s (jI _ hs)) (fun s hs=>hb s (jI _ hs)) i hi;refine⟨by omega,?_⟩
   have:i.no-no=(i.no-(no+1))+1:=by omega
   rw[this];simpa using e3
theorem Vl {env:Env}(l:List St)(ih:∀s∈l,∀no,∀i∈Cv env no s,no<=i.no/\(Kx s)[i.no-no]? = some i.s):∀no,∀i∈Au env no l,Ag1 no l i:=by
 induction l with
 | nil=>intro no i hi;simp[Au] at hi
 | cons s r ihr=>
  intro no i hi;simp only[Au,jN] at hi;unfold Ag1;simp only[Eu];rcases hi with hi|hi
  ·obtain⟨h1,h2⟩:=ih s (jO ..) no i hi;have h3:=(ils h2).1;exact⟨h1,by rw[List.getElem?_append_left h3];exact h2⟩
  ·obtain⟨h1,h2⟩:=ihr (fun s hs=>ih s (jI _ hs)) (no+Be s) i hi;refine⟨by omega,?_⟩
   rw[jM (by rw[Kg];omega),Kg];have:i.no-no-Be s=i.no-(no+Be s):=by omega
   rw[this];exact h2
theorem Ai2 {nb:Nat}:∀(s:St) (names:List ByteArray),Fd nb names s->∀(env:Env) (no:Nat),∀i∈Cv env no s,no<=i.no/\(Kx s)[i.no-no]? = some i.s:=by
 refine Dn fun h b ih=>?_
 intro names hF env no i hi
 have a2:∀s∈b,h.k≠3->∃names',Fd nb names' s:=fun s hs h3=>by
  cases hF with
  | loop _ _ _ _ _ _ _ _ _ _ _ h9=>exact⟨_,h9 s hs⟩
  | when _ _ _ _ _ _ _ h9=>exact⟨_,h9 s hs⟩
  | store _ _ h9=>exact absurd h9 h3
 by_cases h3:h.k=3
 ·rw[Hk h3] at hi;rw[jA.1 hi];exact⟨jD _,by simp[Kx,h3]⟩
 ·have a7:Kx (.mk h b)=Eu b:=by simp[Kx,h3]
  rw[a7]
  have a1:∀env',∀i∈Au env' no b,Ag1 no b i:=fun env'=>Vl b (fun s hs no' i' hi'=>by
   obtain⟨nm,hf⟩:=a2 s hs h3;exact ih s hs nm hf env' no' i' hi') no
  by_cases h2:h.k=2
  ·rw[Ij h2] at hi;split at hi
   ·exact a1 env i hi
   ·simp at hi
  ·have h1:h.k=1:=by
    cases hF with
    | loop _ _ _ h9=>exact h9
    | when _ _ _ h9=>exact absurd h9 h2
    | store _ _ h9=>exact absurd h9 h3
   cases hv:h.vec
   ·rw[Jv h1 hv] at hi;unfold Ef at hi;rw[List.mem_flatten] at hi;obtain⟨l',aa,ab⟩:=hi;obtain⟨k,-,rfl⟩:=List.mem_map.1 aa;exact a1 _ i ab
   ·rw[Ju h1 hv] at hi
    have a6:∀s∈b,s.h.k=3:=by
     cases hF with
     | loop _ _ _ _ _ _ _ _ _ _ h8 _=>exact h8 hv
     | when _ _ _ h9=>exact absurd h9 h2
     | store _ _ h9=>exact absurd h9 h3
    have a8:∀s∈b,s.body=[]:=fun s hs=>by
     obtain⟨nm,hf⟩:=a2 s hs h3;have:=a6 s hs;cases hf with
     | loop _ _ _ h9=>simp only[St.h] at this;omega
     | when _ _ _ h9=>simp only[St.h] at this;omega
     | store=>rfl
    exact Ac0 b no a6 a8 i hi
theorem Ag2 {nb:Nat}{body:List St}(hF:∀s∈body,Fd nb [] s):∀i∈Au [] 0 body,(Eu body)[i.no]? = some i.s:=fun i hi=>by
 have:=(Vl body (fun s hs no i hi=>Ai2 s [] (hF s hs) [] no i hi) 0 i hi).2;simpa using this
theorem Akm {w:World}{n nb:Nat}{L:List Nat}{AL:List Value}:∀(s:St) (names:List ByteArray) (path:List Int) (gl:List Nat) (no g:Nat),CSt w n [] L AL names path gl no g s->Fd nb names s->∀j,j<Be s->∃g' names' h',L[no+j]? = some g'/\Lx w g' names' nb h' (no+j)/\(Kx s)[j]? = some h'/\g'<n:=by
 refine Dn fun h b ih=>?_
 intro names path gl no g hC hF j hj;obtain⟨pb,po,CA,cc,A,cap,gs,PA,pc,vv,k⟩:=hC.open_;by_cases h3:h.k=3
 ·have hb:b=[]:=by
   cases hF with
   | loop _ _ _ h9=>omega
   | when _ _ _ h9=>omega
   | store=>rfl
  subst hb;have a2:j=0:=by simp[Be,h3,Ab] at hj;omega
  subst a2;obtain⟨_,_,_,_,_,h5,_⟩:=k.val h3;exact⟨g,names,h,h5,Lx.of k h3 hF,by simp[Kx,h3],k.gn⟩
 ·have a6:Kx (.mk h b)=Eu b:=by simp[Kx,h3]
  have a7:Be (.mk h b)=Ab b:=by simp[Be,h3]
  rw[a7] at hj;obtain⟨i,s,e1,e2,e3,e4⟩:=Sx b j hj;have hi:=(ils e1).1;have a8:∃g1,gs[i]? = some g1:=⟨_,jJ (by rw[k.len];exact hi)⟩;obtain⟨g1,ac⟩:=a8;have a1:=ilm e1
  have aa:Fd nb (Aw names h) s:=by
   cases hF with
   | loop _ _ _ h1 _ _ _ _ _ _ _ h9=>
    have e:Aw names h=names ++ [h.var]:=ijp h1;rw[e];exact h9 s a1
   | when _ _ _ h1 _ _ _ h9=>
    have e:Aw names h=names:=ijn (by omega);rw[e];exact h9 s a1
   | store _ _ h9=>exact absurd h9 h3
  obtain⟨g',ad,h',f1,f2,f3,f4⟩:=ih s a1 _ _ _ _ _ (k.kid i g1 s ac e1) aa (j-Ab (b.take i)) (by omega);have ab:no+Ab (b.take i)+(j-Ab (b.take i))=no+j:=by omega
  rw[ab] at f1 f2;exact⟨g',ad,h',f1,f2,by rw[a6,e4];exact f3,f4⟩
theorem Hp.sto {w:World}{n cb:Nat}{bA:Option Addr}{nb bc:Nat}{body:List St}{gs:List Nat}{gA:Option Addr}{gc:Nat}{L:List Nat}{AL:List Value}{sA:Option Addr}{sc:Nat}{v1 av:Value}(k:Hp w n cb bA nb bc body gs gA gc L AL sA sc v1 av){nn:Nat}(hF:∀s∈body,Fd nn [] s):∀j,j<L.length->∃g' names' h',L[j]? = some g'/\Lx w g' names' nn h' j/\(Eu body)[j]? = some h'/\g'<n:=fun j hj=>by
 rw[k.lenS.1] at hj;obtain⟨i,s,e1,e2,e3,e4⟩:=Sx body j hj;have hi:=(ils e1).1;obtain⟨g1,a6⟩:∃g1,gs[i]? = some g1:=⟨_,jJ (by rw[k.len];exact hi)⟩;have a1:=ilm e1;obtain⟨g',a7,h',f1,f2,f3,f4⟩:=Akm s _ _ _ _ _ (k.cst i g1 s a6 e1) (hF s a1) (j-Ab (body.take i)) (by omega);have a2:Ab (body.take i)+(j-Ab (body.take i))=j:=by omega
 rw[a2] at f1 f2;exact⟨g',a7,h',f1,f2,by rw[e4];exact f3,f4⟩
def Hv (W:Nat->Nat)(d:List Az):Nat:=(d.map fun i=>W i.no).sum
theorem Mv (W:Nat->Nat)(d:List Az)(i:Az):Hv W (d ++ [i])=Hv W d+W i.no:=by simp[Hv]
def Nv (W:Nat->Nat)(d:List Az)(i:Az):Bool:=decide (d.length+1<=2000)&&decide (Hv W d+W i.no<=20000)
theorem Aeh {W:Nat->Nat}{d:List Az}(h:Ni (Nv W) d):d.length<=2000/\Hv W d<=20000:=by
 rcases List.eq_nil_or_concat d with rfl|⟨p,i,hp⟩
 ·simp[Hv]
 ·rw[List.concat_eq_append] at hp;subst hp;have:=h p i rfl;unfold Nv at this;simp at this;rw[Mv];simp;exact this
def Aei (W:Nat->Nat)(len nb tb wp wr:Nat)(d:List Az)(w:World):Prop:=
 Blk w nb 3 #[(d.length:Nat)]/\Blk w tb 3 #[(Hv W d:Nat)]/\Blk w wp 22 #[.slice (some wr) len len]/\∀j,j<len->w.cell? ⟨wr,j,none⟩=some (.int .i64 (W j:Nat))
theorem Abh:∀args w,(callFunc 138 args).run prog w=.ok (.enter 138 args) w:=by
 obtain⟨c,hc⟩:∃c,Tryz.f138.body=some c:=⟨_,rfl⟩;exact fun args w=>enters_of func138 (by kernel_rfl) hc args w
set_option maxRecDepth 100000 in
theorem Ai3 (W:Nat->Nat)(hW:∀j,W j<=1000000000000)(len nb tb wp wr g:Nat)(vA:Value)(d:List Az)(i:Az)(w:World)(hI:Aei W len nb tb wp wr d w)(hd9:d.length<=2000/\Hv W d<=20000)(hi:i.no<len)(hg:w.cell? ⟨g,5,none⟩=some (.int .i64 i.no))
  (h1:nb≠tb) (h2:nb≠wp) (h3:nb≠wr) (h4:tb≠wp) (h5:tb≠wr) (h6:g≠nb) (h7:g≠tb) :
  Calls prog 138 (#[ptV g,vA] ++ #[.pointer (some nb),.pointer (some tb),.pointer (some wp)]) w fun e w'=>e=.returned (.bool (Nv W d i))/\Ext [nb,tb] w w'/\Aei W len nb tb wp wr (d ++ [i]) w':=by
 obtain⟨k1,k2,k3,k4⟩:=hI;have HG:Hd (Nv W d i=(decide (d.length+1<=2000)&&decide (Hv W d+W i.no<=20000))):=hd rfl;have a2:(d ++ [i]).length=d.length+1:=by simp
 have ai:=hd (Mv W d i);have aj:=hd a2;have aE:=hW i.no;have ak:=hd k3;have al:=hd k4;have am:=hd k2;have aF:=hd k1;have an:=hd hg;have q4:=k4 i.no hi;generalize W i.no=x at *;generalize Hv W d=t at *;generalize d.length=m at *;generalize i.no=no at *;have qn:=k1.cell;have ao:=k1.frozen;have ae:=k1.lt;have ap:=hd (k1.set_' 0 (.int .i64 (m+1)) #[(m+1:Nat)] rfl);have a1:=hd (jL (b:=nb) (i:=0) (u:=.int .i64 (m+1)) (.inl (by simp)) (jF [nb] w));have aq:=hd q4;clear k1 k2 k3 k4 hg a2 q4;unfold ptV;go_enter func138,ntmps138
 go_upto_region 2 with fail
 generalize World.setCell _ _ _=w1 at *;clear qn ao ae;have a8:=hd (am.o.ext a1.o (by rw[jA];exact Ne.symm h1));have aa:=hd (ak.o.ext a1.o (by rw[jA];exact Ne.symm h2));have au:Hd (∀j,j<len->w1.cell? ⟨wr,j,none⟩=some (.int .i64 (W j:Nat))):=hd fun j hj=>a1.o.held (al.o j hj) (by rw[jA];exact Ne.symm h3)
 have q4:=a1.o.held aq.o (by rw[jA];exact Ne.symm h3);have qg:=a1.o.held an.o (by rw[jA];exact h6);have af:=hd (And.intro q4 qg);clear q4 qg;go_wp2_with fail
 have aG:(no:Int)<(len:Int):=by omega
 refine rgE 9 [] ?_
 simp only[TK]
 repeat(refine dE (fun wr nr hJ=>by(have qt:=(a8.o.ext hJ (by simp)).cell;have ab:=(a8.o.ext hJ (by simp)).lt;have qp:=(aa.o.ext hJ (by simp)).cell;have aH:=(aa.o.ext hJ (by simp)).lt;have q4:=hJ.held af.o.1 (by simp);have q5:=hJ.held af.o.2 (by simp);have aw:=jB wr _ q4;have ax:=jB wr _ q5;simp only at aw ax);clear hJ;exact CL) ?_;simp only[PT])
 refine Aj (fun w2 hJ hF=>?_)
 have ay:=hd hJ;have a6:=hd (a8.o.ext hJ (by simp));have az:=hd (ap.o.ext hJ (by simp));have aA:=hd (aa.o.ext hJ (by simp));have aB:Hd (∀j,j<len->w2.cell? ⟨wr,j,none⟩=some (.int .i64 (W j:Nat))):=hd fun j hj'=>hJ.held (au.o j hj') (by simp)
 clear hF hJ;have qt:=a6.o.cell;have aC:=a6.o.frozen;have ab:=a6.o.lt;have ac:=hd (a6.o.set_' 0 (.int .i64 (t+x)) #[(t+x:Nat)] rfl);have a7:=hd (jL (b:=tb) (i:=0) (u:=.int .i64 (t+x)) (.inl (by simp)) (jF [tb] w2));go_upto_region 3 with fail
 generalize World.setCell _ _ _=w3 at *;clear qt aC ab;have ad:=hd (az.o.ext a7.o (by rw[jA];exact h1));have aD:=hd (aA.o.ext a7.o (by rw[jA];exact Ne.symm h4));have ag:Hd (Aei W len nb tb wp wr (d ++ [i]) w3):=hd ⟨by rw[aj.o];exact ad.o,by rw[ai.o];exact ac.o,aD.o,fun j hj=>a7.o.held (aB.o j hj) (by rw[jA];exact Ne.symm h5)⟩;have ah:Hd (Ext [nb,tb] w w3):=hd (((a1.o.step ay.o (fun x hx=>by cases hx)).mono (fun x hx=>.inl (by rw[jA.1 hx];simp))).step a7.o fun x hx=>.inl (by rw[jA.1 hx];simp));have qn:=ad.o.cell;have ae:=ad.o.lt;have qt:=ac.o.cell;have ab:=ac.o.lt;by_cases hm:m+1<=2000
 ·go_wp2_with fail
  go_ret
  exact⟨Aa (by rw[HG.o,decide_eq_true hm,Bool.true_and,decide_eq_decide];omega),ah.o,ag.o⟩
 ·go_wp2_with fail
  go_ret
  exact⟨Aa (by rw[HG.o,decide_eq_false hm,Bool.false_and]),ah.o,ag.o⟩
theorem Ag3 {nb:Nat}:∀(s:St) (names:List ByteArray),Fd nb names s->∀h∈Kx s,∃nm,Bs nm nb h.val=0/\Al h.val<=32:=by
 refine Dn fun h b ih=>?_
 intro names hF h' hh
 have key:∀l:List St,(∀s∈l,∀h∈Kx s,∃nm,Bs nm nb h.val=0/\Al h.val<=32)->∀h∈Eu l,∃nm,Bs nm nb h.val=0/\Al h.val<=32:=by
  intro l
  induction l with
  | nil=>intro _ h hh;simp[Eu] at hh
  | cons s l ihl=>
   intro h1 h hh;simp only[Eu,jN] at hh;rcases hh with hh|hh
   ·exact h1 s (jO ..) h hh
   ·exact ihl (fun s hs=>h1 s (jI _ hs)) h hh
 simp only[Kx,jN] at hh;rcases hh with hh|hh
 ·split at hh
  ·rename_i h3
   rw[jA.1 hh];cases hF with
   | loop _ _ _ h9=>omega
   | when _ _ _ h9=>omega
   | store _ _ _ _ _ _ hx hf=>exact⟨_,hx,by have:=(Jx.1 hf).1;omega⟩
  ·simp at hh
 ·refine key b (fun s hs=>?_) h' hh
  cases hF with
  | loop _ _ _ _ _ _ _ _ _ _ _ h9=>exact ih s hs _ (h9 s hs)
  | when _ _ _ _ _ _ _ h9=>exact ih s hs _ (h9 s hs)
  | store=>simp at hs
def wdB (body:List St)(j:Nat):Nat:=match (Eu body)[j]? with|none=>1|some h=>rdE h.val+1
theorem Vm {l:List St}{h:SH}(hh:h∈Eu l):∃s∈l,h∈Kx s:=by
 induction l with
 | nil=>simp[Eu] at hh
 | cons s l ih=>
  simp only[Eu,jN] at hh;rcases hh with hh|hh
  ·exact⟨s,jO ..,hh⟩
  ·obtain⟨t,h1,h2⟩:=ih hh;exact⟨t,jI _ h1,h2⟩
theorem Akn {nb:Nat}{body:List St}(hF:∀s∈body,Fd nb [] s)(j:Nat):wdB body j<=10000000:=by
 unfold wdB;split
 ·omega
 ·rename_i h hj
  obtain⟨s,hs,hh⟩:=Vm (ilm hj);obtain⟨nm,h1,h2⟩:=Ag3 s [] (hF s hs) h hh;have:=Abg h.val h1;omega
def Gq (l:List Az):Nat:=(l.map fun i=>rdE i.s.val+1).sum
def Ky (body:List St):Bool:=decide ((Au [] 0 body).length<=2000)&&decide (Gq (Au [] 0 body)<=20000)
theorem Vn {body:List St}:∀l:List Az,(∀i∈l,(Eu body)[i.no]? = some i.s)->Hv (wdB body) l=Gq l
 | [],_=>rfl
 | i :: l,h=>by
  have e:=h i (jO ..);have h2:=Vn l fun i hi=>h i (jI _ hi)
  unfold Hv Gq at h2⊢;simp only[List.map_cons,List.sum_cons,h2];congr 1
  simp[wdB,e]
theorem Ac1 {W:Nat->Nat}:∀(l d:List Az),(d.length<=2000/\Hv W d<=20000)->
  (decide ((goL (Nv W) d l).1.length<=2000)&&decide (Hv W (goL (Nv W) d l).1<=20000))=(decide ((d ++ l).length<=2000)&&decide (Hv W (d ++ l)<=20000))
 | [],d,h=>by rw[show goL (Nv W) d []=(d,true) from rfl,List.append_nil]
 | i :: l,d,h=>by
  cases hg:Nv W d i
  ·rw[Pb hg];have e1:Hv W (d ++ [i])=Hv W d+W i.no:=Mv W d i;have e2:Hv W (d ++ i :: l)=Hv W d+W i.no+Hv W l:=by simp[Hv];omega
   unfold Nv at hg;rw[Bool.eq_iff_iff];simp only[Bool.and_eq_true,decide_eq_true_eq,e1,e2,jG,List.length_cons,List.length_nil];simp only[Bool.and_eq_false_iff,decide_eq_false_iff_not] at hg;constructor
   ·rintro⟨a,b⟩;rcases hg with hg|hg<;>omega
   ·rintro⟨a,b⟩;rcases hg with hg|hg<;>omega
  ·rw[Hu hg];unfold Nv at hg;simp only[Bool.and_eq_true,decide_eq_true_eq] at hg;rw[Ac1 l (d ++ [i]) ⟨by simp;omega,by rw[Mv];exact hg.2⟩];simp
theorem Ak8 {w w4 w5:World}{r a:Nat}(h1:Ext [r] w w4)(h2:Ext [a,a+1] w4 w5)(h:w.heap.size<=r/\w.heap.size<=a):Ext [] w w5:=by
 have h0:Ext [] w w4:=h1.mono fun x hx=>.inr (by rw[jA.1 hx];exact h.1)
 refine h0.step h2 fun x hx=>.inr ?_
 rcases jE.1 hx with rfl|hx
 ·exact h.2
 ·rw[jA.1 hx];omega
set_option maxRecDepth 100000 in
theorem Aej (bs:List Bf)(cb n:Nat)(bA:Option Addr)(nbb bc:Nat)(body:List St)(gs:List Nat)(gA:Option Addr)(gc:Nat)(L:List Nat)(AL:List Value)(sA:Option Addr)(sc:Nat)(v1 av:Value)(w:World)
  (hC:Hp w n cb bA nbb bc body gs gA gc L AL sA sc v1 av) (hF:∀s∈body,Fd bs.length [] s) (hg:gs.length<=1000000) (hL:L.length<=3000) (hn:n<=w.heap.size) :
  Calls prog 92 #[.pointer (some cb)] w (Fk (Ky body) w):=by
 have HC:=hd hC;have HF:=hd hF;have HW:=hd (Akn hF);have aW:=hC.cbn;generalize aH:L.length=len at *;have a1:=hd aH;clear hC hF aH
 have aK:∀W:World,(Instr.makeSlice 22 (.int .i64 len) (.int .i64 len)).run prog W=.ok (.slice (some W.heap.size) len len) (W.alloc (.cells (madeCells #[(0:Int)] len) 3)):=fun W=>by
  rw[run_make_row' 22 3 (.int .i64 0) 8 underlying22 (by kernel_rfl) rfl .i64 .i64 len (by omega) (by omega) W]
 have qc:=HC.o.blk.cell;rw[a1.o] at qc;have ae:=HC.o.blk.lt;go_enter func92,ntmps92
 go_upto_region 2 with fail
 have al:=hd (((jF [] w).alloc (.cells (madeCells #[(0:Int)] len) 3)).alloc (.cells #[.slice (some w.heap.size) len len] 22));have aL:=hd ((jK w 3 (madeCells #[(0:Int)] len)).alloc (.cells #[.slice (some w.heap.size) len len] 22));have am:=hd (jK (w.alloc (.cells (madeCells #[(0:Int)] len) 3)) 22 #[.slice (some w.heap.size) len len]);rw[Ag] at am;have aX:((w.alloc (.cells (madeCells #[(0:Int)] len) 3)).alloc (.cells #[.slice (some w.heap.size) len len] 22)).heap.size=w.heap.size+2:=by rw[Ag,Ag]
 have aM:(madeCells #[Value.int .i64 0] len).size=len:=by simp[madeCells]
 generalize hM:madeCells #[Value.int .i64 0] len=MC at *;clear hM aK;generalize World.alloc (World.alloc w _) _=w1 at *;generalize hr:w.heap.size=r at *;have af:=hd (HC.o.step al.o (by simp) (jD n));clear qc ae;have qc:=af.o.blk.cell;rw[a1.o] at qc;have ae:=af.o.blk.lt;go_wp2_with fail
 clear qc ae;go_loopw [19] (fun i wr=>∃k:Nat,i=.int .i64 k/\k<=len/\Hd (Ext [r] w1 wr)/\∃CC:Array Value,CC.size=len/\Hd (Blk wr r 3 CC)/\Hd (∀j,j<k->CC[j]? = some (.int .i64 (wdB body j:Nat)))) (fun i _=>(len-intOf i).toNat)
 case atStart=>exact⟨0,rfl,jQ _,hd (jF _ _),MC,aM,aL,hd fun j hj=>absurd hj (by omega)⟩
 case round=>
  obtain⟨k,rfl,hk,HE,CC,aV,HB,HN⟩:=hrel;rename World=>wq
  have a8:=hd (af.o.step HE.o (fun x hx=>by rw[jA.1 hx];omega) (jD n));have aa:=hd (am.o.ext HE.o (by rw[jA];omega));by_cases aI:k<len
  ·obtain⟨g,nm,h,e1,e2,e3,e4⟩:=a8.o.sto HF.o k (by rw[a1.o];exact aI);obtain⟨⟨pb,po,vb,n',T,-,-,ak,aC⟩,-,-,-,aD,-⟩:=e2;obtain⟨s,hs,hh⟩:=Vm (ilm e3);have ag:=(Ag3 s [] (HF.o s hs) h hh).elim fun _ x=>x.2
   have an:=hd (fun W (hW:Ext [] wq W)=>Vj nm bs.length h.val aD (by omega) nm vb n' T W (aC.step hW (by simp) (jD n') fun y hy=>.inl hy));have ah:wdB body k=rdE h.val+1:=by unfold wdB;rw[e3]
   have aN:=HW.o k;rw[ah] at aN;have aO:=hd ah;have a2:=hd ak;have aP:=jB wq _ ak;simp only at aP;obtain⟨bb,g2,rfl,aE,aF⟩:=Ak.at (show Ak wq sA 1 ptC L from a8.o.rowS.1) (i:=k) (by rw[a1.o];exact aI);have:g2=g:=by rw[aE] at e1;cases e1;rfl
   subst this;have qa:wq.cell? ⟨bb,k,none⟩=some (.pointer (some g2)):=by have:=aF 0 _ rfl;rw[Nat.mul_one,Nat.add_zero] at this;exact this
   have aQ:=jB wq _ qa;simp only at aQ;generalize rdE h.val=x at *;clear e1 e3 aD aC hs hh ag ak aE aF ah;unfold ptV at a2 an;go_wp2_with fail
   refine rgE 9 [(6,Cx (.int .i64 (x:Nat)))] ?_
   simp only[TK]
   repeat(refine dE (fun wr nr hJ=>by(have q:=hJ.held a2.o (by simp);have ql:=jB wr _ q;simp only at ql;have qp:=(aa.o.ext hJ (by simp)).cell;have aY:=(aa.o.ext hJ (by simp)).lt);clear hJ;exact CL) ?_;simp only[PT])
   refine Gh rfl rfl ?_ ?_
   ·refine EC fun wr nr hJ=>?_
    exact(an.o wr hJ).mono (by rintro e w' ⟨rfl,hE⟩;exact⟨rfl,hE⟩)
   simp only[PT]
   repeat(refine dE (fun wr nr hJ=>by(have qb:=(HB.o.ext hJ (by simp)).lt);clear hJ;exact CL) ?_;simp only[PT])
   refine Aj (fun w2 hJ hF=>?_)
   have aR:=hd (HE.o.step hJ fun x hx=>by cases hx);have ab:=hd (HB.o.ext hJ (by simp));clear hF hJ;obtain⟨v0,aG⟩:∃v0,CC[k]? = some v0:=⟨_,Array.getElem?_eq_getElem (by omega)⟩;have qv:w2.cell? ⟨r,k,none⟩=some v0:=by rw[ab.o.cell];exact aG
   have qf:=ab.o.frozen;have ql:=ab.o.lt;have aS:=hd (ab.o.set_ k (.int .i64 (x+1)));have aT:=hd (jL (b:=r) (i:=k) (u:=.int .i64 (x+1)) (.inl (by simp)) aR.o);clear aG;go_wp2_with fail
   go_roundw
   case rel=>
    refine⟨k+1,by go_num,by omega,aT,_,by rw[Array.size_setIfInBounds];exact aV,aS,hd fun j hj=>?_⟩
    rw[Array.getElem?_setIfInBounds];by_cases aJ:k=j
    ·subst aJ;rw[ijp rfl,ijp (by omega),aO.o];rfl
    ·rw[ijn aJ];exact HN.o j (by omega)
   case measure=>simp[intOf];omega
  ·have aU:k=len:=by omega
   subst aU;have ao:Hd (∀j,j<k->wq.cell? ⟨r,j,none⟩=some (.int .i64 (wdB body j:Nat))):=hd fun j hj=>by rw[HB.o.cell];exact HN.o j hj
   have aZ:=HE.o.size;clear HN HB;have ac:=hd (((jF [] wq).alloc (.cells #[(0:Int)] 3)).alloc (.cells #[(0:Int)] 3));have ap:=hd ((jK wq 3 #[(0:Int)]).alloc (.cells #[(0:Int)] 3));have ai:=hd (jK (wq.alloc (.cells #[(0:Int)] 3)) 3 #[(0:Int)]);rw[Ag] at ai;have b0:((wq.alloc (.cells #[(0:Int)] 3)).alloc (.cells #[(0:Int)] 3)).heap.size=wq.heap.size+2:=by rw[Ag,Ag]
   go_upto_region 8 with fail
   generalize World.alloc (World.alloc wq _) _=w4 at *;generalize ha:wq.heap.size=a at *;have b1:r+2<=a:=by omega
   have aq:=hd (a8.o.step ac.o (by simp) (jD n));have au:=hd (aa.o.ext ac.o (by simp));have aj:=hd (((al.o.nil:Ext [r] w w1).trans HE.o).step ac.o (by simp));have a6:Hd (∀j,j<k->w4.cell? ⟨r,j,none⟩=some (.int .i64 (wdB body j:Nat))):=hd fun j hj=>ac.o.held (ao.o j hj) (by simp)
   have aw:Hd (∀W,Ext [] w4 W->Aei (wdB body) k a (a+1) (r+1) r [] W):=hd fun W hW=>⟨ap.o.ext hW (by simp),ai.o.ext hW (by simp),au.o.ext hW (by simp),fun j hj=>hW.held (a6.o j hj) (by simp)⟩
   have ax:Hd (∀eb,w4.heap.size<=eb->DoC 138 #[.pointer (some a),.pointer (some ⟨a+1,0,none⟩),.pointer (some ⟨r+1,0,none⟩)] [a,a+1] n bs.length eb L (Nv (wdB body)) (Aei (wdB body) k a (a+1) (r+1) r)):=hd fun eb he=>by
    refine⟨Abh,fun x hx=>?_,?_,?_⟩
    ·rcases jE.1 hx with rfl|hx
     ·exact⟨by omega,by omega⟩
     ·rw[jA.1 hx];exact⟨by omega,by omega⟩
    ·rintro d w w' hE ⟨k1,k2,k3,k4⟩;exact⟨k1.ext hE (by rw[jA];omega),k2.ext hE (by rw[jA];omega),k3.ext hE (by rw[jA];omega),fun j hj=>hE.held (k4 j hj) (by simp only[jA];omega)⟩
    ·intro d i g names vs w hI hLast hS hLi hV hl he';have ay:=(ils hLi).1;rw[a1.o] at ay
     have az:∀b v,Blk w b 3 #[v]->g≠b:=fun b v hb e=>by
      have h5:=hS.no;rw[e,hb.cell] at h5;cases h5
     exact Ai3 (wdB body) (fun j=>by have:=HW.o j;omega) k a (a+1) (r+1) r g _ d i w hI (Aeh hLast) ay hS.no (by omega) (by omega) (by omega) (by omega) (by omega) (az _ _ hI.1) (az _ _ hI.2.1)
   have aA:=hd (Va body 138 #[.pointer (some a),.pointer (some ⟨a+1,0,none⟩),.pointer (some ⟨r+1,0,none⟩)] [a,a+1] cb bs.length n bA nbb bc gs gA gc L AL sA sc v1 av (Nv (wdB body)) (Aei (wdB body) k a (a+1) (r+1) r) w4 aq.o HF.o hg (by omega) ax.o aw.o);clear ap ai ao a6 aw ax au aq aa a8;go_wp2_with fail
   refine aA.o.mono ?_
   rintro e w5 ⟨rfl,hE,hI⟩;have aB:Hd (Ext [] w w5):=hd (Ak8 aj.o hE (by rw[hr];omega));have ad:=hd hI
   have a7:Hd (Ky body=(decide ((goL (Nv (wdB body)) [] (Au [] 0 body)).1.length<=2000)&&decide (Hv (wdB body) (goL (Nv (wdB body)) [] (Au [] 0 body)).1<=20000))):=hd (by
    rw[Ac1 _ [] (by simp[Hv]),List.nil_append,Vn _ (Ag2 HF.o)];rfl)
   clear hE hI aA;generalize (goL (Nv (wdB body)) [] (Au [] 0 body)).1=dd at *;have qn:=ad.o.1.cell;have b2:=ad.o.1.lt;have qt:=ad.o.2.1.cell;have b3:=ad.o.2.1.lt;generalize dd.length=dl at *;generalize Hv (wdB body) dd=ds at *;by_cases hm:dl<=2000
   ·go_wp2_with fail
    go_ret
    exact⟨Aa (by rw[a7.o,decide_eq_true hm,Bool.true_and,decide_eq_decide];omega),aB.o⟩
   ·go_wp2_with fail
    go_ret
    exact⟨Aa (by rw[a7.o,decide_eq_false hm,Bool.false_and]),aB.o⟩
end Go.Proofs.YtfppibmloloakaaGreatDoor
