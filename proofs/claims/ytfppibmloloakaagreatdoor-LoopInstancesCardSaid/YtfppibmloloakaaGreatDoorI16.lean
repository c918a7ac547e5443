import Derived.Test.YtfppibmloloakaaGreatDoorI11
import Derived.Test.YtfppibmloloakaaGreatDoorI15
namespace Go.Proofs.YtfppibmloloakaaGreatDoor
open Go.RowKit Go.Proofs.Tryz
set_option linter.all false
set_option maxHeartbeats 64000000
theorem Aka (nb:Nat):∀(s:St) (vars:List ByteArray) (before:Nat),stE nb vars before s=0->before+Hx s<=3000:=by
 refine Dr fun h b ih vars before he=>?_
 obtain⟨h1,h2⟩:=Yo he;have h3:=(Jb h1).1
 have key:∀(l:List St) (bf:Nat),(∀s∈l,∀(vars:List ByteArray) (before:Nat),stE nb vars before s=0->before+Hx s<=3000)->bf<=3000->Fc nb (Ay vars h) bf l=0->bf+Bl l<=3000:=by
  intro l
  induction l with
  | nil=>intro bf _ hb _;simpa[Bl] using hb
  | cons x l ihl=>
   intro bf hx hb hl;simp only[Fc] at hl;split at hl
   ·rename_i h0
    have h5:=hx x (jO ..) _ _ h0;have:=ihl (bf+Hx x) (fun s hs=>hx s (jI _ hs)) h5 hl;simp only[Bl];omega
   ·rename_i h0
    exact absurd hl h0
 have:=key b (before+1) ih (by omega) h2;simp only[Hx];omega
theorem Zk {nb:Nat}{vars:List ByteArray}:∀{l:List St} {bf:Nat},bf<=3000->Fc nb vars bf l=0->bf+Bl l<=3000
 | [],bf,hb,_=>by simpa[Bl] using hb
 | x :: l,bf,hb,hl=>by
  simp only[Fc] at hl;split at hl
  ·rename_i h0
   have h5:=Aka nb x _ _ h0;have:=Zk h5 hl;simp only[Bl];omega
  ·rename_i h0
   exact absurd hl h0
mutual
theorem Zl:∀s:St,Aw s<=Hx s
 | .mk h b=>by
  simp only[Aw,Hx];have:=Ju b;split<;>omega
theorem Ju:∀l:List St,Ab l<=Bl l
 | []=>by simp[Ab,Bl]
 | s :: r=>by
  simp only[Ab,Bl];have:=Zl s;have:=Ju r;omega
end
theorem Qn:∀{l ahead:List Bf},Iw ahead l=0->∀b∈l,1<=b.size/\b.size<=262144
 | [],_,_,b,hb=>by simp at hb
 | x :: l,ahead,h,b,hb=>by
  simp only[Iw] at h;split at h
  ·rename_i h0
   rcases jE.1 hb with rfl|hb
   ·unfold Ld at h0;split at h0
    ·omega
    split at h0
    ·omega
    split at h0
    ·omega
    rename_i h3
    have:=Bz.1 (by simpa using h3:btw b.size 1 262144=true);exact this
   ·exact Qn h b hb
  ·rename_i h0
   exact absurd h h0
theorem Zm {bs:List Bf}(h:Eg bs=0):∀b∈bs,1<=b.size/\b.size<=262144:=by
 unfold Eg at h;split at h
 ·omega
 split at h
 ·rename_i h0
  exact Qn h0
 ·rename_i h0
  exact absurd h h0
def Zn (p:Az->Bool)(d:List Az):Bool:=((d.getLast?).map p).getD true
theorem Og (p:Az->Bool)(d:List Az)(i:Az):Zn p (d ++ [i])=p i:=by simp[Zn]
theorem Zo {p:Az->Bool}:∀(l d:List Az),Zn p (goL (fun _ i=>p i) d l).1=if l=[] then Zn p d else l.all p
 | [],d=>rfl
 | i :: l,d=>by
  cases h:p i
  ·rw[Pu h,Og];simp[h]
  ·rw[Ii h,Zo l,ijn (List.cons_ne_nil _ _),Og];split
   ·rename_i h1;subst h1;simp[h]
   ·simp[h]
theorem Pa (w:World):(Instr.makeSlice 22 (.int .i64 0) (.int .i64 8)).run prog w=.ok (.slice (some w.heap.size) (0:Nat) 8) (w.alloc (.cells (Array.replicate 8 (.int .i64 0)) 3)):=by
 kernel_rfl
def Gz (B:Nat):Bc:=⟨Nat,0,fun b=>.slice (some ⟨b,0,none⟩) (0:Nat) 8,fun b w=>B<=b/\Bv w b []⟩
theorem Gz.stays {B:Nat}:∀y w w',RH [] w w'->(Gz B).V y w->(Gz B).V y w':=fun b w w' h k=>⟨k.1,Bv.keep k.2 h.1 jH⟩
set_option maxRecDepth 100000 in
theorem Vs (body:List St)(f:FuncId)(caps:Array Value)(C:List Nat)(cb nb n:Nat)(bA:Option Addr)(nbb bc:Nat)(gs:List Nat)(gA:Option Addr)(gc:Nat)(L:List Nat)(AL:List Value)(sA:Option Addr)(sc:Nat)(v1 av:Value)(G:List Az->Az->Bool)(I:List Az->World->Prop)(w:World)
  (hC:Jk w n cb bA nbb bc body gs gA gc L AL sA sc v1 av) (hF:∀s∈body,Fd nb [] s) (hg:gs.length<=1000000) (hn:n<=w.heap.size) (hD:∀eb,w.heap.size<=eb->DoC f caps C n nb eb L G I) (hI:∀w',Ext [] w w'->I [] w') :
  Calls prog 100 #[.pointer (some cb),.func (.func f) #[] caps] w fun e w'=>e=.returned (.tuple #[])/\Ext C w w'/\I (goL G [] (Aj [] 0 body)).1 w':=by
 have HC:=hd hC;have HF:=hd hF;have HD:=hd hD;have HI:=hd hI;clear hC hF hD hI;have HQ:Hd (∀W,Ext [] w W->W.cell? ⟨cb,2,none⟩=some (.slice gA body.length gc)/\cb<W.heap.size):=hd fun W hW=>⟨(HC.o.blk.ext hW (by simp)).cell 2,(HC.o.blk.ext hW (by simp)).lt⟩
 go_enter func100,ntmps100
 go_wp2_with fail
 refine rgH 6 [(4,Gz w.heap.size)] ?_ ?_
 ·refine Am.cons Gz.stays Am.nil
 simp only[TK]
 repeat(refine dE (fun wr nr hJ=>by(obtain⟨q2,ql⟩:=HQ.o wr hJ.1);clear hJ;exact CL) ?_;simp only[PT])
 refine Fz (Gz w.heap.size) rfl rfl (fun wr nr hJ hf=>?_) ?_
 ·refine⟨wr.heap.size,.cells (Array.replicate 8 (.int .i64 0)) 3,?_,hJ.1.size,Bv.made wr⟩
  have ab:=Pa wr;(go_simp;try go_bits)
  rfl
 intro (eb:Nat);simp only[PT]
 repeat(refine dE (fun wr nr hJ=>by clear hJ;exact CL) ?_;simp only[PT])
 refine Ak (fun w1 hJ hF=>?_)
 have a1:Hd (w.heap.size<=eb/\Bv w1 eb []):=hd (hF 4);have a2:=hd hJ.1;clear hF hJ;dsimp only[Gz];have a6:=hd (Ahm body f caps C n nb eb G I gA gc gs [] [] 0 [] [] L AL [] w1 (HD.o eb a1.o.1) ((⟨HC.o.row.1,fun b o hA=>(HC.o.row.2 b o hA).1,HC.o.len,fun i g s hg hs=>by have:=HC.o.cst i g s hg hs;rw[Nat.zero_add];exact this,HF.o⟩:Er w n nb L AL [] [] [] 0 gA gs body).step a2.o (by simp)) a1.o.2 rfl (nt hn a1.o.1) (HI.o w1 a2.o) (fun p i h=>by cases p<;>simp at h));simp only[List.length_nil] at a6;go_wp2_with fail
 refine a6.o.mono ?_
 rintro e w2 ⟨rfl,hE,a7,-⟩
 have a8:=hd (a2.o.nil.step hE fun x hx=>by
  rcases jE.1 hx with rfl|hx
  ·right;exact a1.o.1
  ·left;exact hx)
 have aa:=hd a7;clear hE a7 a6;go_wp2_with fail
 exact bodyPost_end (results_none rfl _ _ _) rfl ⟨rfl,a8.o,aa.o⟩
theorem Ab2:∀args w,(callFunc 101 args).run prog w=.ok (.enter 101 args) w:=by
 obtain⟨c,hc⟩:∃c,Tryz.f101.body=some c:=⟨_,rfl⟩;exact fun args w=>enters_of func101 (by kernel_rfl) hc args w
def Amd (bs:List Bf)(cb cc ib:Nat)(d:List Az)(w:World):Prop:=
 Ae1 w cb bs/\w.cell? ⟨cc,0,none⟩=some (.pointer (some cb))/\Blk w ib 4 #[.bool (Zn (inI bs) d)]
theorem Akb (bs:List Bf)(cb cc ib eb nb:Nat)(hnb:bs.length=nb)(hic:ib≠cc)(hib:ib≠cb)(d:List Az)(i:Az)(g:Nat)(names:List ByteArray)(vs:List Int)(w:World)(hI:Amd bs cb cc ib d w)(hS:Ml w g names nb i.s i.no)(hV:Bv w eb vs)(hl:vs.length=names.length)(he:i.env=names.zip vs)(hbA:∀bA bc,w.cell? ⟨cb,0,none⟩=some (.slice bA bs.length bc)->bs=[]\/∀b o,bA=some ⟨b,o,none⟩->b≠ib) :
  Calls prog 101 (#[ptV g,.slice (some eb) vs.length 8] ++ #[.pointer (some cc),.pointer (some ib)]) w fun e w'=>e=.returned (.bool (inI bs i))/\Ext [ib] w w'/\Amd bs cb cc ib (d ++ [i]) w':=by
 subst hnb;obtain⟨no,h,env⟩:=i;simp only at he hS;subst he;have a6:=hd (Abw bs cb eb names vs hl g h no w hS hI.1 hV);have HI:=hd hI;have a7:=hd hbA;have q1:=hI.2.1;have a8:=jB w _ q1;simp only at a8;clear hI hS hV hl hbA;generalize vs.length=dl at *;generalize hr:inI bs ⟨no,h,names.zip vs⟩=r at *;have HR:=hd hr;clear hr;unfold ptV at *;go_enter func101,ntmps101
 go_wp2_with fail
 refine a6.o.mono ?_
 rintro e w2 ⟨rfl,hE⟩;have HE:=hd hE;have a1:=hd (HI.o.2.2.ext hE (by simp));clear hE a6;have q2:=a1.o.cell;have ab:=a1.o.frozen;have ac:=a1.o.lt;have aa:=hd (a1.o.set_' 0 (.bool r) #[.bool r] rfl);have a2:=hd (jL (b:=ib) (i:=0) (u:=Value.bool r) (.inl (by simp)) (jF [ib] w2));go_wp2_with fail
 go_ret
 refine⟨rfl,HE.o.nil.trans a2.o,?_,a2.o.held (HE.o.held HI.o.2.1 (by simp)) (fun hm=>by rw[jA] at hm;exact hic hm.symm),?_⟩
 ·obtain⟨bA,bc,h1,h2,h3⟩:=HI.o.1;refine⟨bA,bc,a2.o.held (HE.o.held h1 (by simp)) (fun hm=>by rw[jA] at hm;exact hib hm.symm),?_,h3⟩
  rcases a7.o bA bc h1 with h4|h4
  ·rw[h4];exact Al.nil _ _ _ _
  ·refine(h2.keep HE.o).ext a2.o fun x hx b o hA hxb=>?_
   rw[jA.1 hx] at hxb;exact h4 b o hA hxb.symm
 ·rw[Og,HR.o];exact aa.o
def Sy (p:Pg)(w:World)(e:Ending)(w':World):Prop:=Ext [] w w'/\((Cg p.bs p.body≠0/\e=.returned (.tuple #[.pointer none,(Cg p.bs p.body:Int)]))\/
 (Cg p.bs p.body=0/\∃(n cb:Nat) (gs:List Nat) (gA:Option Addr) (gc:Nat) (L:List Nat) (AL:List Value) (sA:Option Addr) (sc:Nat) (av:Value),e=.returned (.tuple #[.pointer (some cb),(0:Int)])/\w.heap.size<=cb/\n<=w'.heap.size/\Jk w' n cb p.A p.bs.length p.cap p.body gs gA gc L AL sA sc (.slice p.B p.body.length p.bcap) av))
structure Kf (bs:List Bf)(body:List St):Prop where
 fd:∀s∈body,Fd bs.length [] s
 cnt:Bl body<=3000
 sto:Ab body<=3000
 siz:∀b∈bs,1<=b.size/\b.size<=262144
theorem Kf.of {bs:List Bf}{body:List St}(h:Du bs body=0):Kf bs body:=by
 unfold Du at h;split at h
 ·rename_i h0
  have h1:=Zk (jQ _) h;have h2:=Ju body;exact⟨Al5 h,by omega,by omega,Zm h0⟩
 ·rename_i h0
  exact absurd h h0
set_option maxRecDepth 100000 in
theorem Mp (p:Pg)(w:World)(hP:Mo w p):Calls prog 45 #[pgV p] w (Sy p w):=by
 have HP:=hd hP;have aA:=hd (fun W (hW:Ext [] w W)=>Ab1 p W (hP.keep hW));have aB:Hd (Cg p.bs p.body=if Du p.bs p.body=0 then(if 2500000<Ax [] p.body then 2 else if(Aj [] 0 p.body).all (inI p.bs) then 0 else 9) else Du p.bs p.body):=hd rfl;unfold Sy;generalize Cg p.bs p.body=ce at *;have aN:=hd (fun h=>Kf.of (bs:=p.bs) (body:=p.body) h);obtain⟨A,cap,bs,B,bcap,body⟩:=p;dsimp only[pgV] at *;clear hP;have ak:=hd ((jF [] w).alloc (.cells #[.slice A bs.length cap,.slice B body.length bcap] 29));have aC:=hd (jK w 29 #[.slice A bs.length cap,.slice B body.length bcap]);generalize aM:Du bs body=fe at *;have aY:=hd aM;clear aM;go_enter func45,ntmps45
 go_wp2_with fail
 generalize World.alloc w _=w1 at *;generalize w.heap.size=pb at *;refine(aA.o w1 ak.o).mono ?_
 rintro e w2 ⟨rfl,hE⟩;have ab:=hd (ak.o.trans hE);have al:=hd (aC.o.ext hE (by simp));clear hE aA ak aC;have q2:=al.o.cell;have ql:=al.o.lt;by_cases h0:fe=0
 ·subst h0;have a2:=hd (aN.o rfl);have aD:=hd (aB.o.trans (ijp rfl));have hP:=HP.o;have aE:=hd (Zb A B bs.length cap bcap body w2 (hP.body.keep ab.o) (fun s hs=>(hP.stmt s hs).keep ab.o) a2.o.fd (by have:=a2.o.cnt;omega) (by have:=a2.o.sto;omega));clear hP;go_wp2_with fail
  refine aE.o.mono ?_
  rintro e w3 ⟨cb,gs,gA,gc,L,AL,sA,sc,av,rfl,aL,hE,hC⟩;have af:=hd (ab.o.trans hE);have am:=hd hC;have aO:=hd aL;have an:gs.length<=1000000:=hC.row.1.1;clear hE hC aL aE q2 ql al;have aF:=hd ((jK w3 91 #[.pointer (some cb)]).ext ((jF [] _).alloc (.cells #[(2500000:Int)] 182)) (by simp));have ao:=hd (jK (w3.alloc (.cells #[.pointer (some cb)] 91)) 182 #[(2500000:Int)]);rw[Ad] at ao;have ac:=hd (((jF [] w3).alloc (.cells #[.pointer (some cb)] 91)).alloc (.cells #[(2500000:Int)] 182));go_upto_region 6 with fail
  generalize World.alloc (World.alloc w3 _) _=w5 at *;generalize hN:w3.heap.size=n at *;have HQ:Hd (∀W,Ext [] w5 W->W.cell? ⟨n,0,none⟩=some (.pointer (some cb))/\n<W.heap.size/\W.cell? ⟨cb,2,none⟩=some (.slice gA body.length gc)/\cb<W.heap.size):=hd fun W hW=>⟨(aF.o.ext hW (by simp)).cell 0,(aF.o.ext hW (by simp)).lt,((am.o.blk.ext ac.o (by simp)).ext hW (by simp)).cell 2,((am.o.blk.ext ac.o (by simp)).ext hW (by simp)).lt⟩
  have aZ:n<=w5.heap.size:=by have:=ac.o.size;omega
  refine rgH 6 [(5,Gz w5.heap.size)] ?_ ?_
  ·exact Am.cons Gz.stays Am.nil
  simp only[TK]
  repeat(refine dE (fun wr nr hJ=>by(obtain⟨q0,b6,q2,ql⟩:=HQ.o wr hJ.1);clear hJ;exact CL) ?_;simp only[PT])
  refine Fz (Gz w5.heap.size) rfl rfl (fun wr nr hJ hf=>?_) ?_
  ·refine⟨wr.heap.size,.cells (Array.replicate 8 (.int .i64 0)) 3,?_,hJ.1.size,Bv.made wr⟩
   have b0:=Pa wr;(go_simp;try go_bits)
   rfl
  intro (eb:Nat);simp only[PT]
  repeat(refine dE (fun wr nr hJ=>by clear hJ;exact CL) ?_;simp only[PT])
  refine Ak (fun w6 hJ hF=>?_)
  have a8:Hd (w5.heap.size<=eb/\Bv w6 eb []):=hd (hF 5);have ag:=hd hJ.1;clear hF hJ;dsimp only[Gz];have ad:=hd ((am.o.step ac.o (by simp) (jD _)).step ag.o (by simp) (jD _));have aP:Hd (Er w6 n bs.length L AL [] [] [] 0 gA gs body):=hd ⟨ad.o.row.1,fun b o hA=>(ad.o.row.2 b o hA).1,ad.o.len,fun i g s hg hs=>by have:=ad.o.cst i g s hg hs;rw[Nat.zero_add];exact this,a2.o.fd⟩;have b1:=ao.o.lt;have ap:=hd (Aj5 body n bs.length (n+1) eb gA gc gs [] [] 0 [] [] L AL 2500000 w6 aP.o a8.o.2 rfl (by have:=a8.o.1;omega) (by omega) (by have:=a8.o.1;omega) (ao.o.ext ag.o (by simp)) (by have:=a2.o.cnt;omega) (by have:=a2.o.cnt;omega) (by omega));simp only[List.length_nil,List.zip_nil_left] at ap;go_wp2_with fail
  refine ap.o.mono ?_
  rintro e w7 ⟨aV,rfl,hE,-,-,-⟩
  have aq:=hd (((af.o.trans ac.o).trans ag.o).step hE fun x hx=>by
   have h1:=a8.o.1;have h2:=af.o.size;rw[hN] at h2;rcases jE.1 hx with rfl|hx
   ·right;omega
   ·right;rw[jA.1 hx];omega)
  have aG:=hd hE;clear hE ap;by_cases hr:2500000<Ax [] body
  ·have ae:okR [] body 2500000=false:=by
    unfold okR;cases hb:body with
    | nil=>subst hb;simp[Ax] at hr
    | cons s r=>
           rw[<-hb];have:decide ((Ax [] body:Int)<=2500000)=false:=by simp;omega
           rw[this];rw[hb];rfl
   have HF:=hd (aD.o.trans (ijp hr));have a6:=hd ae;clear hr ae;rw[a6.o];go_wp2_with fail
   go_ret2
   exact⟨aq.o,.inl ⟨by rw[HF.o];decide,by rw[HF.o];rfl⟩⟩
  ·have ae:okR [] body 2500000=true:=by
    unfold okR;have:decide ((Ax [] body:Int)<=2500000)=true:=by simp;omega
    rw[this];simp
   have HF:=hd (aD.o.trans (ijn hr));have a6:=hd ae;clear hr ae;rw[a6.o]
   have aH:=hd (ad.o.step aG.o (fun x hx=>by
    have h1:=a8.o.1;rcases jE.1 hx with rfl|hx
    ·omega
    ·rw[jA.1 hx];omega) (jD n))
   have au:Hd (w7.cell? ⟨n,0,none⟩=some (.pointer (some cb))):=hd (aG.o.held (HQ.o w6 ag.o).1 fun hm=>by
    have h1:=a8.o.1;simp only[jE,jH,or_false] at hm;omega)
   have b2:n<w7.heap.size:=by have:=jB w7 _ au.o;simpa using this
   have aQ:=aH.o.cbn
   have aw:Hd (bs=[]\/∀b o,A=some ⟨b,o,none⟩->b<n):=hd (by
    rcases HP.o.bufs.2 with h1|⟨b,h1,hc⟩
    ·exact .inl h1
    ·cases hb:bs with
     | nil=>exact .inl rfl
     | cons x r=>
      right
      intro b' o' hA;have h2:=jB w _ (hc 0 x (by simp only;rw[hb];rfl) 0 _ rfl);have h3:=af.o.size;simp only at h1 h2;rw[h1] at hA;cases hA
      omega)
   have ax:=hd (HP.o.bufs.keep aq.o);simp only at ax;have aa:=hd ((jF [] w7).alloc (.cells #[.bool true] 4));have aR:=hd (jK w7 4 #[.bool true]);have ah:Hd ((w7.alloc (.cells #[.bool true] 4)).heap.size=w7.heap.size+1):=hd (Ad _ _);go_upto_region 9 with fail
   generalize World.alloc w7 _=w8 at *;generalize b7:w7.heap.size=ib at *;have ai:=hd (aH.o.step aa.o (by simp) (jD n))
   have aI:=hd (Vs body 101 #[.pointer (some n),.pointer (some ib)] [ib] cb bs.length n A bs.length cap gs gA gc L AL sA sc (.slice B body.length bcap) av (fun _ i=>inI bs i)
    (fun d w=>Amd bs cb n ib d w/\w.cell? ⟨cb,0,none⟩=some (.slice A bs.length cap)/\Al w A 4 bfC bs) w8 ai.o a2.o.fd an (by rw[ah.o];omega)
    (fun eb' he=>⟨Ab2,fun x hx=>by rw[jA.1 hx];have:=ah.o;exact⟨by omega,by omega⟩,fun d w w' hE hI=>by
     have b3:=ah.o;have aS:∀b,b<n->b∉[eb']:=fun b hb hm=>by rw[jA] at hm;omega
     obtain⟨⟨-,h2,h3⟩,h4,h5⟩:=hI
     have h6:Al w' A 4 bfC bs:=by
      rcases aw.o with h7|h7
      ·rw[h7];exact Al.nil _ _ _ _
      ·exact h5.ext hE fun x hx b o hA hxb=>by have:=h7 b o hA;rw[jA.1 hx] at hxb;omega
     have h8:=hE.held h4 (aS cb aQ);exact⟨⟨⟨A,cap,h8,h6,a2.o.siz⟩,hE.held h2 (fun hm=>by rw[jA] at hm;simp only at hm;omega),h3.ext hE (fun hm=>by rw[jA] at hm;omega)⟩,h8,h6⟩,
    fun d i g names vs W hI _ hS _ hV hl he=>by
     refine(Akb bs cb n ib eb' bs.length rfl (by omega) (by omega) d i g names vs W hI.1 hS hV hl he (fun bA bc hc=>?_)).mono ?_
     ·rw[hI.2.1] at hc;cases hc
      exact aw.o.imp id fun h b o hA=>by have:=h b o hA;omega
     ·rintro e w' ⟨h1,h2,h3⟩;refine⟨h1,h2,h3,h2.held hI.2.1 (fun hm=>by rw[jA] at hm;simp only at hm;omega),?_⟩
      rcases aw.o with h7|h7
      ·rw[h7];exact Al.nil _ _ _ _
      ·exact hI.2.2.ext h2 fun x hx b o hA hxb=>by have:=h7 b o hA;rw[jA.1 hx] at hxb;omega⟩)
    (fun W hW=>⟨⟨⟨A,cap,(ai.o.blk.ext hW (by simp)).cell 0,(ax.o.keep aa.o).keep hW,a2.o.siz⟩,hW.held (aa.o.held au.o (by simp)) (by simp),aR.o.ext hW (by simp)⟩,(ai.o.blk.ext hW (by simp)).cell 0,(ax.o.keep aa.o).keep hW⟩))
   have qn:w8.cell? ⟨n,0,none⟩=some (.pointer (some cb)):=aa.o.held au.o (by simp);have ay:n<w8.heap.size:=by have:=ah.o;omega
   go_wp2_with fail
   refine aI.o.mono ?_
   rintro e w9 ⟨rfl,hE,⟨az,aW,aX⟩⟩;have b4:=hd hE;have a1:=az.2.2;rw[Zo] at a1
   have aJ:Hd (Blk w9 ib 4 #[.bool ((Aj [] 0 body).all (inI bs))]):=hd (by
    by_cases a7:Aj [] 0 body=[]
    ·rw[ijp a7] at a1;rw[a7];exact a1
    ·rw[ijn a7] at a1;exact a1)
   have aK:=hd ((aq.o.trans aa.o).step hE fun x hx=>by
    rw[jA.1 hx];have h1:=af.o.size;right
    omega)
   have aT:=hd (ai.o.step hE (fun x hx=>by rw[jA.1 hx];omega) (jD n));have aU:Hd (w9.cell? ⟨n,0,none⟩=some (.pointer (some cb))):=hd az.2.1;clear hE az aW aX a1 qn ay aI;have q9:=aJ.o.cell;have b5:=aJ.o.lt;cases hin:(Aj [] 0 body).all (inI bs)
   ·rw[hin] at q9;have hf:=HF.o;rw[hin] at hf;have aj:=hd hf;clear hf hin;go_wp2_with fail
    go_ret2
    exact⟨aK.o,.inl ⟨by rw[aj.o];decide,by rw[aj.o];rfl⟩⟩
   ·rw[hin] at q9;have hf:=HF.o;rw[hin] at hf;have aj:=hd hf;clear hf hin;have qn:=aU.o;have ay:=jB w9 _ qn;simp only at ay;go_wp2_with fail
    go_ret2
    refine⟨aK.o,.inr ⟨aj.o,n,cb,gs,gA,gc,L,AL,sA,sc,av,rfl,?_,by omega,aT.o⟩⟩
    have h1:=ab.o.size;have h2:=aO.o;omega
 ·have e1:(fe==0)=false:=by simpa using h0
  have HF:=hd (aB.o.trans (ijn h0));have HN:=hd h0;clear h0;go_wp2_with fail
  go_ret2
  exact⟨ab.o,.inl ⟨by rw[HF.o];exact HN.o,by rw[HF.o];rfl⟩⟩
theorem Afb (p:Pg)(w:World)(hP:Mo w p):Calls prog 18 #[pgV p] w (Ob (Cg p.bs p.body) w):=by
 have HC:=hd (fun W (hW:Ext [] w W)=>Mp p W (hP.keep hW));obtain⟨A,cap,bs,B,bcap,body⟩:=p;dsimp only[pgV] at *;have a1:=hd ((jF [] w).alloc (.cells #[.slice A bs.length cap,.slice B body.length bcap] 29));go_enter func18,ntmps18
 go_wp2_with fail
 generalize World.alloc w _=w1 at *;refine(HC.o w1 a1.o).mono ?_
 rintro e w2 ⟨hE,h1|⟨h1,n,cb,gs,gA,gc,L,AL,sA,sc,av,h2,-⟩⟩
 ·obtain⟨h1,h2⟩:=h1;simp only at h1 h2;generalize Cg bs body=ce at *;subst h2;have HE:=hd (a1.o.trans hE);clear hE h1;go_wp2_with fail
  go_ret
  exact⟨rfl,HE.o⟩
 ·simp only at h1;generalize Cg bs body=ce at *;subst h1 h2;have HE:=hd (a1.o.trans hE);clear hE;go_wp2_with fail
  go_ret
  exact⟨rfl,HE.o⟩
mutual
def Lm:St->List SH|.mk h b=>(if h.k=3 then [h] else []) ++ Fk b
def Fk:List St->List SH | []=>[]|s :: r=>Lm s ++ Fk r
end
mutual
theorem Kv:∀s:St,(Lm s).length=Aw s
 | .mk h b=>by
  have:=Px b;simp only[Lm,Aw,jG,this];split<;>simp
theorem Px:∀l:List St,(Fk l).length=Ab l
 | []=>rfl
 | s :: r=>by simp only[Fk,Ab,jG,Kv s,Px r]
end
theorem Sz:∀(l:List St) (j:Nat),j<Ab l->∃i s,l[i]? = some s/\Ab (l.take i)<=j/\j<Ab (l.take i)+Aw s/\(Fk l)[j]? = (Lm s)[j-Ab (l.take i)]?
 | [],j,h=>by simp[Ab] at h
 | s :: r,j,h=>by
  by_cases h1:j<Aw s
  ·exact⟨0,s,rfl,by simp[Ab],by simpa[Ab] using h1,by
    simp only[Fk,List.take_zero,Ab,Nat.sub_zero];rw[List.getElem?_append_left (by rw[Kv];exact h1)]⟩
  ·have h2:j-Aw s<Ab r:=by simp only[Ab] at h;omega
   obtain⟨i,t,e1,e2,e3,e4⟩:=Sz r _ h2;refine⟨i+1,t,by simpa using e1,by simp only[List.take_succ_cons,Ab];omega,by simp only[List.take_succ_cons,Ab];omega,?_⟩
   simp only[Fk,List.take_succ_cons,Ab];rw[jM (by rw[Kv];omega),Kv,e4];congr 1
   omega
def Ahv (no:Nat)(l:List St)(i:Az):Prop:=no<=i.no/\(Fk l)[i.no-no]? = some i.s
theorem Ady {env:Env}{h:SH}:∀(b:List St) (no:Nat),(∀s∈b,s.h.k=3)->(∀s∈b,s.body=[])->∀i∈Cd env h no b,Ahv no b i
 | [],no,_,_,i,hi=>by simp[Cd] at hi
 | s :: r,no,h3,hb,i,hi=>by
  have e1:Lm s=[s.h]:=by
   have k3:=h3 s (jO ..);have k4:=hb s (jO ..);obtain⟨hh,bb⟩:=s;simp only[St.h,St.body] at k3 k4⊢;subst k4;simp[Lm,k3,Fk]
  simp only[Cd,jN,List.mem_map] at hi;unfold Ahv;simp only[Fk,e1];rcases hi with⟨k,-,rfl⟩|hi
  ·exact⟨jD _,by simp⟩
  ·obtain⟨e2,e3⟩:=Ady r (no+1) (fun s hs=>h3 s (jI _ hs)) (fun s hs=>hb s (jI _ hs)) i hi;refine⟨by omega,?_⟩
   have:i.no-no=(i.no-(no+1))+1:=by omega
   rw[this];simpa using e3
theorem Vu {env:Env}(l:List St)(ih:∀s∈l,∀no,∀i∈Br env no s,no<=i.no/\(Lm s)[i.no-no]? = some i.s):∀no,∀i∈Aj env no l,Ahv no l i:=by
 induction l with
 | nil=>intro no i hi;simp[Aj] at hi
 | cons s r ihr=>
  intro no i hi;simp only[Aj,jN] at hi;unfold Ahv;simp only[Fk];rcases hi with hi|hi
  ·obtain⟨h1,h2⟩:=ih s (jO ..) no i hi;have h3:=(ils h2).1;exact⟨h1,by rw[List.getElem?_append_left h3];exact h2⟩
  ·obtain⟨h1,h2⟩:=ihr (fun s hs=>ih s (jI _ hs)) (no+Aw s) i hi;refine⟨by omega,?_⟩
   rw[jM (by rw[Kv];omega),Kv];have:i.no-no-Aw s=i.no-(no+Aw s):=by omega
   rw[this];exact h2
theorem Akc {nb:Nat}:∀(s:St) (names:List ByteArray),Fd nb names s->∀(env:Env) (no:Nat),∀i∈Br env no s,no<=i.no/\(Lm s)[i.no-no]? = some i.s:=by
 refine Dr fun h b ih=>?_
 intro names hF env no i hi
 have a2:∀s∈b,h.k≠3->∃names',Fd nb names' s:=fun s hs h3=>by
  cases hF with
  | loop _ _ _ _ _ _ _ _ _ _ _ h9=>exact⟨_,h9 s hs⟩
  | when _ _ _ _ _ _ _ h9=>exact⟨_,h9 s hs⟩
  | store _ _ h9=>exact absurd h9 h3
 by_cases h3:h.k=3
 ·rw[Fg h3] at hi;rw[jA.1 hi];exact⟨jD _,by simp[Lm,h3]⟩
 ·have a7:Lm (.mk h b)=Fk b:=by simp[Lm,h3]
  rw[a7]
  have a1:∀env',∀i∈Aj env' no b,Ahv no b i:=fun env'=>Vu b (fun s hs no' i' hi'=>by
   obtain⟨nm,hf⟩:=a2 s hs h3;exact ih s hs nm hf env' no' i' hi') no
  by_cases h2:h.k=2
  ·rw[Fh h2] at hi;split at hi
   ·exact a1 env i hi
   ·simp at hi
  ·have h1:h.k=1:=by
    cases hF with
    | loop _ _ _ h9=>exact h9
    | when _ _ _ h9=>exact absurd h9 h2
    | store _ _ h9=>exact absurd h9 h3
   cases hv:h.vec
   ·rw[Is h1 hv] at hi;unfold Cj at hi;rw[List.mem_flatten] at hi;obtain⟨l',aa,ab⟩:=hi;obtain⟨k,-,rfl⟩:=List.mem_map.1 aa;exact a1 _ i ab
   ·rw[Hj h1 hv] at hi
    have a6:∀s∈b,s.h.k=3:=by
     cases hF with
     | loop _ _ _ _ _ _ _ _ _ _ h8 _=>exact h8 hv
     | when _ _ _ h9=>exact absurd h9 h2
     | store _ _ h9=>exact absurd h9 h3
    have a8:∀s∈b,s.body=[]:=fun s hs=>by
     obtain⟨nm,hf⟩:=a2 s hs h3;have:=a6 s hs;cases hf with
     | loop _ _ _ h9=>simp only[St.h] at this;omega
     | when _ _ _ h9=>simp only[St.h] at this;omega
     | store=>rfl
    exact Ady b no a6 a8 i hi
theorem Tb {nb:Nat}{body:List St}(hF:∀s∈body,Fd nb [] s):∀i∈Aj [] 0 body,(Fk body)[i.no]? = some i.s:=fun i hi=>by
 have:=(Vu body (fun s hs no i hi=>Akc s [] (hF s hs) [] no i hi) 0 i hi).2;simpa using this
theorem Ame {w:World}{n nb:Nat}{L:List Nat}{AL:List Value}:∀(s:St) (names:List ByteArray) (path:List Int) (gl:List Nat) (no g:Nat),CSt w n [] L AL names path gl no g s->Fd nb names s->∀j,j<Aw s->∃g' names' h',L[no+j]? = some g'/\Ml w g' names' nb h' (no+j)/\(Lm s)[j]? = some h'/\g'<n:=by
 refine Dr fun h b ih=>?_
 intro names path gl no g hC hF j hj;obtain⟨pb,po,CA,cc,A,cap,gs,PA,pc,vv,k⟩:=hC.open_;by_cases h3:h.k=3
 ·have hb:b=[]:=by
   cases hF with
   | loop _ _ _ h9=>omega
   | when _ _ _ h9=>omega
   | store=>rfl
  subst hb;have a2:j=0:=by simp[Aw,h3,Ab] at hj;omega
  subst a2;obtain⟨_,_,_,_,_,h5,_⟩:=k.val h3;exact⟨g,names,h,h5,Ml.of k h3 hF,by simp[Lm,h3],k.gn⟩
 ·have a6:Lm (.mk h b)=Fk b:=by simp[Lm,h3]
  have a7:Aw (.mk h b)=Ab b:=by simp[Aw,h3]
  rw[a7] at hj;obtain⟨i,s,e1,e2,e3,e4⟩:=Sz b j hj;have hi:=(ils e1).1;have a8:∃g1,gs[i]? = some g1:=⟨_,jJ (by rw[k.len];exact hi)⟩;obtain⟨g1,ac⟩:=a8;have a1:=ilm e1
  have aa:Fd nb (Ay names h) s:=by
   cases hF with
   | loop _ _ _ h1 _ _ _ _ _ _ _ h9=>
    have e:Ay names h=names ++ [h.var]:=ijp h1;rw[e];exact h9 s a1
   | when _ _ _ h1 _ _ _ h9=>
    have e:Ay names h=names:=ijn (by omega);rw[e];exact h9 s a1
   | store _ _ h9=>exact absurd h9 h3
  obtain⟨g',ad,h',f1,f2,f3,f4⟩:=ih s a1 _ _ _ _ _ (k.kid i g1 s ac e1) aa (j-Ab (b.take i)) (by omega);have ab:no+Ab (b.take i)+(j-Ab (b.take i))=no+j:=by omega
  rw[ab] at f1 f2;exact⟨g',ad,h',f1,f2,by rw[a6,e4];exact f3,f4⟩
theorem Jk.sto {w:World}{n cb:Nat}{bA:Option Addr}{nb bc:Nat}{body:List St}{gs:List Nat}{gA:Option Addr}{gc:Nat}{L:List Nat}{AL:List Value}{sA:Option Addr}{sc:Nat}{v1 av:Value}(k:Jk w n cb bA nb bc body gs gA gc L AL sA sc v1 av){nn:Nat}(hF:∀s∈body,Fd nn [] s):∀j,j<L.length->∃g' names' h',L[j]? = some g'/\Ml w g' names' nn h' j/\(Fk body)[j]? = some h'/\g'<n:=fun j hj=>by
 rw[k.lenS.1] at hj;obtain⟨i,s,e1,e2,e3,e4⟩:=Sz body j hj;have hi:=(ils e1).1;obtain⟨g1,a6⟩:∃g1,gs[i]? = some g1:=⟨_,jJ (by rw[k.len];exact hi)⟩;have a1:=ilm e1;obtain⟨g',a7,h',f1,f2,f3,f4⟩:=Ame s _ _ _ _ _ (k.cst i g1 s a6 e1) (hF s a1) (j-Ab (body.take i)) (by omega);have a2:Ab (body.take i)+(j-Ab (body.take i))=j:=by omega
 rw[a2] at f1 f2;exact⟨g',a7,h',f1,f2,by rw[e4];exact f3,f4⟩
def Hc (W:Nat->Nat)(d:List Az):Nat:=(d.map fun i=>W i.no).sum
theorem Ni (W:Nat->Nat)(d:List Az)(i:Az):Hc W (d ++ [i])=Hc W d+W i.no:=by simp[Hc]
def Oh (W:Nat->Nat)(d:List Az)(i:Az):Bool:=decide (d.length+1<=2000)&&decide (Hc W d+W i.no<=20000)
theorem Afc {W:Nat->Nat}{d:List Az}(h:Nv (Oh W) d):d.length<=2000/\Hc W d<=20000:=by
 rcases List.eq_nil_or_concat d with rfl|⟨p,i,hp⟩
 ·simp[Hc]
 ·rw[List.concat_eq_append] at hp;subst hp;have:=h p i rfl;unfold Oh at this;simp at this;rw[Ni];simp;exact this
def Afd (W:Nat->Nat)(len nb tb wp wr:Nat)(d:List Az)(w:World):Prop:=
 Blk w nb 3 #[(d.length:Nat)]/\Blk w tb 3 #[(Hc W d:Nat)]/\Blk w wp 22 #[.slice (some wr) len len]/\∀j,j<len->w.cell? ⟨wr,j,none⟩=some (.int .i64 (W j:Nat))
theorem Ab4:∀args w,(callFunc 138 args).run prog w=.ok (.enter 138 args) w:=by
 obtain⟨c,hc⟩:∃c,Tryz.f138.body=some c:=⟨_,rfl⟩;exact fun args w=>enters_of func138 (by kernel_rfl) hc args w
set_option maxRecDepth 100000 in
theorem Akd (W:Nat->Nat)(hW:∀j,W j<=1000000000000)(len nb tb wp wr g:Nat)(vA:Value)(d:List Az)(i:Az)(w:World)(hI:Afd W len nb tb wp wr d w)(hd9:d.length<=2000/\Hc W d<=20000)(hi:i.no<len)(hg:w.cell? ⟨g,5,none⟩=some (.int .i64 i.no))
  (h1:nb≠tb) (h2:nb≠wp) (h3:nb≠wr) (h4:tb≠wp) (h5:tb≠wr) (h6:g≠nb) (h7:g≠tb) :
  Calls prog 138 (#[ptV g,vA] ++ #[.pointer (some nb),.pointer (some tb),.pointer (some wp)]) w fun e w'=>e=.returned (.bool (Oh W d i))/\Ext [nb,tb] w w'/\Afd W len nb tb wp wr (d ++ [i]) w':=by
 obtain⟨k1,k2,k3,k4⟩:=hI;have HG:Hd (Oh W d i=(decide (d.length+1<=2000)&&decide (Hc W d+W i.no<=20000))):=hd rfl;have a2:(d ++ [i]).length=d.length+1:=by simp
 have ai:=hd (Ni W d i);have aj:=hd a2;have aE:=hW i.no;have ak:=hd k3;have al:=hd k4;have am:=hd k2;have aF:=hd k1;have an:=hd hg;have q4:=k4 i.no hi;generalize W i.no=x at *;generalize Hc W d=t at *;generalize d.length=m at *;generalize i.no=no at *;have qn:=k1.cell;have ao:=k1.frozen;have ae:=k1.lt;have ap:=hd (k1.set_' 0 (.int .i64 (m+1)) #[(m+1:Nat)] rfl);have a1:=hd (jL (b:=nb) (i:=0) (u:=.int .i64 (m+1)) (.inl (by simp)) (jF [nb] w));have aq:=hd q4;clear k1 k2 k3 k4 hg a2 q4;unfold ptV;go_enter func138,ntmps138
 go_upto_region 2 with fail
 generalize World.setCell _ _ _=w1 at *;clear qn ao ae;have a8:=hd (am.o.ext a1.o (by rw[jA];exact Ne.symm h1));have aa:=hd (ak.o.ext a1.o (by rw[jA];exact Ne.symm h2));have au:Hd (∀j,j<len->w1.cell? ⟨wr,j,none⟩=some (.int .i64 (W j:Nat))):=hd fun j hj=>a1.o.held (al.o j hj) (by rw[jA];exact Ne.symm h3)
 have q4:=a1.o.held aq.o (by rw[jA];exact Ne.symm h3);have qg:=a1.o.held an.o (by rw[jA];exact h6);have af:=hd (And.intro q4 qg);clear q4 qg;go_wp2_with fail
 have aG:(no:Int)<(len:Int):=by omega
 refine rgE 9 [] ?_
 simp only[TK]
 repeat(refine dE (fun wr nr hJ=>by(have qt:=(a8.o.ext hJ (by simp)).cell;have ab:=(a8.o.ext hJ (by simp)).lt;have qp:=(aa.o.ext hJ (by simp)).cell;have aH:=(aa.o.ext hJ (by simp)).lt;have q4:=hJ.held af.o.1 (by simp);have q5:=hJ.held af.o.2 (by simp);have aw:=jB wr _ q4;have ax:=jB wr _ q5;simp only at aw ax);clear hJ;exact CL) ?_;simp only[PT])
 refine Ak (fun w2 hJ hF=>?_)
 have ay:=hd hJ;have a6:=hd (a8.o.ext hJ (by simp));have az:=hd (ap.o.ext hJ (by simp));have aA:=hd (aa.o.ext hJ (by simp));have aB:Hd (∀j,j<len->w2.cell? ⟨wr,j,none⟩=some (.int .i64 (W j:Nat))):=hd fun j hj'=>hJ.held (au.o j hj') (by simp)
 clear hF hJ;have qt:=a6.o.cell;have aC:=a6.o.frozen;have ab:=a6.o.lt;have ac:=hd (a6.o.set_' 0 (.int .i64 (t+x)) #[(t+x:Nat)] rfl);have a7:=hd (jL (b:=tb) (i:=0) (u:=.int .i64 (t+x)) (.inl (by simp)) (jF [tb] w2));go_upto_region 3 with fail
 generalize World.setCell _ _ _=w3 at *;clear qt aC ab;have ad:=hd (az.o.ext a7.o (by rw[jA];exact h1));have aD:=hd (aA.o.ext a7.o (by rw[jA];exact Ne.symm h4));have ag:Hd (Afd W len nb tb wp wr (d ++ [i]) w3):=hd ⟨by rw[aj.o];exact ad.o,by rw[ai.o];exact ac.o,aD.o,fun j hj=>a7.o.held (aB.o j hj) (by rw[jA];exact Ne.symm h5)⟩;have ah:Hd (Ext [nb,tb] w w3):=hd (((a1.o.step ay.o (fun x hx=>by cases hx)).mono (fun x hx=>.inl (by rw[jA.1 hx];simp))).step a7.o fun x hx=>.inl (by rw[jA.1 hx];simp));have qn:=ad.o.cell;have ae:=ad.o.lt;have qt:=ac.o.cell;have ab:=ac.o.lt;by_cases hm:m+1<=2000
 ·go_wp2_with fail
  go_ret
  exact⟨Aa (by rw[HG.o,decide_eq_true hm,Bool.true_and,decide_eq_decide];omega),ah.o,ag.o⟩
 ·go_wp2_with fail
  go_ret
  exact⟨Aa (by rw[HG.o,decide_eq_false hm,Bool.false_and]),ah.o,ag.o⟩
theorem Ahw {nb:Nat}:∀(s:St) (names:List ByteArray),Fd nb names s->∀h∈Lm s,∃nm,Bw nm nb h.val=0/\Ap h.val<=32:=by
 refine Dr fun h b ih=>?_
 intro names hF h' hh
 have key:∀l:List St,(∀s∈l,∀h∈Lm s,∃nm,Bw nm nb h.val=0/\Ap h.val<=32)->∀h∈Fk l,∃nm,Bw nm nb h.val=0/\Ap h.val<=32:=by
  intro l
  induction l with
  | nil=>intro _ h hh;simp[Fk] at hh
  | cons s l ihl=>
   intro h1 h hh;simp only[Fk,jN] at hh;rcases hh with hh|hh
   ·exact h1 s (jO ..) h hh
   ·exact ihl (fun s hs=>h1 s (jI _ hs)) h hh
 simp only[Lm,jN] at hh;rcases hh with hh|hh
 ·split at hh
  ·rename_i h3
   rw[jA.1 hh];cases hF with
   | loop _ _ _ h9=>omega
   | when _ _ _ h9=>omega
   | store _ _ _ _ _ _ hx hf=>exact⟨_,hx,by have:=(Jg.1 hf).1;omega⟩
  ·simp at hh
 ·refine key b (fun s hs=>?_) h' hh
  cases hF with
  | loop _ _ _ _ _ _ _ _ _ _ _ h9=>exact ih s hs _ (h9 s hs)
  | when _ _ _ _ _ _ _ h9=>exact ih s hs _ (h9 s hs)
  | store=>simp at hs
def wdB (body:List St)(j:Nat):Nat:=match (Fk body)[j]? with|none=>1|some h=>rdE h.val+1
theorem Vv {l:List St}{h:SH}(hh:h∈Fk l):∃s∈l,h∈Lm s:=by
 induction l with
 | nil=>simp[Fk] at hh
 | cons s l ih=>
  simp only[Fk,jN] at hh;rcases hh with hh|hh
  ·exact⟨s,jO ..,hh⟩
  ·obtain⟨t,h1,h2⟩:=ih hh;exact⟨t,jI _ h1,h2⟩
theorem Ahx {nb:Nat}{body:List St}(hF:∀s∈body,Fd nb [] s)(j:Nat):wdB body j<=10000000:=by
 unfold wdB;split
 ·omega
 ·rename_i h hj
  obtain⟨s,hs,hh⟩:=Vv (ilm hj);obtain⟨nm,h1,h2⟩:=Ahw s [] (hF s hs) h hh;have:=Ab3 h.val h1;omega
def Bt (l:List Az):Nat:=(l.map fun i=>rdE i.s.val+1).sum
def Ef (body:List St):Bool:=decide ((Aj [] 0 body).length<=2000)&&decide (Bt (Aj [] 0 body)<=20000)
theorem Py {body:List St}:∀l:List Az,(∀i∈l,(Fk body)[i.no]? = some i.s)->Hc (wdB body) l=Bt l
 | [],_=>rfl
 | i :: l,h=>by
  have e:=h i (jO ..);have h2:=Py l fun i hi=>h i (jI _ hi)
  unfold Hc Bt at h2⊢;simp only[List.map_cons,List.sum_cons,h2];congr 1
  simp[wdB,e]
theorem Adz {W:Nat->Nat}:∀(l d:List Az),(d.length<=2000/\Hc W d<=20000)->
  (decide ((goL (Oh W) d l).1.length<=2000)&&decide (Hc W (goL (Oh W) d l).1<=20000))=(decide ((d ++ l).length<=2000)&&decide (Hc W (d ++ l)<=20000))
 | [],d,h=>by rw[show goL (Oh W) d []=(d,true) from rfl,List.append_nil]
 | i :: l,d,h=>by
  cases hg:Oh W d i
  ·rw[Pu hg];have e1:Hc W (d ++ [i])=Hc W d+W i.no:=Ni W d i;have e2:Hc W (d ++ i :: l)=Hc W d+W i.no+Hc W l:=by simp[Hc];omega
   unfold Oh at hg;rw[Bool.eq_iff_iff];simp only[Bool.and_eq_true,decide_eq_true_eq,e1,e2,jG,List.length_cons,List.length_nil];simp only[Bool.and_eq_false_iff,decide_eq_false_iff_not] at hg;constructor
   ·rintro⟨a,b⟩;rcases hg with hg|hg<;>omega
   ·rintro⟨a,b⟩;rcases hg with hg|hg<;>omega
  ·rw[Ii hg];unfold Oh at hg;simp only[Bool.and_eq_true,decide_eq_true_eq] at hg;rw[Adz l (d ++ [i]) ⟨by simp;omega,by rw[Ni];exact hg.2⟩];simp
theorem Am7 {w w4 w5:World}{r a:Nat}(h1:Ext [r] w w4)(h2:Ext [a,a+1] w4 w5)(h:w.heap.size<=r/\w.heap.size<=a):Ext [] w w5:=by
 have h0:Ext [] w w4:=h1.mono fun x hx=>.inr (by rw[jA.1 hx];exact h.1)
 refine h0.step h2 fun x hx=>.inr ?_
 rcases jE.1 hx with rfl|hx
 ·exact h.2
 ·rw[jA.1 hx];omega
set_option maxRecDepth 100000 in
theorem Afe (bs:List Bf)(cb n:Nat)(bA:Option Addr)(nbb bc:Nat)(body:List St)(gs:List Nat)(gA:Option Addr)(gc:Nat)(L:List Nat)(AL:List Value)(sA:Option Addr)(sc:Nat)(v1 av:Value)(w:World)
  (hC:Jk w n cb bA nbb bc body gs gA gc L AL sA sc v1 av) (hF:∀s∈body,Fd bs.length [] s) (hg:gs.length<=1000000) (hL:L.length<=3000) (hn:n<=w.heap.size) :
  Calls prog 92 #[.pointer (some cb)] w (Ff (Ef body) w):=by
 have HC:=hd hC;have HF:=hd hF;have HW:=hd (Ahx hF);have aW:=hC.cbn;generalize aH:L.length=len at *;have a1:=hd aH;clear hC hF aH
 have aK:∀W:World,(Instr.makeSlice 22 (.int .i64 len) (.int .i64 len)).run prog W=.ok (.slice (some W.heap.size) len len) (W.alloc (.cells (madeCells #[(0:Int)] len) 3)):=fun W=>by
  rw[run_make_row' 22 3 (.int .i64 0) 8 underlying22 (by kernel_rfl) rfl .i64 .i64 len (by omega) (by omega) W]
 have qc:=HC.o.blk.cell;rw[a1.o] at qc;have ae:=HC.o.blk.lt;go_enter func92,ntmps92
 go_upto_region 2 with fail
 have al:=hd (((jF [] w).alloc (.cells (madeCells #[(0:Int)] len) 3)).alloc (.cells #[.slice (some w.heap.size) len len] 22));have aL:=hd ((jK w 3 (madeCells #[(0:Int)] len)).alloc (.cells #[.slice (some w.heap.size) len len] 22));have am:=hd (jK (w.alloc (.cells (madeCells #[(0:Int)] len) 3)) 22 #[.slice (some w.heap.size) len len]);rw[Ad] at am;have aX:((w.alloc (.cells (madeCells #[(0:Int)] len) 3)).alloc (.cells #[.slice (some w.heap.size) len len] 22)).heap.size=w.heap.size+2:=by rw[Ad,Ad]
 have aM:(madeCells #[Value.int .i64 0] len).size=len:=by simp[madeCells]
 generalize hM:madeCells #[Value.int .i64 0] len=MC at *;clear hM aK;generalize World.alloc (World.alloc w _) _=w1 at *;generalize hr:w.heap.size=r at *;have af:=hd (HC.o.step al.o (by simp) (jD n));clear qc ae;have qc:=af.o.blk.cell;rw[a1.o] at qc;have ae:=af.o.blk.lt;go_wp2_with fail
 clear qc ae;go_loopw [19] (fun i wr=>∃k:Nat,i=.int .i64 k/\k<=len/\Hd (Ext [r] w1 wr)/\∃CC:Array Value,CC.size=len/\Hd (Blk wr r 3 CC)/\Hd (∀j,j<k->CC[j]? = some (.int .i64 (wdB body j:Nat)))) (fun i _=>(len-intOf i).toNat)
 case atStart=>exact⟨0,rfl,jQ _,hd (jF _ _),MC,aM,aL,hd fun j hj=>absurd hj (by omega)⟩
 case round=>
  obtain⟨k,rfl,hk,HE,CC,aV,HB,HN⟩:=hrel;rename World=>wq
  have a8:=hd (af.o.step HE.o (fun x hx=>by rw[jA.1 hx];omega) (jD n));have aa:=hd (am.o.ext HE.o (by rw[jA];omega));by_cases aI:k<len
  ·obtain⟨g,nm,h,e1,e2,e3,e4⟩:=a8.o.sto HF.o k (by rw[a1.o];exact aI);obtain⟨⟨pb,po,vb,n',T,-,-,ak,aC⟩,-,-,-,aD,-⟩:=e2;obtain⟨s,hs,hh⟩:=Vv (ilm e3);have ag:=(Ahw s [] (HF.o s hs) h hh).elim fun _ x=>x.2
   have an:=hd (fun W (hW:Ext [] wq W)=>Vt nm bs.length h.val aD (by omega) nm vb n' T W (aC.step hW (by simp) (jD n') fun y hy=>.inl hy));have ah:wdB body k=rdE h.val+1:=by unfold wdB;rw[e3]
   have aN:=HW.o k;rw[ah] at aN;have aO:=hd ah;have a2:=hd ak;have aP:=jB wq _ ak;simp only at aP;obtain⟨bb,g2,rfl,aE,aF⟩:=Al.at (show Al wq sA 1 ptC L from a8.o.rowS.1) (i:=k) (by rw[a1.o];exact aI);have:g2=g:=by rw[aE] at e1;cases e1;rfl
   subst this;have qa:wq.cell? ⟨bb,k,none⟩=some (.pointer (some g2)):=by have:=aF 0 _ rfl;rw[Nat.mul_one,Nat.add_zero] at this;exact this
   have aQ:=jB wq _ qa;simp only at aQ;generalize rdE h.val=x at *;clear e1 e3 aD aC hs hh ag ak aE aF ah;unfold ptV at a2 an;go_wp2_with fail
   refine rgE 9 [(6,Dg (.int .i64 (x:Nat)))] ?_
   simp only[TK]
   repeat(refine dE (fun wr nr hJ=>by(have q:=hJ.held a2.o (by simp);have ql:=jB wr _ q;simp only at ql;have qp:=(aa.o.ext hJ (by simp)).cell;have aY:=(aa.o.ext hJ (by simp)).lt);clear hJ;exact CL) ?_;simp only[PT])
   refine Gv rfl rfl ?_ ?_
   ·refine EC fun wr nr hJ=>?_
    exact(an.o wr hJ).mono (by rintro e w' ⟨rfl,hE⟩;exact⟨rfl,hE⟩)
   simp only[PT]
   repeat(refine dE (fun wr nr hJ=>by(have qb:=(HB.o.ext hJ (by simp)).lt);clear hJ;exact CL) ?_;simp only[PT])
   refine Ak (fun w2 hJ hF=>?_)
   have aR:=hd (HE.o.step hJ fun x hx=>by cases hx);have ab:=hd (HB.o.ext hJ (by simp));clear hF hJ;obtain⟨v0,aG⟩:∃v0,CC[k]? = some v0:=⟨_,Array.getElem?_eq_getElem (by omega)⟩;have qv:w2.cell? ⟨r,k,none⟩=some v0:=by rw[ab.o.cell];exact aG
   have qf:=ab.o.frozen;have ql:=ab.o.lt;have aS:=hd (ab.o.set_ k (.int .i64 (x+1)));have aT:=hd (jL (b:=r) (i:=k) (u:=.int .i64 (x+1)) (.inl (by simp)) aR.o);clear aG;go_wp2_with fail
   go_roundw
   case rel=>
    refine⟨k+1,by go_num,by omega,aT,_,by rw[Array.size_setIfInBounds];exact aV,aS,hd fun j hj=>?_⟩
    rw[Array.getElem?_setIfInBounds];by_cases aJ:k=j
    ·subst aJ;rw[ijp rfl,ijp (by omega),aO.o];rfl
    ·rw[ijn aJ];exact HN.o j (by omega)
   case measure=>simp[intOf];omega
  ·have aU:k=len:=by omega
   subst aU;have ao:Hd (∀j,j<k->wq.cell? ⟨r,j,none⟩=some (.int .i64 (wdB body j:Nat))):=hd fun j hj=>by rw[HB.o.cell];exact HN.o j hj
   have aZ:=HE.o.size;clear HN HB;have ac:=hd (((jF [] wq).alloc (.cells #[(0:Int)] 3)).alloc (.cells #[(0:Int)] 3));have ap:=hd ((jK wq 3 #[(0:Int)]).alloc (.cells #[(0:Int)] 3));have ai:=hd (jK (wq.alloc (.cells #[(0:Int)] 3)) 3 #[(0:Int)]);rw[Ad] at ai;have b0:((wq.alloc (.cells #[(0:Int)] 3)).alloc (.cells #[(0:Int)] 3)).heap.size=wq.heap.size+2:=by rw[Ad,Ad]
   go_upto_region 8 with fail
   generalize World.alloc (World.alloc wq _) _=w4 at *;generalize ha:wq.heap.size=a at *;have b1:r+2<=a:=by omega
   have aq:=hd (a8.o.step ac.o (by simp) (jD n));have au:=hd (aa.o.ext ac.o (by simp));have aj:=hd (((al.o.nil:Ext [r] w w1).trans HE.o).step ac.o (by simp));have a6:Hd (∀j,j<k->w4.cell? ⟨r,j,none⟩=some (.int .i64 (wdB body j:Nat))):=hd fun j hj=>ac.o.held (ao.o j hj) (by simp)
   have aw:Hd (∀W,Ext [] w4 W->Afd (wdB body) k a (a+1) (r+1) r [] W):=hd fun W hW=>⟨ap.o.ext hW (by simp),ai.o.ext hW (by simp),au.o.ext hW (by simp),fun j hj=>hW.held (a6.o j hj) (by simp)⟩
   have ax:Hd (∀eb,w4.heap.size<=eb->DoC 138 #[.pointer (some a),.pointer (some ⟨a+1,0,none⟩),.pointer (some ⟨r+1,0,none⟩)] [a,a+1] n bs.length eb L (Oh (wdB body)) (Afd (wdB body) k a (a+1) (r+1) r)):=hd fun eb he=>by
    refine⟨Ab4,fun x hx=>?_,?_,?_⟩
    ·rcases jE.1 hx with rfl|hx
     ·exact⟨by omega,by omega⟩
     ·rw[jA.1 hx];exact⟨by omega,by omega⟩
    ·rintro d w w' hE ⟨k1,k2,k3,k4⟩;exact⟨k1.ext hE (by rw[jA];omega),k2.ext hE (by rw[jA];omega),k3.ext hE (by rw[jA];omega),fun j hj=>hE.held (k4 j hj) (by simp only[jA];omega)⟩
    ·intro d i g names vs w hI hLast hS hLi hV hl he';have ay:=(ils hLi).1;rw[a1.o] at ay
     have az:∀b v,Blk w b 3 #[v]->g≠b:=fun b v hb e=>by
      have h5:=hS.no;rw[e,hb.cell] at h5;cases h5
     exact Akd (wdB body) (fun j=>by have:=HW.o j;omega) k a (a+1) (r+1) r g _ d i w hI (Afc hLast) ay hS.no (by omega) (by omega) (by omega) (by omega) (by omega) (az _ _ hI.1) (az _ _ hI.2.1)
   have aA:=hd (Vs body 138 #[.pointer (some a),.pointer (some ⟨a+1,0,none⟩),.pointer (some ⟨r+1,0,none⟩)] [a,a+1] cb bs.length n bA nbb bc gs gA gc L AL sA sc v1 av (Oh (wdB body)) (Afd (wdB body) k a (a+1) (r+1) r) w4 aq.o HF.o hg (by omega) ax.o aw.o);clear ap ai ao a6 aw ax au aq aa a8;go_wp2_with fail
   refine aA.o.mono ?_
   rintro e w5 ⟨rfl,hE,hI⟩;have aB:Hd (Ext [] w w5):=hd (Am7 aj.o hE (by rw[hr];omega));have ad:=hd hI
   have a7:Hd (Ef body=(decide ((goL (Oh (wdB body)) [] (Aj [] 0 body)).1.length<=2000)&&decide (Hc (wdB body) (goL (Oh (wdB body)) [] (Aj [] 0 body)).1<=20000))):=hd (by
    rw[Adz _ [] (by simp[Hc]),List.nil_append,Py _ (Tb HF.o)];rfl)
   clear hE hI aA;generalize (goL (Oh (wdB body)) [] (Aj [] 0 body)).1=dd at *;have qn:=ad.o.1.cell;have b2:=ad.o.1.lt;have qt:=ad.o.2.1.cell;have b3:=ad.o.2.1.lt;generalize dd.length=dl at *;generalize Hc (wdB body) dd=ds at *;by_cases hm:dl<=2000
   ·go_wp2_with fail
    go_ret
    exact⟨Aa (by rw[a7.o,decide_eq_true hm,Bool.true_and,decide_eq_decide];omega),aB.o⟩
   ·go_wp2_with fail
    go_ret
    exact⟨Aa (by rw[a7.o,decide_eq_false hm,Bool.false_and]),aB.o⟩
end Go.Proofs.YtfppibmloloakaaGreatDoor
