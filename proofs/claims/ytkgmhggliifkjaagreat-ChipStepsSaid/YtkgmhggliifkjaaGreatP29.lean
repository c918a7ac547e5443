import Derived.Test.YtkgmhggliifkjaaGreatP22
namespace Go.Proofs.YtkgmhggliifkjaaGreat
open Go.RowKit Go.Proofs.Tryz
set_option linter.all false
set_option maxHeartbeats 8000000
set_option maxRecDepth 100000
theorem Vf (p:Int->Bool)(hF:∀x W,Calls prog 31 #[.int .i64 x] W (fun e w'=>e=.returned (.bool (p x))/\Ext [] W w'))(b o cap:Nat)(xs:List Int)(w:World)(h:Ek w b o xs)(hl:xs.length<=10000000)(hb:b<w.heap.size) :
  Calls prog 65 #[.slice (some ⟨b,o,none⟩) xs.length cap,.func (.func 31) #[] #[]] w fun e w'=>∃r:Int,e=.returned (.int .i64 r)/\(0<=r ↔ xs.any p=true)/\Ext [] w w':=by
 have HH:=hd h;have HF:=hd hF;clear h hF;go_enter func65,ntmps65
 go_wp2_with fail
 go_loopw [8] (fun i wr=>∃k:Nat,i=.int .i64 k/\k<=xs.length/\Hd (∀j y,j<k->xs[j]? = some y->p y=false)/\Ext [] w wr) (fun i _=>(xs.length-intOf i).toNat)
 case atStart=>exact⟨0,rfl,Nat.zero_le _,hd fun j y hj=>absurd hj (by omega),er⟩
 case round=>
  obtain⟨k,rfl,hk,hn,hE⟩:=hrel;by_cases hlt:k<xs.length
  ·obtain⟨x,hx⟩:∃x,xs[k]? = some x:=⟨_,List.getElem?_eq_getElem hlt⟩;have hc:=hE.held (HH.o k x hx) (by simp);have hbl:b<wr.heap.size:=nl hb hE.size;have HX:=hd hx;have HE:=hd hE;clear hx hE;go_wp2_with fail
   refine(HF.o x _).mono ?_
   rintro e w2 ⟨rfl,hE2⟩;have HE2:=hd (HE.o.trans hE2);clear hE2 hc;cases hq:p x
   ·have HQ:=hd hq;clear hq;go_wp2_with fail
    go_round
    case rel=>
     refine⟨k+1,by go_num,by omega,hd fun j z hj hz=>?_,HE2.o⟩
     rcases Nat.lt_or_ge j k with h1|h1
     ·exact hn.o j z h1 hz
     ·have:j=k:=by omega
      subst this;rw[HX.o] at hz;cases hz
      exact HQ.o
    case measure=>simp[intOf];omega
   ·have HQ:=hd hq;clear hq;go_wp2_with fail
    go_ret
    refine⟨_,rfl,?_,HE2.o⟩
    constructor
    ·intro _;exact List.any_eq_true.2 ⟨x,ilm HX.o,HQ.o⟩
    ·intro _;omega
  ·have HE:=hd hE;clear hE;go_wp2_with fail
   go_ret
   refine⟨_,rfl,?_,HE.o⟩
   constructor
   ·intro h0;omega
   ·intro hm;obtain⟨f,hf,hq⟩:=List.any_eq_true.1 hm;obtain⟨i,hi⟩:=List.getElem?_of_mem hf;have hil:=(ils hi).1;have:=hn.o i f (by omega) hi;rw[hq] at this;cases this
theorem Qd (p:Int->Bool)(hF:∀x W,Calls prog 31 #[.int .i64 x] W (fun e w'=>e=.returned (.bool (p x))/\Ext [] W w'))(b o cap:Nat)(xs:List Int)(w:World)(h:Ek w b o xs)(hl:xs.length<=10000000)(hb:b<w.heap.size) :
  Calls prog 30 #[.slice (some ⟨b,o,none⟩) xs.length cap,.func (.func 31) #[] #[]] w fun e w'=>e=.returned (.bool (xs.any p))/\Ext [] w w':=by
 go_enter func30,ntmps30
 go_wp2_with fail
 refine(Vf p hF b o cap xs w h hl hb).mono ?_
 rintro e w' ⟨r,rfl,hr,hE⟩;have HR:=hd hr;have HE:=hd hE;clear hr hE;go_wp2_with fail
 go_ret
 exact⟨Ay (by rw[Bool.eq_iff_iff];simp only[decide_eq_true_eq];exact HR.o),HE.o⟩
set_option maxRecDepth 4000
theorem Adq (n:Int)(w:World):Calls prog 32 #[n] w fun e w'=>e=.returned (.bool (inR n (-2147483648) 2147483647))/\w=w':=by
 go_enter func32,ntmps32
 go_wp2_with (go_at_call 62;refine(Bp _ _ _ _).mono ?_;rintro e w' ⟨rfl,rfl⟩)
 go_ret
 exact⟨rfl,rfl⟩
theorem Vg (x:Int)(w:World):Calls prog 31 #[x] w fun e w'=>e=.returned (.bool (!inR x (-2147483648) 2147483647))/\Ext [] w w':=by
 go_enter func31,ntmps31
 go_wp2_with fail
 refine(Adq _ _).mono ?_
 rintro e w' ⟨rfl,rfl⟩;go_wp2_with fail
 go_ret
 exact⟨rfl,er⟩
set_option maxRecDepth 100000
theorem Hv (m:Mc)(hok:m.okB=true)(B:Option Addr)(d:Nat)(main:List Int)(w:World)(hm:RdI w B main)(hml:main.length<=600000) :
  Calls prog 10 #[.agg m.cells.toArray,.slice B main.length d] w fun e w'=>e=.returned (.int .i64 (Jf m main))/\Ext [] w w':=by
 have hsm:Jf m main=if(main.length:Int)≠m.main then 3 else if main.any (fun x=>!inR x (-2147483648) 2147483647) then 9 else 0:=rfl
 have HSM:=hd hsm;have hmc:=Bc hok;have HM:=hd hm;obtain⟨m0,m1,m2,m3,m4⟩:=m;dsimp only at hmc;have HOK:=hd (show 1<=m0 by omega);show Calls prog 10 #[.agg #[m0,m1,m2,m3,m4],.slice B main.length d] w _
 have HB:=hd (Blk.new w 27 #[m0,m1,m2,m3,m4]);have HE0:=hd ((Ext.refl [] w).alloc (.cells #[m0,m1,m2,m3,m4] 27));have hbc:=HB.o.cell;have hbl:=HB.o.lt;clear hm hsm hmc;by_cases hn:(main.length:Int)=m0
 ·have hnn:((main.length:Int) != m0)=false:=by simp[hn]
  obtain⟨b,o,rfl,hc⟩:∃b o,B=some ⟨b,o,none⟩/\∀i x,main[i]? = some x->w.cell? ⟨b,o+i,none⟩=some (.int .i64 x):=by
   have hm1:=HOK.o;rcases HM.o with h|h
   ·rw[h] at hn;simp at hn;omega
   ·exact h
  have HNA:=hd (show Ek w b o main from hc);have hb:b<w.heap.size:=World.block_lt_of_cell? w _ (hc 0 _ (List.getElem?_eq_getElem (by have:=HOK.o;omega)));have HBL:=hd hb;have HN:=hd hn;clear hc hb hn;go_enter func10,ntmps10
  go_wp2_with fail
  refine(Qd _ Vg b o d main _ (HNA.o.ext HE0.o (by simp)) (by omega) (nl HBL.o HE0.o.size)).mono ?_
  rintro e w2 ⟨rfl,hE2⟩;have HE2:=hd (HE0.o.trans hE2);clear hE2 hbc hbl;obtain⟨an,han⟩:∃an,an=main.any (fun x=>!inR x (-2147483648) 2147483647):=⟨_,rfl⟩;rw[<-han];have HAN:=hd han;clear han;cases an
  ·go_wp2_with fail
   go_ret
   exact⟨Ai (by rw[HSM.o,ijn (fun h=>h HN.o),<-HAN.o];rfl),HE2.o⟩
  ·go_wp2_with fail
   go_ret
   exact⟨Ai (by rw[HSM.o,ijn (fun h=>h HN.o),<-HAN.o];rfl),HE2.o⟩
 ·have hnn:((main.length:Int) != m0)=true:=by simp[hn]
  have HN:=hd hn;clear hn;go_enter func10,ntmps10
  go_wp2_with fail
  go_ret
  exact⟨Ai (by rw[HSM.o,ijp HN.o]),HE0.o⟩
section
attribute [local irreducible] Ax
theorem Jq {fn:Func}{p u:Tmp}(h:fn.results=#[.cell p 36,.tmp u])(tmps:Array Value)(w:World)(g:Nat)(a k:Int)(v:Value)
  (hp:tmps.getD p undef=.pointer (some g)) (hu:tmps.getD u undef=v) (hg:Blk w g 36 #[a,k]) :
  (results fn tmps).run prog w=.ok (.tuple #[.agg #[a,k],v]) w:=by
 have hl:=run_loadVar_row (P:=prog) w g _ 36 #[a,k] (0,0) _ hg underlying36 rfl (by kernel_rfl);rw[results_cell_tmp h,hp,hu];simp only[asAddr,Sem.run_pure,Result.andThen_ok,hl]
def flA (S:MS):Int:=match S.fault with|none=>0|some (a,_)=>(a:Int)
def flK (S:MS):Int:=match S.fault with|none=>0|some (_,k)=>k
def Nq (m:Mc)(S:MS):List Int:=(List.range m.main.toNat).map fun i=>S.mem (-1) (i:Nat)
def RunP (m:Mc)(xs:List Ins)(main:List Int)(w:World)(e:Ending)(w':World):Prop:=
 (Di m xs main≠0/\e=.returned (.tuple #[.slice none 0 0,(0:Int),(Di m xs main)])/\Ext [] w w')\/
 (Di m xs main=0/\(Ew m xs main).fault.isSome=true/\e=.returned (.tuple #[.slice none 0 0,(0:Int),(20:Int)])/\Ext [] w w')\/
 (Di m xs main=0/\(Ew m xs main).fault.isSome=false/\∃b cap,e=.returned (.tuple #[.slice (some ⟨b,0,none⟩) m.main.toNat cap,.int .i64 (Ew m xs main).cyc,(0:Int)])/\Ext [] w w'/\RdI w' (some ⟨b,0,none⟩) (Nq m (Ew m xs main))/\w.heap.size<=b)
theorem Sa (m:Mc)(A:Option Addr)(c:Nat)(xs:List Ins)(B:Option Addr)(d:Nat)(main:List Int)(w:World)(h:RdC w A xs)(hl:xs.length<=100000)(hm:RdI w B main)(hml:main.length<=600000) :
  Calls prog 7 #[.agg m.cells.toArray,.slice A xs.length c,.slice B main.length d] w (RunP m xs main w):=by
 have HN:=hd (fun W (hW:Ext [] w W)=>On m A c xs B d main W (h.ext hW (by simp)) hl (hm.ext hW (by simp)) hml);generalize hQ:RunP m xs main w=Q at *;have HQ:=hd hQ;obtain⟨m',hm'⟩:∃m',m'=m:=⟨_,rfl⟩;have HM:=hd hm';obtain⟨m0,m1,m2,m3,m4⟩:=m;show Calls prog 7 #[.agg #[m0,m1,m2,m3,m4],.slice A xs.length c,.slice B main.length d] w _
 have HE0:=hd ((Ext.refl [] w).alloc (.cells #[m0,m1,m2,m3,m4] 27));clear h hm hQ hm';go_enter func7,ntmps7
 go_wp2_with fail
 refine(HN.o _ HE0.o).mono ?_
 rw[<-HM.o];rintro e w2 (⟨hp,rfl,hE⟩|⟨hp,A0,rfl,hE,hC,hmb⟩)
 ·obtain⟨k,hk⟩:∃k,k=Di m' xs main:=⟨_,rfl⟩;rw[<-hk] at hp⊢;have hkn:(k != 0)=true:=by simp[hp]
  have HP:=hd (And.intro hk (And.intro hp (HE0.o.trans hE)));clear hk hp hE;go_wp2_with fail
  (try go_ret3)
  rw[<-HQ.o,<-HM.o];exact .inl ⟨by rw[<-HP.o.1];exact HP.o.2.1,by rw[<-HP.o.1];rfl,HP.o.2.2⟩
 ·have HE:=hd (HE0.o.trans hE);have HMB:=hd hmb;clear hmb;have HP:=hd hp;have HC:=hd hC;obtain⟨f,hf⟩:∃f,f=(Ew m' xs main).fault.isSome:=⟨_,rfl⟩;have HF:=hd hf;have q169:=hC.cell (i:=169) (by omega) (v:=.bool (Ew m' xs main).fault.isSome) rfl;rw[<-hf] at q169;have ql:=hC.lt;clear hp hE hC hf;cases f
  ·go_wp2_with fail
   refine rgE 9 [] ?_
   simp only[TK]
   repeat(refine dE (fun wr nr hJ=>by(have hC:=HC.o.nil hJ;have qcl:=hC.lt;have q7:=hC.cell (i:=7) (by omega) (v:=.slice (some A0.mb) m'.main.toNat A0.mcap) rfl;have q165:=hC.cell (i:=165) (by omega) (v:=.int .i64 (Ew m' xs main).cyc) rfl;clear hC);clear hJ;exact CL) ?_;simp only[PT])
   refine Aa (fun w3 hJ hF=>?_)
   have HC3:=hd (HC.o.nil hJ);have HE3:=hd (HE.o.trans hJ);clear hF hJ q169 ql;go_wp2_with fail
   (try go_ret3)
   rw[<-HQ.o,<-HM.o];refine .inr (.inr ⟨HP.o,HF.o.symm,A0.mb,A0.mcap,rfl,HE3.o,.inr ⟨A0.mb,0,rfl,fun i x hx=>?_⟩,nt HE0.o.size HMB.o⟩)
   have hlt:=(ils hx).1;unfold Nq at hx hlt;rw[List.length_map,List.length_range] at hlt;rw[List.getElem?_map,List.getElem?_range hlt] at hx;cases hx
   rw[Nat.zero_add];exact HC3.o.mem.main.cell hlt
  ·go_wp2_with fail
   (try go_ret3)
   rw[<-HQ.o,<-HM.o];exact .inr (.inl ⟨HP.o,HF.o.symm,rfl,HE.o⟩)
end
def GotM (ws:List Int)(n:Nat)(cyc:Int)(w:World)(e:Ending)(w':World):Prop:=
 ∃b cap,e=.returned (.tuple #[.slice (some ⟨b,0,none⟩) n cap,cyc,(0:Int)])/\Ext [] w w'/\RdI w' (some ⟨b,0,none⟩) ws/\w.heap.size<=b
theorem Yq (m:Mc)(A:Option Addr)(c:Nat)(xs:List Ins)(B:Option Addr)(d:Nat)(main:List Int)(w:World)(h:RdC w A xs)(hl:xs.length<=100000)(hm:RdI w B main)(hml:main.length<=600000)(hp:Di m xs main=0)(hf:(Ew m xs main).fault.isSome=false) :
  Calls prog 7 #[.agg m.cells.toArray,.slice A xs.length c,.slice B main.length d] w (GotM (Nq m (Ew m xs main)) m.main.toNat (Ew m xs main).cyc w):=by
 refine(Sa m A c xs B d main w h hl hm hml).mono ?_
 rintro e w' (⟨h0,_⟩|⟨_,h0,_⟩|⟨_,_,h1⟩)
 ·exact absurd hp h0
 ·rw[hf] at h0;cases h0
 ·exact h1
section
attribute [local irreducible] Ax
def x0:Ins:=⟨1,0,1,0,0,0,0,5,0⟩
def x1:Ins:=⟨6,0,0,0,1,0,0,3,0⟩
def Ig:List Int:=[0,0,0,0,0,0,0,0]
theorem Abc (n:Nat):Adp mS [x0,x1] (n+3) (MS.new Ig 2)=(Cf mS [x0,x1] (Cf mS [x0,x1] (MS.new Ig 2)).2).2:=by
 have h1:(Cf mS [x0,x1] (MS.new Ig 2)).1=true:=by kernel_rfl
 have h2:(Cf mS [x0,x1] (Cf mS [x0,x1] (MS.new Ig 2)).2).1=true:=by kernel_rfl
 have h3:(Cf mS [x0,x1] (Cf mS [x0,x1] (Cf mS [x0,x1] (MS.new Ig 2)).2).2).1=false:=by kernel_rfl
 have h4:(Cf mS [x0,x1] (Cf mS [x0,x1] (Cf mS [x0,x1] (MS.new Ig 2)).2).2).2=(Cf mS [x0,x1] (Cf mS [x0,x1] (MS.new Ig 2)).2).2:=by kernel_rfl
 show(if _ then(if _ then(if _ then _ else _) else _) else _)=_
 rw[ijp h1,ijp h2,ijn (by rw[h3];decide),h4]
theorem Nr:Ew mS [x0,x1] Ig=(Cf mS [x0,x1] (Cf mS [x0,x1] (MS.new Ig 2)).2).2:=Abc 39999998
theorem Aed (g1 c1 g3 c3:Nat)(w:World)(h:RdC w (some g1) [x0,x1])(hm:Ek w g3 0 Ig)(hg3:g3<w.heap.size) :
  Calls prog 7 #[.agg #[(8:Int),(2:Int),(256:Int),(2:Int),(1:Int)],.slice (some g1) 2 c1,.slice (some g3) 8 c3] w fun e w'=>
   ∃x:Nat×Nat,e=.returned (.tuple #[.slice (some x.1) 8 x.2,(21:Int),(0:Int)])/\w'.cell? ⟨x.1,3,none⟩=some (.int .i64 5)/\Ext [] w w':=by
 have hp:Di mS [x0,x1] Ig=0:=by kernel_rfl
 have hf:(Ew mS [x0,x1] Ig).fault.isSome=false:=by rw[Nr];kernel_rfl
 have hc:(Ew mS [x0,x1] Ig).cyc=21:=by rw[Nr];kernel_rfl
 have hv:(Ew mS [x0,x1] Ig).mem (-1) ((3:Nat):Int)=5:=by rw[Nr];kernel_rfl
 refine(Yq mS (some g1) c1 [x0,x1] (some g3) c3 Ig w h (by decide) (.inr ⟨g3,0,rfl,hm⟩) (by decide) hp hf).mono ?_
 rintro e w' ⟨b,cap,rfl,hE,hR,_⟩;refine⟨(b,cap),by rw[hc];rfl,?_,hE⟩
 rcases hR with h0|⟨b',o,he,hx⟩
 ·exact absurd (congrArg List.length h0) (by decide)
 ·cases he
  have:=hx 3 5 (by rw[<-hv];rfl);simpa using this
set_option maxRecDepth 4000
theorem Um (w:World):Calls prog 33 #[] w fun e w'=>e=.returned (.agg #[(8:Int),(2:Int),(256:Int),(2:Int),(1:Int)])/\Ext [] w w':=by
 go_enter func33,ntmps33
 go_wp2_with fail
 exact bodyPost_ret (results_cell_row rfl _ _ w.heap.size 27 #[(8:Int),(2:Int),(256:Int),(2:Int),(1:Int)] (0,0) _ rfl (Blk.new _ _ _) underlying27 rfl (by kernel_rfl)) rfl ⟨rfl,er.alloc _⟩
def Af8:Bo:=⟨Unit,(),fun _=>.agg #[(8:Int),(2:Int),(256:Int),(2:Int),(1:Int)],fun _ _=>True⟩
def Mg:Bo:=⟨Nat,0,fun b=>.slice (some ⟨b,0,none⟩) 8 8,fun b w=>Ek w b 0 Ig/\b<w.heap.size⟩
def Abd:Bo:=⟨Nat×Nat,(0,0),fun x=>.tuple #[.slice (some x.1) 8 x.2,(21:Int),(0:Int)],fun x w=>w.cell? ⟨x.1,3,none⟩=some (.int .i64 5)⟩
theorem Mg.stays:∀y w w',RH [] w w'->Mg.V y w->Mg.V y w':=fun _ _ _ hR h=>⟨h.1.ext hR.1 List.not_mem_nil,nl h.2 hR.1.size⟩
theorem Abd.stays:∀y w w',RH [] w w'->Abd.V y w->Abd.V y w':=fun _ _ _ hR h=>hR.1.held h List.not_mem_nil
theorem Ab1 {w:World}{b:Nat}{t:TypeId}{xs:List Ins}(h:Blk w b t (codeCells xs).toArray):RdC w (some b) xs:=
 .inr ⟨b,0,rfl,fun k x hx j v hv=>by rw[h.cell,Nat.zero_add];simp[Da xs k x hx j v hv]⟩
theorem Agy:Cv mS [zI]=4:=by decide +kernel
set_option maxRecDepth 100000
theorem Hf (w:World):Calls prog 11 #[] w fun e w'=>e=.returned (.bool true)/\Ext [] w w':=by
 have hmk:∀W:World,(Instr.makeSlice 22 (.int .i64 8) (.int .i64 8)).run prog W=.ok (.slice (some W.heap.size) 8 8) (W.alloc (.cells (madeCells #[(0:Int)] 8) 3)):=fun W=>
  run_make_row' 22 3 (.int .i64 0) 8 underlying22 (by kernel_rfl) rfl .i64 .i64 8 (by omega) (by omega) W
 have hm8:madeCells #[(0:Int)] 8=Db Ig:=by kernel_rfl
 go_enter func11,ntmps11
 go_wp2_with fail
 have HC:=hd (Ab1 (xs:=[x0,x1]) (Blk.new w 76 _));refine rgH 10 [(0,Af8),(2,Mg),(3,Abd)] ?_ ?_
 ·exact Ah.cons (fun _ _ _ _ h=>h) (Ah.cons Mg.stays (Ah.cons Abd.stays Ah.nil))
 simp only[TK];refine Et Af8 rfl rfl ?_ ?_
 ·apply Exists.intro
  apply Exists.intro
  refine⟨fun wr=>?_,fun wr nr hJ _=>?_⟩
  ·go_simp
   first|exact⟨rfl,rfl⟩|rfl
  ·refine(Um wr).mono ?_
   rintro e w' ⟨he,hE⟩;exact⟨(),he,trivial,hE⟩
 intro _;simp only[PT];dsimp only[Af8]
 repeat(refine dE (fun wr nr hJ=>by clear hJ;exact CL) ?_;simp only[PT])
 refine Ct Mg rfl rfl ?_ ?_
 ·intro wr nr hJ hf;refine⟨wr.heap.size,.cells (madeCells #[(0:Int)] 8) 3,?_,Ek.blk (by rw[hm8];exact Blk.new _ _ _),by simp⟩
  go_simp;rfl
 intro (b2:Nat);simp only[PT];dsimp only[Mg];refine Et Abd rfl rfl ?_ ?_
 ·apply Exists.intro
  apply Exists.intro
  refine⟨fun wr=>?_,fun wr nr hJ hf=>?_⟩
  ·go_simp
   first|exact⟨rfl,rfl⟩|rfl
  ·have f2:Mg.V b2 wr:=Cm hf 2 (by kernel_rfl);refine(Aed w.heap.size 2 b2 8 wr (HC.o.ext hJ.1 (by simp)) f2.1 f2.2).mono ?_
   rintro e w' ⟨x,he,hc,hE⟩;exact⟨x,he,hc,hE⟩
 intro (u3:Nat×Nat);simp only[PT];dsimp only[Abd]
 repeat(refine dE (fun wr nr hJ=>by clear hJ;exact CL) ?_;simp only[PT])
 refine Aa (fun w2 hJ hF=>?_)
 have H3:w2.cell? ⟨u3.1,3,none⟩=some (.int .i64 5):=hF 3;have HE2:=hd (((Ext.refl [] w).alloc _).trans hJ.1);have hl3:=World.block_lt_of_cell? w2 _ H3;simp only at hl3;clear hF hJ;go_wp2_with fail
 refine(Um _).mono ?_
 rintro e w3 ⟨rfl,hE3⟩;have HE3:=hd (HE2.o.trans hE3);clear hE3 H3 hl3;go_wp2_with fail
 refine(Tt mS _ 1 [zI] _ (Ab1 (xs:=[zI]) (Blk.new w3 76 _)) (by decide)).mono ?_
 rintro e w4 ⟨rfl,hE4⟩;rw[Agy];have HE4:=hd (HE3.o.trans (((Ext.refl [] w3).alloc _).trans hE4));clear hE4;go_wp2_with fail
 go_ret
 exact⟨rfl,HE4.o⟩
end
end Go.Proofs.YtkgmhggliifkjaaGreat
