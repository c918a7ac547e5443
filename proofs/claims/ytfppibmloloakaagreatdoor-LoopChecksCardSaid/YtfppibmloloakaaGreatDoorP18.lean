import Derived.Test.YtfppibmloloakaaGreatDoorP11
import Derived.Test.YtfppibmloloakaaGreatDoorP16
namespace Go.Proofs.YtfppibmloloakaaGreatDoor
open Go.RowKit Go.Proofs.Tryz
set_option linter.all false
theorem stE_cnt (nb:Nat):∀(s:St) (vars:List ByteArray) (before:Nat),stE nb vars before s=0->before+cntS s<=3000:=by
 refine st_ind fun h b ih vars before he=>?_
 obtain⟨h1,h2⟩:=stE_spec he;have h3:=(headE_spec h1).1
 have key:∀(l:List St) (bf:Nat),(∀s∈l,∀(vars:List ByteArray) (before:Nat),stE nb vars before s=0->before+cntS s<=3000)->bf<=3000->stEL nb (innerV vars h) bf l=0->bf+cntL l<=3000:=by
  intro l
  induction l with
  | nil=>intro bf _ hb _;simpa[cntL] using hb
  | cons x l ihl=>
   intro bf hx hb hl;simp only[stEL] at hl;split at hl
   ·rename_i h0
    have h5:=hx x (List.mem_cons_self ..) _ _ h0;have:=ihl (bf+cntS x) (fun s hs=>hx s (List.mem_cons_of_mem _ hs)) h5 hl;simp only[cntL];omega
   ·rename_i h0
    exact absurd hl h0
 have:=key b (before+1) ih (by omega) h2;simp only[cntS];omega
theorem stEL_cnt {nb:Nat}{vars:List ByteArray}:∀{l:List St} {bf:Nat},bf<=3000->stEL nb vars bf l=0->bf+cntL l<=3000
 | [],bf,hb,_=>by simpa[cntL] using hb
 | x :: l,bf,hb,hl=>by
  simp only[stEL] at hl;split at hl
  ·rename_i h0
   have h5:=stE_cnt nb x _ _ h0;have:=stEL_cnt h5 hl;simp only[cntL];omega
  ·rename_i h0
   exact absurd hl h0
mutual
theorem stores_cntS:∀s:St,storesS s<=cntS s
 | .mk h b=>by
  simp only[storesS,cntS];have:=stores_cntL b;split<;>omega
theorem stores_cntL:∀l:List St,storesL l<=cntL l
 | []=>by simp[storesL,cntL]
 | s :: r=>by
  simp only[storesL,cntL];have:=stores_cntS s;have:=stores_cntL r;omega
end
theorem bufEL_sizes:∀{l ahead:List Bf},bufEL ahead l=0->∀b∈l,1<=b.size/\b.size<=262144
 | [],_,_,b,hb=>by simp at hb
 | x :: l,ahead,h,b,hb=>by
  simp only[bufEL] at h;split at h
  ·rename_i h0
   rcases List.mem_cons.1 hb with rfl|hb
   ·unfold bufE at h0;split at h0
    ·omega
    split at h0
    ·omega
    split at h0
    ·omega
    rename_i h3
    have:=btw_iff.1 (by simpa using h3:btw b.size 1 262144=true);exact this
   ·exact bufEL_sizes h b hb
  ·rename_i h0
   exact absurd h h0
theorem bufsE_sizes {bs:List Bf}(h:bufsE bs=0):∀b∈bs,1<=b.size/\b.size<=262144:=by
 unfold bufsE at h;split at h
 ·omega
 split at h
 ·rename_i h0
  exact bufEL_sizes h0
 ·rename_i h0
  exact absurd h h0
def lastP (p:Inst->Bool)(d:List Inst):Bool:=((d.getLast?).map p).getD true
theorem lastP_snoc (p:Inst->Bool)(d:List Inst)(i:Inst):lastP p (d ++ [i])=p i:=by simp[lastP]
theorem goL_last {p:Inst->Bool}:∀(l d:List Inst),lastP p (goL (fun _ i=>p i) d l).1=if l=[] then lastP p d else l.all p
 | [],d=>rfl
 | i :: l,d=>by
  cases h:p i
  ·rw[goL_no h,lastP_snoc];simp[h]
  ·rw[goL_yes h,goL_last l,if_neg (List.cons_ne_nil _ _),lastP_snoc];split
   ·rename_i h1;subst h1;simp[h]
   ·simp[h]
theorem make_env (w:World):(Instr.makeSlice 22 (.int .i64 0) (.int .i64 8)).run Tryz.prog w=.ok (.slice (some ⟨w.heap.size,0,none⟩) (0:Nat) 8) (w.alloc (.cells (Array.replicate 8 (.int .i64 0)) 3)):=by
 kernel_rfl
def sNewE (B:Nat):Spec:=⟨Nat,0,fun b=>.slice (some ⟨b,0,none⟩) (0:Nat) 8,fun b w=>B<=b/\EnvR w b []⟩
theorem sNewE.stays {B:Nat}:∀y w w',RH [] w w'->(sNewE B).V y w->(sNewE B).V y w':=fun b w w' h k=>⟨k.1,EnvR.keep k.2 h.1 List.not_mem_nil⟩
theorem cwalk_any (body:List St)(f:FuncId)(caps:Array Value)(C:List Nat)(cb nb n:Nat)(bA:Option Addr)(nbb bc:Nat)(gs:List Nat)(gA:Option Addr)(gc:Nat)(L:List Nat)(AL:List Value)(sA:Option Addr)(sc:Nat)(v1 av:Value)(G:List Inst->Inst->Bool)(I:List Inst->World->Prop)(w:World)
  (hC:CodeAt w n cb bA nbb bc body gs gA gc L AL sA sc v1 av) (hF:∀s∈body,Fd nb [] s) (hg:gs.length<=1000000) (hn:n<=w.heap.size) (hD:∀eb,w.heap.size<=eb->DoC f caps C n nb eb L G I) (hI:∀w',Ext [] w w'->I [] w') :
  Calls Tryz.prog 100 #[.pointer (some ⟨cb,0,none⟩),.func (.func f) #[] caps] w fun e w'=>e=.returned (.tuple #[])/\Ext C w w'/\I (goL G [] (instL [] 0 body)).1 w':=by
 have HC:=hd hC;have HF:=hd hF;have HD:=hd hD;have HI:=hd hI;clear hC hF hD hI;have HQ:Hd (∀W,Ext [] w W->W.cell? ⟨cb,2,none⟩=some (.slice gA body.length gc)/\cb<W.heap.size):=hd fun W hW=>⟨(HC.o.blk.ext hW (by simp)).cell 2,(HC.o.blk.ext hW (by simp)).lt⟩
 go_enter Tryz.func100,Tryz.ntmps100
 go_wp2_with fail
 refine rgH 6 [(4,sNewE w.heap.size)] ?_ ?_
 ·refine Stays.cons sNewE.stays Stays.nil
 simp only[List.take_succ_cons,List.take_zero,List.drop_succ_cons,List.drop_zero]
 repeat
  refine relAt_det rfl rfl ?_
  apply Exists.intro
  refine⟨fun wr nr hJ=>?_,?_⟩
  ·obtain⟨q2,ql⟩:=HQ.o wr hJ.1;clear hJ;(go_simp;try go_bits)
   first|rfl|exact⟨rfl,rfl⟩
  simp only[Act.put,List.setIfInBounds_toArray,List.set_cons_succ,List.set_cons_zero]
 refine rel_new (sNewE w.heap.size) rfl rfl (fun wr nr hJ hf=>?_) ?_
 ·refine⟨wr.heap.size,.cells (Array.replicate 8 (.int .i64 0)) 3,?_,hJ.1.size,EnvR.made wr⟩
  have hmk:=make_env wr;(go_simp;try go_bits)
  rfl
 intro (eb:Nat);simp only[Act.put,List.setIfInBounds_toArray,List.set_cons_succ,List.set_cons_zero]
 repeat
  refine relAt_det rfl rfl ?_
  apply Exists.intro
  refine⟨fun wr nr hJ=>?_,?_⟩
  ·skip
   clear hJ;(go_simp;try go_bits)
   first|rfl|exact⟨rfl,rfl⟩
  simp only[Act.put,List.setIfInBounds_toArray,List.set_cons_succ,List.set_cons_zero]
 refine relAt_nil (fun w1 hJ hF=>?_)
 have HV1:Hd (w.heap.size<=eb/\EnvR w1 eb []):=hd (hF 4);have HE1:=hd hJ.1;clear hF hJ;dsimp only[sNewE];have HWK:=hd (walk_any body f caps C n nb eb G I gA gc gs [] [] 0 [] [] L AL [] w1 (HD.o eb HV1.o.1) ((⟨HC.o.row.1,fun b o hA=>(HC.o.row.2 b o hA).1,HC.o.len,fun i g s hg hs=>by have:=HC.o.cst i g s hg hs;rw[Nat.zero_add];exact this,HF.o⟩:LstAt w n nb L AL [] [] [] 0 gA gs body).step HE1.o (by simp)) HV1.o.2 rfl (Nat.le_trans hn HV1.o.1) (HI.o w1 HE1.o) (fun p i h=>by cases p<;>simp at h));simp only[List.length_nil] at HWK;go_wp2_with fail
 refine HWK.o.mono ?_
 rintro e w2 ⟨rfl,hE,hI2,-⟩
 have HE2:=hd (HE1.o.nil.step hE fun x hx=>by
  rcases List.mem_cons.1 hx with rfl|hx
  ·right;exact HV1.o.1
  ·left;exact hx)
 have HI2:=hd hI2;clear hE hI2 HWK;go_wp2_with fail
 exact bodyPost_end (results_none rfl _ _ _) rfl ⟨rfl,HE2.o,HI2.o⟩
theorem enters_chk:∀args w,(callFunc 101 args).run Tryz.prog w=.ok (.enter 101 args) w:=by
 obtain⟨c,hc⟩:∃c,Tryz.f101.body=some c:=⟨_,rfl⟩;exact fun args w=>enters_of Tryz.func101 (by kernel_rfl) hc args w
def ChkI (bs:List Bf)(cb cc ib:Nat)(d:List Inst)(w:World):Prop:=
 CodB w cb bs/\w.cell? ⟨cc,0,none⟩=some (.pointer (some ⟨cb,0,none⟩))/\Blk w ib 4 #[.bool (lastP (inI bs) d)]
set_option maxHeartbeats 4000000 in
theorem chk_any (bs:List Bf)(cb cc ib eb nb:Nat)(hnb:bs.length=nb)(hic:ib≠cc)(hib:ib≠cb)(d:List Inst)(i:Inst)(g:Nat)(names:List ByteArray)(vs:List Int)(w:World)(hI:ChkI bs cb cc ib d w)(hS:StoAt w g names nb i.s i.no)(hV:EnvR w eb vs)(hl:vs.length=names.length)(he:i.env=names.zip vs)(hbA:∀bA bc,w.cell? ⟨cb,0,none⟩=some (.slice bA bs.length bc)->bs=[]\/∀b o,bA=some ⟨b,o,none⟩->b≠ib) :
  Calls Tryz.prog 101 (#[ptV g,.slice (some ⟨eb,0,none⟩) vs.length 8] ++ #[.pointer (some ⟨cc,0,none⟩),.pointer (some ⟨ib,0,none⟩)]) w fun e w'=>e=.returned (.bool (inI bs i))/\Ext [ib] w w'/\ChkI bs cb cc ib (d ++ [i]) w':=by
 subst hnb;obtain⟨no,h,env⟩:=i;simp only at he hS;subst he;have HIN:=hd (inside_any bs cb eb names vs hl g h no w hS hI.1 hV);have HI:=hd hI;have HBA:=hd hbA;have q1:=hI.2.1;have q1l:=World.block_lt_of_cell? w _ q1;simp only at q1l;clear hI hS hV hl hbA;generalize vs.length=dl at *;generalize hr:inI bs ⟨no,h,names.zip vs⟩=r at *;have HR:=hd hr;clear hr;unfold ptV at *;go_enter Tryz.func101,Tryz.ntmps101
 go_wp2_with fail
 refine HIN.o.mono ?_
 rintro e w2 ⟨rfl,hE⟩;have HE:=hd hE;have HB2:=hd (HI.o.2.2.ext hE (by simp));clear hE HIN;have q2:=HB2.o.cell;have q2f:=HB2.o.frozen;have q2l:=HB2.o.lt;have HB3:=hd (HB2.o.set_' 0 (.bool r) #[.bool r] rfl);have HE3:=hd (Ext.setAt (b:=ib) (i:=0) (u:=Value.bool r) (.inl (by simp)) (Ext.refl [ib] w2));go_wp2_with fail
 go_ret
 refine⟨rfl,HE.o.nil.trans HE3.o,?_,HE3.o.held (HE.o.held HI.o.2.1 (by simp)) (fun hm=>by rw[List.mem_singleton] at hm;exact hic hm.symm),?_⟩
 ·obtain⟨bA,bc,h1,h2,h3⟩:=HI.o.1;refine⟨bA,bc,HE3.o.held (HE.o.held h1 (by simp)) (fun hm=>by rw[List.mem_singleton] at hm;exact hib hm.symm),?_,h3⟩
  rcases HBA.o bA bc h1 with h4|h4
  ·rw[h4];exact SeqIn.nil _ _ _ _
  ·refine(h2.keep HE.o).ext HE3.o fun x hx b o hA hxb=>?_
   rw[List.mem_singleton.1 hx] at hxb;exact h4 b o hA hxb.symm
 ·rw[lastP_snoc,HR.o];exact HB3.o
def CheckedP (p:Pg)(w:World)(e:Ending)(w':World):Prop:=Ext [] w w'/\((checkE p.bs p.body≠0/\e=.returned (.tuple #[.pointer none,.int .i64 (checkE p.bs p.body)]))\/
 (checkE p.bs p.body=0/\∃(n cb:Nat) (gs:List Nat) (gA:Option Addr) (gc:Nat) (L:List Nat) (AL:List Value) (sA:Option Addr) (sc:Nat) (av:Value),e=.returned (.tuple #[.pointer (some ⟨cb,0,none⟩),.int .i64 0])/\w.heap.size<=cb/\n<=w'.heap.size/\CodeAt w' n cb p.A p.bs.length p.cap p.body gs gA gc L AL sA sc (.slice p.B p.body.length p.bcap) av))
structure FormOk (bs:List Bf)(body:List St):Prop where
 fd:∀s∈body,Fd bs.length [] s
 cnt:cntL body<=3000
 sto:storesL body<=3000
 siz:∀b∈bs,1<=b.size/\b.size<=262144
theorem FormOk.of {bs:List Bf}{body:List St}(h:formedE bs body=0):FormOk bs body:=by
 unfold formedE at h;split at h
 ·rename_i h0
  have h1:=stEL_cnt (Nat.zero_le _) h;have h2:=stores_cntL body;exact⟨fdL_of h,by omega,by omega,bufsE_sizes h0⟩
 ·rename_i h0
  exact absurd h h0
set_option maxHeartbeats 8000000 in
set_option maxRecDepth 100000 in
theorem checked_any (p:Pg)(w:World)(hP:PgIn w p):Calls Tryz.prog 45 #[pgV p] w (CheckedP p w):=by
 have HP:=hd hP;have HFM:=hd (fun W (hW:Ext [] w W)=>formed_any p W (hP.keep hW));have HCE:Hd (checkE p.bs p.body=if formedE p.bs p.body=0 then(if 2500000<runNL [] p.body then 2 else if(instL [] 0 p.body).all (inI p.bs) then 0 else 9) else formedE p.bs p.body):=hd rfl;unfold CheckedP;generalize checkE p.bs p.body=ce at *;have HFO:=hd (fun h=>FormOk.of (bs:=p.bs) (body:=p.body) h);obtain⟨A,cap,bs,B,bcap,body⟩:=p;dsimp only[pgV] at *;clear hP;have HE0:=hd ((Ext.refl [] w).alloc (.cells #[.slice A bs.length cap,.slice B body.length bcap] 29));have HB0:=hd (Blk.new w 29 #[.slice A bs.length cap,.slice B body.length bcap]);generalize hfe:formedE bs body=fe at *;have HFE:=hd hfe;clear hfe;go_enter Tryz.func45,Tryz.ntmps45
 go_wp2_with fail
 generalize World.alloc w _=w1 at *;generalize w.heap.size=pb at *;refine(HFM.o w1 HE0.o).mono ?_
 rintro e w2 ⟨rfl,hE⟩;have HE2:=hd (HE0.o.trans hE);have HB2:=hd (HB0.o.ext hE (by simp));clear hE HFM HE0 HB0;have q2:=HB2.o.cell;have ql:=HB2.o.lt;by_cases h0:fe=0
 ·subst h0;have HOK:=hd (HFO.o rfl);have HC1:=hd (HCE.o.trans (if_pos rfl));have hP:=HP.o;have HCM:=hd (compile_any A B bs.length cap bcap body w2 (hP.body.keep HE2.o) (fun s hs=>(hP.stmt s hs).keep HE2.o) HOK.o.fd (by have:=HOK.o.cnt;omega) (by have:=HOK.o.sto;omega));clear hP;go_wp2_with fail
  refine HCM.o.mono ?_
  rintro e w3 ⟨cb,gs,gA,gc,L,AL,sA,sc,av,rfl,hcb,hE,hC⟩;have HE3:=hd (HE2.o.trans hE);have HC3:=hd hC;have HCB:=hd hcb;have hgl9:gs.length<=1000000:=hC.row.1.1;clear hE hC hcb HCM q2 ql HB2;have HB4:=hd ((Blk.new w3 91 #[.pointer (some ⟨cb,0,none⟩)]).ext ((Ext.refl [] _).alloc (.cells #[.int .i64 2500000] 182)) (by simp));have HB5:=hd (Blk.new (w3.alloc (.cells #[.pointer (some ⟨cb,0,none⟩)] 91)) 182 #[.int .i64 2500000]);rw[alloc_size] at HB5;have HE5:=hd (((Ext.refl [] w3).alloc (.cells #[.pointer (some ⟨cb,0,none⟩)] 91)).alloc (.cells #[.int .i64 2500000] 182));go_upto_region 6 with fail
  generalize World.alloc (World.alloc w3 _) _=w5 at *;generalize hN:w3.heap.size=n at *;have HQ:Hd (∀W,Ext [] w5 W->W.cell? ⟨n,0,none⟩=some (.pointer (some ⟨cb,0,none⟩))/\n<W.heap.size/\W.cell? ⟨cb,2,none⟩=some (.slice gA body.length gc)/\cb<W.heap.size):=hd fun W hW=>⟨(HB4.o.ext hW (by simp)).cell 0,(HB4.o.ext hW (by simp)).lt,((HC3.o.blk.ext HE5.o (by simp)).ext hW (by simp)).cell 2,((HC3.o.blk.ext HE5.o (by simp)).ext hW (by simp)).lt⟩
  have hn5:n<=w5.heap.size:=by have:=HE5.o.size;omega
  refine rgH 6 [(5,sNewE w5.heap.size)] ?_ ?_
  ·exact Stays.cons sNewE.stays Stays.nil
  simp only[List.take_succ_cons,List.take_zero,List.drop_succ_cons,List.drop_zero]
  repeat
   refine relAt_det rfl rfl ?_
   apply Exists.intro
   refine⟨fun wr nr hJ=>?_,?_⟩
   ·obtain⟨q0,q0l,q2,ql⟩:=HQ.o wr hJ.1;clear hJ;(go_simp;try go_bits)
    first|rfl|exact⟨rfl,rfl⟩
   simp only[Act.put,List.setIfInBounds_toArray,List.set_cons_succ,List.set_cons_zero]
  refine rel_new (sNewE w5.heap.size) rfl rfl (fun wr nr hJ hf=>?_) ?_
  ·refine⟨wr.heap.size,.cells (Array.replicate 8 (.int .i64 0)) 3,?_,hJ.1.size,EnvR.made wr⟩
   have hmk:=make_env wr;(go_simp;try go_bits)
   rfl
  intro (eb:Nat);simp only[Act.put,List.setIfInBounds_toArray,List.set_cons_succ,List.set_cons_zero]
  repeat
   refine relAt_det rfl rfl ?_
   apply Exists.intro
   refine⟨fun wr nr hJ=>?_,?_⟩
   ·skip
    clear hJ;(go_simp;try go_bits)
    first|rfl|exact⟨rfl,rfl⟩
   simp only[Act.put,List.setIfInBounds_toArray,List.set_cons_succ,List.set_cons_zero]
  refine relAt_nil (fun w6 hJ hF=>?_)
  have HV6:Hd (w5.heap.size<=eb/\EnvR w6 eb []):=hd (hF 5);have HE6:=hd hJ.1;clear hF hJ;dsimp only[sNewE];have HC6:=hd ((HC3.o.step HE5.o (by simp) (Nat.le_refl _)).step HE6.o (by simp) (Nat.le_refl _));have HLA:Hd (LstAt w6 n bs.length L AL [] [] [] 0 gA gs body):=hd ⟨HC6.o.row.1,fun b o hA=>(HC6.o.row.2 b o hA).1,HC6.o.len,fun i g s hg hs=>by have:=HC6.o.cst i g s hg hs;rw[Nat.zero_add];exact this,HOK.o.fd⟩;have h51:=HB5.o.lt;have HRU:=hd (run_any body n bs.length (n+1) eb gA gc gs [] [] 0 [] [] L AL 2500000 w6 HLA.o HV6.o.2 rfl (by have:=HV6.o.1;omega) (by omega) (by have:=HV6.o.1;omega) (HB5.o.ext HE6.o (by simp)) (by have:=HOK.o.cnt;omega) (by have:=HOK.o.cnt;omega) (by omega));simp only[List.length_nil,List.zip_nil_left] at HRU;go_wp2_with fail
  refine HRU.o.mono ?_
  rintro e w7 ⟨left,rfl,hE,-,-,-⟩
  have HE7:=hd (((HE3.o.trans HE5.o).trans HE6.o).step hE fun x hx=>by
   have h1:=HV6.o.1;have h2:=HE3.o.size;rw[hN] at h2;rcases List.mem_cons.1 hx with rfl|hx
   ·right;omega
   ·right;rw[List.mem_singleton.1 hx];omega)
  have HX7:=hd hE;clear hE HRU;by_cases hr:2500000<runNL [] body
  ·have hok:okR [] body 2500000=false:=by
    unfold okR;cases hb:body with
    | nil=>subst hb;simp[runNL] at hr
    | cons s r=>
           rw[<-hb];have:decide ((runNL [] body:Int)<=2500000)=false:=by simp;omega
           rw[this];rw[hb];rfl
   have HF:=hd (HC1.o.trans (if_pos hr));have HOKR:=hd hok;clear hr hok;rw[HOKR.o];go_wp2_with fail
   go_ret2
   exact⟨HE7.o,.inl ⟨by rw[HF.o];decide,by rw[HF.o];rfl⟩⟩
  ·have hok:okR [] body 2500000=true:=by
    unfold okR;have:decide ((runNL [] body:Int)<=2500000)=true:=by simp;omega
    rw[this];simp
   have HF:=hd (HC1.o.trans (if_neg hr));have HOKR:=hd hok;clear hr hok;rw[HOKR.o]
   have HC7:=hd (HC6.o.step HX7.o (fun x hx=>by
    have h1:=HV6.o.1;rcases List.mem_cons.1 hx with rfl|hx
    ·omega
    ·rw[List.mem_singleton.1 hx];omega) (Nat.le_refl n))
   have HN7:Hd (w7.cell? ⟨n,0,none⟩=some (.pointer (some ⟨cb,0,none⟩))):=hd (HX7.o.held (HQ.o w6 HE6.o).1 fun hm=>by
    have h1:=HV6.o.1;simp only[List.mem_cons,List.not_mem_nil,or_false] at hm;omega)
   have hn7:n<w7.heap.size:=by have:=World.block_lt_of_cell? w7 _ HN7.o;simpa using this
   have hcn:=HC7.o.cbn
   have HAB:Hd (bs=[]\/∀b o,A=some ⟨b,o,none⟩->b<n):=hd (by
    rcases HP.o.bufs.2 with h1|⟨b,h1,hc⟩
    ·exact .inl h1
    ·cases hb:bs with
     | nil=>exact .inl rfl
     | cons x r=>
      right
      intro b' o' hA;have h2:=World.block_lt_of_cell? w _ (hc 0 x (by simp only;rw[hb];rfl) 0 _ rfl);have h3:=HE3.o.size;simp only at h1 h2;rw[h1] at hA;cases hA
      omega)
   have HP7:=hd (HP.o.bufs.keep HE7.o);simp only at HP7;have HX8:=hd ((Ext.refl [] w7).alloc (.cells #[.bool true] 4));have HB8:=hd (Blk.new w7 4 #[.bool true]);have HS8:Hd ((w7.alloc (.cells #[.bool true] 4)).heap.size=w7.heap.size+1):=hd (alloc_size _ _);go_upto_region 9 with fail
   generalize World.alloc w7 _=w8 at *;generalize hib:w7.heap.size=ib at *;have HC8:=hd (HC7.o.step HX8.o (by simp) (Nat.le_refl n))
   have HCW:=hd (cwalk_any body 101 #[.pointer (some ⟨n,0,none⟩),.pointer (some ⟨ib,0,none⟩)] [ib] cb bs.length n A bs.length cap gs gA gc L AL sA sc (.slice B body.length bcap) av (fun _ i=>inI bs i)
    (fun d w=>ChkI bs cb n ib d w/\w.cell? ⟨cb,0,none⟩=some (.slice A bs.length cap)/\SeqIn w A 4 bfC bs) w8 HC8.o HOK.o.fd hgl9 (by rw[HS8.o];omega)
    (fun eb' he=>⟨enters_chk,fun x hx=>by rw[List.mem_singleton.1 hx];have:=HS8.o;exact⟨by omega,by omega⟩,fun d w w' hE hI=>by
     have hS8:=HS8.o;have hne:∀b,b<n->b∉[eb']:=fun b hb hm=>by rw[List.mem_singleton] at hm;omega
     obtain⟨⟨-,h2,h3⟩,h4,h5⟩:=hI
     have h6:SeqIn w' A 4 bfC bs:=by
      rcases HAB.o with h7|h7
      ·rw[h7];exact SeqIn.nil _ _ _ _
      ·exact h5.ext hE fun x hx b o hA hxb=>by have:=h7 b o hA;rw[List.mem_singleton.1 hx] at hxb;omega
     have h8:=hE.held h4 (hne cb hcn);exact⟨⟨⟨A,cap,h8,h6,HOK.o.siz⟩,hE.held h2 (fun hm=>by rw[List.mem_singleton] at hm;simp only at hm;omega),h3.ext hE (fun hm=>by rw[List.mem_singleton] at hm;omega)⟩,h8,h6⟩,
    fun d i g names vs W hI _ hS _ hV hl he=>by
     refine(chk_any bs cb n ib eb' bs.length rfl (by omega) (by omega) d i g names vs W hI.1 hS hV hl he (fun bA bc hc=>?_)).mono ?_
     ·rw[hI.2.1] at hc;cases hc
      exact HAB.o.imp id fun h b o hA=>by have:=h b o hA;omega
     ·rintro e w' ⟨h1,h2,h3⟩;refine⟨h1,h2,h3,h2.held hI.2.1 (fun hm=>by rw[List.mem_singleton] at hm;simp only at hm;omega),?_⟩
      rcases HAB.o with h7|h7
      ·rw[h7];exact SeqIn.nil _ _ _ _
      ·exact hI.2.2.ext h2 fun x hx b o hA hxb=>by have:=h7 b o hA;rw[List.mem_singleton.1 hx] at hxb;omega⟩)
    (fun W hW=>⟨⟨⟨A,cap,(HC8.o.blk.ext hW (by simp)).cell 0,(HP7.o.keep HX8.o).keep hW,HOK.o.siz⟩,hW.held (HX8.o.held HN7.o (by simp)) (by simp),HB8.o.ext hW (by simp)⟩,(HC8.o.blk.ext hW (by simp)).cell 0,(HP7.o.keep HX8.o).keep hW⟩))
   have qn:w8.cell? ⟨n,0,none⟩=some (.pointer (some ⟨cb,0,none⟩)):=HX8.o.held HN7.o (by simp);have qnl:n<w8.heap.size:=by have:=HS8.o;omega
   go_wp2_with fail
   refine HCW.o.mono ?_
   rintro e w9 ⟨rfl,hE,⟨hI1,hI2,hI3⟩⟩;have HE9:=hd hE;have hlast:=hI1.2.2;rw[goL_last] at hlast
   have HB9:Hd (Blk w9 ib 4 #[.bool ((instL [] 0 body).all (inI bs))]):=hd (by
    by_cases hnil:instL [] 0 body=[]
    ·rw[if_pos hnil] at hlast;rw[hnil];exact hlast
    ·rw[if_neg hnil] at hlast;exact hlast)
   have HEF:=hd ((HE7.o.trans HX8.o).step hE fun x hx=>by
    rw[List.mem_singleton.1 hx];have h1:=HE3.o.size;right
    omega)
   have HC9:=hd (HC8.o.step hE (fun x hx=>by rw[List.mem_singleton.1 hx];omega) (Nat.le_refl n));have HN9:Hd (w9.cell? ⟨n,0,none⟩=some (.pointer (some ⟨cb,0,none⟩))):=hd hI1.2.1;clear hE hI1 hI2 hI3 hlast qn qnl HCW;have q9:=HB9.o.cell;have q9l:=HB9.o.lt;cases hin:(instL [] 0 body).all (inI bs)
   ·rw[hin] at q9;have hf:=HF.o;rw[hin] at hf;have HFF:=hd hf;clear hf hin;go_wp2_with fail
    go_ret2
    exact⟨HEF.o,.inl ⟨by rw[HFF.o];decide,by rw[HFF.o];rfl⟩⟩
   ·rw[hin] at q9;have hf:=HF.o;rw[hin] at hf;have HFF:=hd hf;clear hf hin;have qn:=HN9.o;have qnl:=World.block_lt_of_cell? w9 _ qn;simp only at qnl;go_wp2_with fail
    go_ret2
    refine⟨HEF.o,.inr ⟨HFF.o,n,cb,gs,gA,gc,L,AL,sA,sc,av,rfl,?_,by omega,HC9.o⟩⟩
    have h1:=HE2.o.size;have h2:=HCB.o;omega
 ·have e1:(fe==0)=false:=by simpa using h0
  have HF:=hd (HCE.o.trans (if_neg h0));have HN:=hd h0;clear h0;go_wp2_with fail
  go_ret2
  exact⟨HE2.o,.inl ⟨by rw[HF.o];exact HN.o,by rw[HF.o];rfl⟩⟩
theorem check_any (p:Pg)(w:World)(hP:PgIn w p):Calls Tryz.prog 18 #[pgV p] w (ErrP (checkE p.bs p.body) w):=by
 have HC:=hd (fun W (hW:Ext [] w W)=>checked_any p W (hP.keep hW));obtain⟨A,cap,bs,B,bcap,body⟩:=p;dsimp only[pgV] at *;have HE0:=hd ((Ext.refl [] w).alloc (.cells #[.slice A bs.length cap,.slice B body.length bcap] 29));go_enter Tryz.func18,Tryz.ntmps18
 go_wp2_with fail
 generalize World.alloc w _=w1 at *;refine(HC.o w1 HE0.o).mono ?_
 rintro e w2 ⟨hE,h1|⟨h1,n,cb,gs,gA,gc,L,AL,sA,sc,av,h2,-⟩⟩
 ·obtain⟨h1,h2⟩:=h1;simp only at h1 h2;generalize checkE bs body=ce at *;subst h2;have HE:=hd (HE0.o.trans hE);clear hE h1;go_wp2_with fail
  go_ret
  exact⟨rfl,HE.o⟩
 ·simp only at h1;generalize checkE bs body=ce at *;subst h1 h2;have HE:=hd (HE0.o.trans hE);clear hE;go_wp2_with fail
  go_ret
  exact⟨rfl,HE.o⟩
mutual
def stoS:St->List SH|.mk h b=>(if h.k=3 then [h] else []) ++ stoLL b
def stoLL:List St->List SH | []=>[]|s :: r=>stoS s ++ stoLL r
end
mutual
theorem stoS_len:∀s:St,(stoS s).length=storesS s
 | .mk h b=>by
  have:=stoLL_len b;simp only[stoS,storesS,List.length_append,this];split<;>simp
theorem stoLL_len:∀l:List St,(stoLL l).length=storesL l
 | []=>rfl
 | s :: r=>by simp only[stoLL,storesL,List.length_append,stoS_len s,stoLL_len r]
end
theorem sto_find:∀(l:List St) (j:Nat),j<storesL l->∃i s,l[i]? = some s/\storesL (l.take i)<=j/\j<storesL (l.take i)+storesS s/\(stoLL l)[j]? = (stoS s)[j-storesL (l.take i)]?
 | [],j,h=>by simp[storesL] at h
 | s :: r,j,h=>by
  by_cases h1:j<storesS s
  ·exact⟨0,s,rfl,by simp[storesL],by simpa[storesL] using h1,by
    simp only[stoLL,List.take_zero,storesL,Nat.sub_zero];rw[List.getElem?_append_left (by rw[stoS_len];exact h1)]⟩
  ·have h2:j-storesS s<storesL r:=by simp only[storesL] at h;omega
   obtain⟨i,t,e1,e2,e3,e4⟩:=sto_find r _ h2;refine⟨i+1,t,by simpa using e1,by simp only[List.take_succ_cons,storesL];omega,by simp only[List.take_succ_cons,storesL];omega,?_⟩
   simp only[stoLL,List.take_succ_cons,storesL];rw[List.getElem?_append_right (by rw[stoS_len];omega),stoS_len,e4];congr 1
   omega
def NoOk (no:Nat)(l:List St)(i:Inst):Prop:=no<=i.no/\(stoLL l)[i.no-no]? = some i.s
theorem vec_sto {env:Env}{h:SH}:∀(b:List St) (no:Nat),(∀s∈b,s.h.k=3)->(∀s∈b,s.body=[])->∀i∈vecI env h no b,NoOk no b i
 | [],no,_,_,i,hi=>by simp[vecI] at hi
 | s :: r,no,h3,hb,i,hi=>by
  have e1:stoS s=[s.h]:=by
   have k3:=h3 s (List.mem_cons_self ..);have k4:=hb s (List.mem_cons_self ..);obtain⟨hh,bb⟩:=s;simp only[St.h,St.body] at k3 k4⊢;subst k4;simp[stoS,k3,stoLL]
  simp only[vecI,List.mem_append,List.mem_map] at hi;unfold NoOk;simp only[stoLL,e1];rcases hi with⟨k,-,rfl⟩|hi
  ·exact⟨Nat.le_refl _,by simp⟩
  ·obtain⟨e2,e3⟩:=vec_sto r (no+1) (fun s hs=>h3 s (List.mem_cons_of_mem _ hs)) (fun s hs=>hb s (List.mem_cons_of_mem _ hs)) i hi;refine⟨by omega,?_⟩
   have:i.no-no=(i.no-(no+1))+1:=by omega
   rw[this];simpa using e3
theorem noOk_list {env:Env}(l:List St)(ih:∀s∈l,∀no,∀i∈instS env no s,no<=i.no/\(stoS s)[i.no-no]? = some i.s):∀no,∀i∈instL env no l,NoOk no l i:=by
 induction l with
 | nil=>intro no i hi;simp[instL] at hi
 | cons s r ihr=>
  intro no i hi;simp only[instL,List.mem_append] at hi;unfold NoOk;simp only[stoLL];rcases hi with hi|hi
  ·obtain⟨h1,h2⟩:=ih s (List.mem_cons_self ..) no i hi;have h3:=(List.getElem?_eq_some_iff.1 h2).1;exact⟨h1,by rw[List.getElem?_append_left h3];exact h2⟩
  ·obtain⟨h1,h2⟩:=ihr (fun s hs=>ih s (List.mem_cons_of_mem _ hs)) (no+storesS s) i hi;refine⟨by omega,?_⟩
   rw[List.getElem?_append_right (by rw[stoS_len];omega),stoS_len];have:i.no-no-storesS s=i.no-(no+storesS s):=by omega
   rw[this];exact h2
theorem noOk_st {nb:Nat}:∀(s:St) (names:List ByteArray),Fd nb names s->∀(env:Env) (no:Nat),∀i∈instS env no s,no<=i.no/\(stoS s)[i.no-no]? = some i.s:=by
 refine st_ind fun h b ih=>?_
 intro names hF env no i hi
 have hne:∀s∈b,h.k≠3->∃names',Fd nb names' s:=fun s hs h3=>by
  cases hF with
  | loop _ _ _ _ _ _ _ _ _ _ _ h9=>exact⟨_,h9 s hs⟩
  | when _ _ _ _ _ _ _ h9=>exact⟨_,h9 s hs⟩
  | store _ _ h9=>exact absurd h9 h3
 by_cases h3:h.k=3
 ·rw[instS_store h3] at hi;rw[List.mem_singleton.1 hi];exact⟨Nat.le_refl _,by simp[stoS,h3]⟩
 ·have hst:stoS (.mk h b)=stoLL b:=by simp[stoS,h3]
  rw[hst]
  have hlist:∀env',∀i∈instL env' no b,NoOk no b i:=fun env'=>noOk_list b (fun s hs no' i' hi'=>by
   obtain⟨nm,hf⟩:=hne s hs h3;exact ih s hs nm hf env' no' i' hi') no
  by_cases h2:h.k=2
  ·rw[instS_when h2] at hi;split at hi
   ·exact hlist env i hi
   ·simp at hi
  ·have h1:h.k=1:=by
    cases hF with
    | loop _ _ _ h9=>exact h9
    | when _ _ _ h9=>exact absurd h9 h2
    | store _ _ h9=>exact absurd h9 h3
   cases hv:h.vec
   ·rw[instS_for h1 hv] at hi;unfold catN at hi;rw[List.mem_flatten] at hi;obtain⟨l',hl',hil⟩:=hi;obtain⟨k,-,rfl⟩:=List.mem_map.1 hl';exact hlist _ i hil
   ·rw[instS_vec h1 hv] at hi
    have hv3:∀s∈b,s.h.k=3:=by
     cases hF with
     | loop _ _ _ _ _ _ _ _ _ _ h8 _=>exact h8 hv
     | when _ _ _ h9=>exact absurd h9 h2
     | store _ _ h9=>exact absurd h9 h3
    have hvb:∀s∈b,s.body=[]:=fun s hs=>by
     obtain⟨nm,hf⟩:=hne s hs h3;have:=hv3 s hs;cases hf with
     | loop _ _ _ h9=>simp only[St.h] at this;omega
     | when _ _ _ h9=>simp only[St.h] at this;omega
     | store=>rfl
    exact vec_sto b no hv3 hvb i hi
theorem noOk_any {nb:Nat}{body:List St}(hF:∀s∈body,Fd nb [] s):∀i∈instL [] 0 body,(stoLL body)[i.no]? = some i.s:=fun i hi=>by
 have:=(noOk_list body (fun s hs no i hi=>noOk_st s [] (hF s hs) [] no i hi) 0 i hi).2;simpa using this
theorem sto_at {w:World}{n nb:Nat}{L:List Nat}{AL:List Value}:∀(s:St) (names:List ByteArray) (path:List Int) (gl:List Nat) (no g:Nat),CSt w n [] L AL names path gl no g s->Fd nb names s->∀j,j<storesS s->∃g' names' h',L[no+j]? = some g'/\StoAt w g' names' nb h' (no+j)/\(stoS s)[j]? = some h'/\g'<n:=by
 refine st_ind fun h b ih=>?_
 intro names path gl no g hC hF j hj;obtain⟨pb,po,CA,cc,A,cap,gs,PA,pc,vv,k⟩:=hC.open_;by_cases h3:h.k=3
 ·have hb:b=[]:=by
   cases hF with
   | loop _ _ _ h9=>omega
   | when _ _ _ h9=>omega
   | store=>rfl
  subst hb;have hj0:j=0:=by simp[storesS,h3,storesL] at hj;omega
  subst hj0;obtain⟨_,_,_,_,_,h5,_⟩:=k.val h3;exact⟨g,names,h,h5,StoAt.of k h3 hF,by simp[stoS,h3],k.gn⟩
 ·have hst:stoS (.mk h b)=stoLL b:=by simp[stoS,h3]
  have hss:storesS (.mk h b)=storesL b:=by simp[storesS,h3]
  rw[hss] at hj;obtain⟨i,s,e1,e2,e3,e4⟩:=sto_find b j hj;have hi:=(List.getElem?_eq_some_iff.1 e1).1;have hgs:∃g1,gs[i]? = some g1:=⟨_,List.getElem?_eq_getElem (by rw[k.len];exact hi)⟩;obtain⟨g1,hg1⟩:=hgs;have hmem:=List.mem_of_getElem? e1
  have hFs:Fd nb (innerV names h) s:=by
   cases hF with
   | loop _ _ _ h1 _ _ _ _ _ _ _ h9=>
    have e:innerV names h=names ++ [h.var]:=if_pos h1;rw[e];exact h9 s hmem
   | when _ _ _ h1 _ _ _ h9=>
    have e:innerV names h=names:=if_neg (by omega);rw[e];exact h9 s hmem
   | store _ _ h9=>exact absurd h9 h3
  obtain⟨g',nm',h',f1,f2,f3,f4⟩:=ih s hmem _ _ _ _ _ (k.kid i g1 s hg1 e1) hFs (j-storesL (b.take i)) (by omega);have hno:no+storesL (b.take i)+(j-storesL (b.take i))=no+j:=by omega
  rw[hno] at f1 f2;exact⟨g',nm',h',f1,f2,by rw[hst,e4];exact f3,f4⟩
theorem CodeAt.sto {w:World}{n cb:Nat}{bA:Option Addr}{nb bc:Nat}{body:List St}{gs:List Nat}{gA:Option Addr}{gc:Nat}{L:List Nat}{AL:List Value}{sA:Option Addr}{sc:Nat}{v1 av:Value}(k:CodeAt w n cb bA nb bc body gs gA gc L AL sA sc v1 av){nn:Nat}(hF:∀s∈body,Fd nn [] s):∀j,j<L.length->∃g' names' h',L[j]? = some g'/\StoAt w g' names' nn h' j/\(stoLL body)[j]? = some h'/\g'<n:=fun j hj=>by
 rw[k.lenS.1] at hj;obtain⟨i,s,e1,e2,e3,e4⟩:=sto_find body j hj;have hi:=(List.getElem?_eq_some_iff.1 e1).1;obtain⟨g1,hg1⟩:∃g1,gs[i]? = some g1:=⟨_,List.getElem?_eq_getElem (by rw[k.len];exact hi)⟩;have hmem:=List.mem_of_getElem? e1;obtain⟨g',nm',h',f1,f2,f3,f4⟩:=sto_at s _ _ _ _ _ (k.cst i g1 s hg1 e1) (hF s hmem) (j-storesL (body.take i)) (by omega);have hno:storesL (body.take i)+(j-storesL (body.take i))=j:=by omega
 rw[hno] at f1 f2;exact⟨g',nm',h',f1,f2,by rw[e4];exact f3,f4⟩
def sumW (W:Nat->Nat)(d:List Inst):Nat:=(d.map fun i=>W i.no).sum
theorem sumW_snoc (W:Nat->Nat)(d:List Inst)(i:Inst):sumW W (d ++ [i])=sumW W d+W i.no:=by simp[sumW]
def fewG (W:Nat->Nat)(d:List Inst)(i:Inst):Bool:=decide (d.length+1<=2000)&&decide (sumW W d+W i.no<=20000)
theorem fewG_last {W:Nat->Nat}{d:List Inst}(h:LastG (fewG W) d):d.length<=2000/\sumW W d<=20000:=by
 rcases List.eq_nil_or_concat d with rfl|⟨p,i,hp⟩
 ·simp[sumW]
 ·rw[List.concat_eq_append] at hp;subst hp;have:=h p i rfl;unfold fewG at this;simp at this;rw[sumW_snoc];simp;exact this
def SmlI (W:Nat->Nat)(len nb tb wp wr:Nat)(d:List Inst)(w:World):Prop:=
 Blk w nb 3 #[.int .i64 (d.length:Nat)]/\Blk w tb 3 #[.int .i64 (sumW W d:Nat)]/\Blk w wp 22 #[.slice (some ⟨wr,0,none⟩) len len]/\∀j,j<len->w.cell? ⟨wr,j,none⟩=some (.int .i64 (W j:Nat))
theorem enters_sml:∀args w,(callFunc 138 args).run Tryz.prog w=.ok (.enter 138 args) w:=by
 obtain⟨c,hc⟩:∃c,Tryz.f138.body=some c:=⟨_,rfl⟩;exact fun args w=>enters_of Tryz.func138 (by kernel_rfl) hc args w
set_option maxHeartbeats 8000000 in
set_option maxRecDepth 100000 in
theorem sml_any (W:Nat->Nat)(hW:∀j,W j<=1000000000000)(len nb tb wp wr g:Nat)(vA:Value)(d:List Inst)(i:Inst)(w:World)(hI:SmlI W len nb tb wp wr d w)(hd9:d.length<=2000/\sumW W d<=20000)(hi:i.no<len)(hg:w.cell? ⟨g,5,none⟩=some (.int .i64 i.no))
  (h1:nb≠tb) (h2:nb≠wp) (h3:nb≠wr) (h4:tb≠wp) (h5:tb≠wr) (h6:g≠nb) (h7:g≠tb) :
  Calls Tryz.prog 138 (#[ptV g,vA] ++ #[.pointer (some ⟨nb,0,none⟩),.pointer (some ⟨tb,0,none⟩),.pointer (some ⟨wp,0,none⟩)]) w fun e w'=>e=.returned (.bool (fewG W d i))/\Ext [nb,tb] w w'/\SmlI W len nb tb wp wr (d ++ [i]) w':=by
 obtain⟨k1,k2,k3,k4⟩:=hI;have HG:Hd (fewG W d i=(decide (d.length+1<=2000)&&decide (sumW W d+W i.no<=20000))):=hd rfl;have hLen:(d ++ [i]).length=d.length+1:=by simp
 have HSN:=hd (sumW_snoc W d i);have HLN:=hd hLen;have hw9:=hW i.no;have HK3:=hd k3;have HK4:=hd k4;have HK2:=hd k2;have HK1:=hd k1;have HG5:=hd hg;have q4:=k4 i.no hi;generalize W i.no=x at *;generalize sumW W d=t at *;generalize d.length=m at *;generalize i.no=no at *;have qn:=k1.cell;have qnf:=k1.frozen;have qnl:=k1.lt;have HB1:=hd (k1.set_' 0 (.int .i64 (m+1)) #[.int .i64 (m+1:Nat)] rfl);have HE1:=hd (Ext.setAt (b:=nb) (i:=0) (u:=.int .i64 (m+1)) (.inl (by simp)) (Ext.refl [nb] w));have HQ4:=hd q4;clear k1 k2 k3 k4 hg hLen q4;unfold ptV;go_enter Tryz.func138,Tryz.ntmps138
 go_upto_region 2 with fail
 generalize World.setCell _ _ _=w1 at *;clear qn qnf qnl;have HT1:=hd (HK2.o.ext HE1.o (by rw[List.mem_singleton];exact Ne.symm h1));have HP1:=hd (HK3.o.ext HE1.o (by rw[List.mem_singleton];exact Ne.symm h2));have HR1:Hd (∀j,j<len->w1.cell? ⟨wr,j,none⟩=some (.int .i64 (W j:Nat))):=hd fun j hj=>HE1.o.held (HK4.o j hj) (by rw[List.mem_singleton];exact Ne.symm h3)
 have q4:=HE1.o.held HQ4.o (by rw[List.mem_singleton];exact Ne.symm h3);have qg:=HE1.o.held HG5.o (by rw[List.mem_singleton];exact h6);have HQ1:=hd (And.intro q4 qg);clear q4 qg;go_wp2_with fail
 have hnl:(no:Int)<(len:Int):=by omega
 refine wp_region_rel 9 (JE _) (Ext []) (kinds []) (by kernel_rfl) (by kernel_rfl) JE.less ?_ JE.start ?_
 ·repeat(first|exact Stays.nil|refine Stays.cons sFix.stays ?_)
 simp only[List.take_succ_cons,List.take_zero,List.drop_succ_cons,List.drop_zero]
 repeat
  refine relAt_det rfl rfl ?_
  apply Exists.intro
  refine⟨fun wr nr hJ=>?_,?_⟩
  ·have qt:=(HT1.o.ext hJ (by simp)).cell;have qtl:=(HT1.o.ext hJ (by simp)).lt;have qp:=(HP1.o.ext hJ (by simp)).cell;have qpl:=(HP1.o.ext hJ (by simp)).lt;have q4:=hJ.held HQ1.o.1 (by simp);have q5:=hJ.held HQ1.o.2 (by simp);have q4l:=World.block_lt_of_cell? wr _ q4;have q5l:=World.block_lt_of_cell? wr _ q5;simp only at q4l q5l;clear hJ;(go_simp;try go_bits)
   first|rfl|exact⟨rfl,rfl⟩
  simp only[Act.put,List.setIfInBounds_toArray,List.set_cons_succ,List.set_cons_zero]
 refine relAt_nil (fun w2 hJ hF=>?_)
 have HX2:=hd hJ;have HT2:=hd (HT1.o.ext hJ (by simp));have HN2:=hd (HB1.o.ext hJ (by simp));have HP2:=hd (HP1.o.ext hJ (by simp));have HR2:Hd (∀j,j<len->w2.cell? ⟨wr,j,none⟩=some (.int .i64 (W j:Nat))):=hd fun j hj'=>hJ.held (HR1.o j hj') (by simp)
 clear hF hJ;have qt:=HT2.o.cell;have qtf:=HT2.o.frozen;have qtl:=HT2.o.lt;have HT3:=hd (HT2.o.set_' 0 (.int .i64 (t+x)) #[.int .i64 (t+x:Nat)] rfl);have HE3:=hd (Ext.setAt (b:=tb) (i:=0) (u:=.int .i64 (t+x)) (.inl (by simp)) (Ext.refl [tb] w2));go_upto_region 3 with fail
 generalize World.setCell _ _ _=w3 at *;clear qt qtf qtl;have HN3:=hd (HN2.o.ext HE3.o (by rw[List.mem_singleton];exact h1));have HP3:=hd (HP2.o.ext HE3.o (by rw[List.mem_singleton];exact Ne.symm h4));have HI3:Hd (SmlI W len nb tb wp wr (d ++ [i]) w3):=hd ⟨by rw[HLN.o];exact HN3.o,by rw[HSN.o];exact HT3.o,HP3.o,fun j hj=>HE3.o.held (HR2.o j hj) (by rw[List.mem_singleton];exact Ne.symm h5)⟩;have HE4:Hd (Ext [nb,tb] w w3):=hd (((HE1.o.step HX2.o (fun x hx=>by cases hx)).mono (fun x hx=>.inl (by rw[List.mem_singleton.1 hx];simp))).step HE3.o fun x hx=>.inl (by rw[List.mem_singleton.1 hx];simp));have qn:=HN3.o.cell;have qnl:=HN3.o.lt;have qt:=HT3.o.cell;have qtl:=HT3.o.lt;by_cases hm:m+1<=2000
 ·go_wp2_with fail
  go_ret
  exact⟨ret_bool (by rw[HG.o,decide_eq_true hm,Bool.true_and,decide_eq_decide];omega),HE4.o,HI3.o⟩
 ·go_wp2_with fail
  go_ret
  exact⟨ret_bool (by rw[HG.o,decide_eq_false hm,Bool.false_and]),HE4.o,HI3.o⟩
theorem sto_fd {nb:Nat}:∀(s:St) (names:List ByteArray),Fd nb names s->∀h∈stoS s,∃nm,exprE nm nb h.val=0/\parts h.val<=32:=by
 refine st_ind fun h b ih=>?_
 intro names hF h' hh
 have key:∀l:List St,(∀s∈l,∀h∈stoS s,∃nm,exprE nm nb h.val=0/\parts h.val<=32)->∀h∈stoLL l,∃nm,exprE nm nb h.val=0/\parts h.val<=32:=by
  intro l
  induction l with
  | nil=>intro _ h hh;simp[stoLL] at hh
  | cons s l ihl=>
   intro h1 h hh;simp only[stoLL,List.mem_append] at hh;rcases hh with hh|hh
   ·exact h1 s (List.mem_cons_self ..) h hh
   ·exact ihl (fun s hs=>h1 s (List.mem_cons_of_mem _ hs)) h hh
 simp only[stoS,List.mem_append] at hh;rcases hh with hh|hh
 ·split at hh
  ·rename_i h3
   rw[List.mem_singleton.1 hh];cases hF with
   | loop _ _ _ h9=>omega
   | when _ _ _ h9=>omega
   | store _ _ _ _ _ _ hx hf=>exact⟨_,hx,by have:=(fits_iff.1 hf).1;omega⟩
  ·simp at hh
 ·refine key b (fun s hs=>?_) h' hh
  cases hF with
  | loop _ _ _ _ _ _ _ _ _ _ _ h9=>exact ih s hs _ (h9 s hs)
  | when _ _ _ _ _ _ _ h9=>exact ih s hs _ (h9 s hs)
  | store=>simp at hs
def wdB (body:List St)(j:Nat):Nat:=match (stoLL body)[j]? with|none=>1|some h=>rdE h.val+1
theorem stoLL_mem {l:List St}{h:SH}(hh:h∈stoLL l):∃s∈l,h∈stoS s:=by
 induction l with
 | nil=>simp[stoLL] at hh
 | cons s l ih=>
  simp only[stoLL,List.mem_append] at hh;rcases hh with hh|hh
  ·exact⟨s,List.mem_cons_self ..,hh⟩
  ·obtain⟨t,h1,h2⟩:=ih hh;exact⟨t,List.mem_cons_of_mem _ h1,h2⟩
theorem wdB_le {nb:Nat}{body:List St}(hF:∀s∈body,Fd nb [] s)(j:Nat):wdB body j<=10000000:=by
 unfold wdB;split
 ·omega
 ·rename_i h hj
  obtain⟨s,hs,hh⟩:=stoLL_mem (List.mem_of_getElem? hj);obtain⟨nm,h1,h2⟩:=sto_fd s [] (hF s hs) h hh;have:=rdE_le h.val h1;omega
def sumI (l:List Inst):Nat:=(l.map fun i=>rdE i.s.val+1).sum
def smallB (body:List St):Bool:=decide ((instL [] 0 body).length<=2000)&&decide (sumI (instL [] 0 body)<=20000)
theorem sumW_sumI {body:List St}:∀l:List Inst,(∀i∈l,(stoLL body)[i.no]? = some i.s)->sumW (wdB body) l=sumI l
 | [],_=>rfl
 | i :: l,h=>by
  have e:=h i (List.mem_cons_self ..);have h2:=sumW_sumI l fun i hi=>h i (List.mem_cons_of_mem _ hi)
  unfold sumW sumI at h2⊢;simp only[List.map_cons,List.sum_cons,h2];congr 1
  simp[wdB,e]
theorem few_end {W:Nat->Nat}:∀(l d:List Inst),(d.length<=2000/\sumW W d<=20000)->
  (decide ((goL (fewG W) d l).1.length<=2000)&&decide (sumW W (goL (fewG W) d l).1<=20000))=(decide ((d ++ l).length<=2000)&&decide (sumW W (d ++ l)<=20000))
 | [],d,h=>by rw[show goL (fewG W) d []=(d,true) from rfl,List.append_nil]
 | i :: l,d,h=>by
  cases hg:fewG W d i
  ·rw[goL_no hg];have e1:sumW W (d ++ [i])=sumW W d+W i.no:=sumW_snoc W d i;have e2:sumW W (d ++ i :: l)=sumW W d+W i.no+sumW W l:=by simp[sumW];omega
   unfold fewG at hg;rw[Bool.eq_iff_iff];simp only[Bool.and_eq_true,decide_eq_true_eq,e1,e2,List.length_append,List.length_cons,List.length_nil];simp only[Bool.and_eq_false_iff,decide_eq_false_iff_not] at hg;constructor
   ·rintro⟨a,b⟩;rcases hg with hg|hg<;>omega
   ·rintro⟨a,b⟩;rcases hg with hg|hg<;>omega
  ·rw[goL_yes hg];unfold fewG at hg;simp only[Bool.and_eq_true,decide_eq_true_eq] at hg;rw[few_end l (d ++ [i]) ⟨by simp;omega,by rw[sumW_snoc];exact hg.2⟩];simp
theorem keepA {w w4 w5:World}{r a:Nat}(h1:Ext [r] w w4)(h2:Ext [a,a+1] w4 w5)(h:w.heap.size<=r/\w.heap.size<=a):Ext [] w w5:=by
 have h0:Ext [] w w4:=h1.mono fun x hx=>.inr (by rw[List.mem_singleton.1 hx];exact h.1)
 refine h0.step h2 fun x hx=>.inr ?_
 rcases List.mem_cons.1 hx with rfl|hx
 ·exact h.2
 ·rw[List.mem_singleton.1 hx];omega
set_option maxHeartbeats 16000000 in
set_option maxRecDepth 100000 in
theorem small_any (bs:List Bf)(cb n:Nat)(bA:Option Addr)(nbb bc:Nat)(body:List St)(gs:List Nat)(gA:Option Addr)(gc:Nat)(L:List Nat)(AL:List Value)(sA:Option Addr)(sc:Nat)(v1 av:Value)(w:World)
  (hC:CodeAt w n cb bA nbb bc body gs gA gc L AL sA sc v1 av) (hF:∀s∈body,Fd bs.length [] s) (hg:gs.length<=1000000) (hL:L.length<=3000) (hn:n<=w.heap.size) :
  Calls Tryz.prog 92 #[.pointer (some ⟨cb,0,none⟩)] w (HasP (smallB body) w):=by
 have HC:=hd hC;have HF:=hd hF;have HW:=hd (wdB_le hF);have hcb:=hC.cbn;generalize hln:L.length=len at *;have HLN:=hd hln;clear hC hF hln
 have hmk:∀W:World,(Instr.makeSlice 22 (.int .i64 len) (.int .i64 len)).run Tryz.prog W=.ok (.slice (some ⟨W.heap.size,0,none⟩) len len) (W.alloc (.cells (madeCells #[.int .i64 0] len) 3)):=fun W=>by
  rw[run_make_row' 22 3 (.int .i64 0) 8 Tryz.underlying22 (by kernel_rfl) rfl .i64 .i64 len (by omega) (by omega) W]
 have qc:=HC.o.blk.cell;rw[HLN.o] at qc;have qcl:=HC.o.blk.lt;go_enter Tryz.func92,Tryz.ntmps92
 go_upto_region 2 with fail
 have HE1:=hd (((Ext.refl [] w).alloc (.cells (madeCells #[.int .i64 0] len) 3)).alloc (.cells #[.slice (some ⟨w.heap.size,0,none⟩) len len] 22));have HBR:=hd ((Blk.new w 3 (madeCells #[.int .i64 0] len)).alloc (.cells #[.slice (some ⟨w.heap.size,0,none⟩) len len] 22));have HBP:=hd (Blk.new (w.alloc (.cells (madeCells #[.int .i64 0] len) 3)) 22 #[.slice (some ⟨w.heap.size,0,none⟩) len len]);rw[alloc_size] at HBP;have hw1:((w.alloc (.cells (madeCells #[.int .i64 0] len) 3)).alloc (.cells #[.slice (some ⟨w.heap.size,0,none⟩) len len] 22)).heap.size=w.heap.size+2:=by rw[alloc_size,alloc_size]
 have hcs:(madeCells #[Value.int .i64 0] len).size=len:=by simp[madeCells]
 generalize hM:madeCells #[Value.int .i64 0] len=MC at *;clear hM hmk;generalize World.alloc (World.alloc w _) _=w1 at *;generalize hr:w.heap.size=r at *;have HC1:=hd (HC.o.step HE1.o (by simp) (Nat.le_refl n));clear qc qcl;have qc:=HC1.o.blk.cell;rw[HLN.o] at qc;have qcl:=HC1.o.blk.lt;go_wp2_with fail
 clear qc qcl;go_loopw [19] (fun i wr=>∃k:Nat,i=.int .i64 k/\k<=len/\Hd (Ext [r] w1 wr)/\∃CC:Array Value,CC.size=len/\Hd (Blk wr r 3 CC)/\Hd (∀j,j<k->CC[j]? = some (.int .i64 (wdB body j:Nat)))) (fun i _=>(len-intOf i).toNat)
 case atStart=>exact⟨0,rfl,Nat.zero_le _,hd (Ext.refl _ _),MC,hcs,HBR,hd fun j hj=>absurd hj (by omega)⟩
 case round=>
  obtain⟨k,rfl,hk,HE,CC,hCC,HB,HN⟩:=hrel;rename World=>wq
  have HCq:=hd (HC1.o.step HE.o (fun x hx=>by rw[List.mem_singleton.1 hx];omega) (Nat.le_refl n));have HPq:=hd (HBP.o.ext HE.o (by rw[List.mem_singleton];omega));by_cases hlt:k<len
  ·obtain⟨g,nm,h,e1,e2,e3,e4⟩:=HCq.o.sto HF.o k (by rw[HLN.o];exact hlt);obtain⟨⟨pb,po,vb,n',T,-,-,q16,hcx⟩,-,-,-,hxv,-⟩:=e2;obtain⟨s,hs,hh⟩:=stoLL_mem (List.mem_of_getElem? e3);have hp32:=(sto_fd s [] (HF.o s hs) h hh).elim fun _ x=>x.2
   have HWD:=hd (fun W (hW:Ext [] wq W)=>width_any nm bs.length h.val hxv (by omega) nm vb n' T W (hcx.step hW (by simp) (Nat.le_refl n') fun y hy=>.inl hy));have hwk:wdB body k=rdE h.val+1:=by unfold wdB;rw[e3]
   have hwl:=HW.o k;rw[hwk] at hwl;have HWK:=hd hwk;have HQ16:=hd q16;have hgl:=World.block_lt_of_cell? wq _ q16;simp only at hgl;obtain⟨bb,g2,rfl,hg2,hgc⟩:=SeqIn.at (show SeqIn wq sA 1 ptC L from HCq.o.rowS.1) (i:=k) (by rw[HLN.o];exact hlt);have:g2=g:=by rw[hg2] at e1;cases e1;rfl
   subst this;have qa:wq.cell? ⟨bb,k,none⟩=some (.pointer (some ⟨g2,0,none⟩)):=by have:=hgc 0 _ rfl;rw[Nat.mul_one,Nat.add_zero] at this;exact this
   have qal:=World.block_lt_of_cell? wq _ qa;simp only at qal;generalize rdE h.val=x at *;clear e1 e3 hxv hcx hs hh hp32 q16 hg2 hgc hwk;unfold ptV at HQ16 HWD;go_wp2_with fail
   refine wp_region_rel 9 (JE _) (Ext []) (kinds [(6,sFix (.int .i64 (x:Nat)))]) (by kernel_rfl) (by kernel_rfl) JE.less ?_ JE.start ?_
   ·repeat(first|exact Stays.nil|refine Stays.cons sFix.stays ?_)
   simp only[List.take_succ_cons,List.take_zero,List.drop_succ_cons,List.drop_zero]
   repeat
    refine relAt_det rfl rfl ?_
    apply Exists.intro
    refine⟨fun wr nr hJ=>?_,?_⟩
    ·have q:=hJ.held HQ16.o (by simp);have ql:=World.block_lt_of_cell? wr _ q;simp only at ql;have qp:=(HPq.o.ext hJ (by simp)).cell;have qpl:=(HPq.o.ext hJ (by simp)).lt;clear hJ;(go_simp;try go_bits)
     first|rfl|exact⟨rfl,rfl⟩
    simp only[Act.put,List.setIfInBounds_toArray,List.set_cons_succ,List.set_cons_zero]
   refine rel_fix rfl rfl ?_ ?_
   ·apply Exists.intro
    apply Exists.intro
    refine⟨fun wr=>?_,fun wr nr hJ=>?_⟩
    ·go_simp
     first|exact⟨rfl,rfl⟩|rfl
    ·exact(HWD.o wr hJ).mono (by rintro e w' ⟨rfl,hE⟩;exact⟨rfl,hE⟩)
   simp only[Act.put,List.setIfInBounds_toArray,List.set_cons_succ,List.set_cons_zero]
   repeat
    refine relAt_det rfl rfl ?_
    apply Exists.intro
    refine⟨fun wr nr hJ=>?_,?_⟩
    ·have qb:=(HB.o.ext hJ (by simp)).lt;clear hJ;(go_simp;try go_bits)
     first|rfl|exact⟨rfl,rfl⟩
    simp only[Act.put,List.setIfInBounds_toArray,List.set_cons_succ,List.set_cons_zero]
   refine relAt_nil (fun w2 hJ hF=>?_)
   have HX2:=hd (HE.o.step hJ fun x hx=>by cases hx);have HB2:=hd (HB.o.ext hJ (by simp));clear hF hJ;obtain⟨v0,hv0⟩:∃v0,CC[k]? = some v0:=⟨_,Array.getElem?_eq_getElem (by omega)⟩;have qv:w2.cell? ⟨r,k,none⟩=some v0:=by rw[HB2.o.cell];exact hv0
   have qf:=HB2.o.frozen;have ql:=HB2.o.lt;have HB3:=hd (HB2.o.set_ k (.int .i64 (x+1)));have HE3:=hd (Ext.setAt (b:=r) (i:=k) (u:=.int .i64 (x+1)) (.inl (by simp)) HX2.o);clear hv0;go_wp2_with fail
   go_roundw
   case rel=>
    refine⟨k+1,by go_num,by omega,HE3,_,by rw[Array.size_setIfInBounds];exact hCC,HB3,hd fun j hj=>?_⟩
    rw[Array.getElem?_setIfInBounds];by_cases hjk:k=j
    ·subst hjk;rw[if_pos rfl,if_pos (by omega),HWK.o];rfl
    ·rw[if_neg hjk];exact HN.o j (by omega)
   case measure=>simp[intOf];omega
  ·have hkl:k=len:=by omega
   subst hkl;have HRW:Hd (∀j,j<k->wq.cell? ⟨r,j,none⟩=some (.int .i64 (wdB body j:Nat))):=hd fun j hj=>by rw[HB.o.cell];exact HN.o j hj
   have hwq:=HE.o.size;clear HN HB;have HE4:=hd (((Ext.refl [] wq).alloc (.cells #[.int .i64 0] 3)).alloc (.cells #[.int .i64 0] 3));have HB4:=hd ((Blk.new wq 3 #[.int .i64 0]).alloc (.cells #[.int .i64 0] 3));have HB5:=hd (Blk.new (wq.alloc (.cells #[.int .i64 0] 3)) 3 #[.int .i64 0]);rw[alloc_size] at HB5;have hw4:((wq.alloc (.cells #[.int .i64 0] 3)).alloc (.cells #[.int .i64 0] 3)).heap.size=wq.heap.size+2:=by rw[alloc_size,alloc_size]
   go_upto_region 8 with fail
   generalize World.alloc (World.alloc wq _) _=w4 at *;generalize ha:wq.heap.size=a at *;have hra:r+2<=a:=by omega
   have HC4:=hd (HCq.o.step HE4.o (by simp) (Nat.le_refl n));have HP4:=hd (HPq.o.ext HE4.o (by simp));have HE04:=hd (((HE1.o.nil:Ext [r] w w1).trans HE.o).step HE4.o (by simp));have HRW4:Hd (∀j,j<k->w4.cell? ⟨r,j,none⟩=some (.int .i64 (wdB body j:Nat))):=hd fun j hj=>HE4.o.held (HRW.o j hj) (by simp)
   have HI4:Hd (∀W,Ext [] w4 W->SmlI (wdB body) k a (a+1) (r+1) r [] W):=hd fun W hW=>⟨HB4.o.ext hW (by simp),HB5.o.ext hW (by simp),HP4.o.ext hW (by simp),fun j hj=>hW.held (HRW4.o j hj) (by simp)⟩
   have HDO:Hd (∀eb,w4.heap.size<=eb->DoC 138 #[.pointer (some ⟨a,0,none⟩),.pointer (some ⟨a+1,0,none⟩),.pointer (some ⟨r+1,0,none⟩)] [a,a+1] n bs.length eb L (fewG (wdB body)) (SmlI (wdB body) k a (a+1) (r+1) r)):=hd fun eb he=>by
    refine⟨enters_sml,fun x hx=>?_,?_,?_⟩
    ·rcases List.mem_cons.1 hx with rfl|hx
     ·exact⟨by omega,by omega⟩
     ·rw[List.mem_singleton.1 hx];exact⟨by omega,by omega⟩
    ·rintro d w w' hE ⟨k1,k2,k3,k4⟩;exact⟨k1.ext hE (by rw[List.mem_singleton];omega),k2.ext hE (by rw[List.mem_singleton];omega),k3.ext hE (by rw[List.mem_singleton];omega),fun j hj=>hE.held (k4 j hj) (by simp only[List.mem_singleton];omega)⟩
    ·intro d i g names vs w hI hLast hS hLi hV hl he';have hno:=(List.getElem?_eq_some_iff.1 hLi).1;rw[HLN.o] at hno
     have hap:∀b v,Blk w b 3 #[v]->g≠b:=fun b v hb e=>by
      have h5:=hS.no;rw[e,hb.cell] at h5;cases h5
     exact sml_any (wdB body) (fun j=>by have:=HW.o j;omega) k a (a+1) (r+1) r g _ d i w hI (fewG_last hLast) hno hS.no (by omega) (by omega) (by omega) (by omega) (by omega) (hap _ _ hI.1) (hap _ _ hI.2.1)
   have HCW:=hd (cwalk_any body 138 #[.pointer (some ⟨a,0,none⟩),.pointer (some ⟨a+1,0,none⟩),.pointer (some ⟨r+1,0,none⟩)] [a,a+1] cb bs.length n bA nbb bc gs gA gc L AL sA sc v1 av (fewG (wdB body)) (SmlI (wdB body) k a (a+1) (r+1) r) w4 HC4.o HF.o hg (by omega) HDO.o HI4.o);clear HB4 HB5 HRW HRW4 HI4 HDO HP4 HC4 HPq HCq;go_wp2_with fail
   refine HCW.o.mono ?_
   rintro e w5 ⟨rfl,hE,hI⟩;have HE5:Hd (Ext [] w w5):=hd (keepA HE04.o hE (by rw[hr];omega));have HD5:=hd hI
   have HFIN:Hd (smallB body=(decide ((goL (fewG (wdB body)) [] (instL [] 0 body)).1.length<=2000)&&decide (sumW (wdB body) (goL (fewG (wdB body)) [] (instL [] 0 body)).1<=20000))):=hd (by
    rw[few_end _ [] (by simp[sumW]),List.nil_append,sumW_sumI _ (noOk_any HF.o)];rfl)
   clear hE hI HCW;generalize (goL (fewG (wdB body)) [] (instL [] 0 body)).1=dd at *;have qn:=HD5.o.1.cell;have qnl:=HD5.o.1.lt;have qt:=HD5.o.2.1.cell;have qtl:=HD5.o.2.1.lt;generalize dd.length=dl at *;generalize sumW (wdB body) dd=ds at *;by_cases hm:dl<=2000
   ·go_wp2_with fail
    go_ret
    exact⟨ret_bool (by rw[HFIN.o,decide_eq_true hm,Bool.true_and,decide_eq_decide];omega),HE5.o⟩
   ·go_wp2_with fail
    go_ret
    exact⟨ret_bool (by rw[HFIN.o,decide_eq_false hm,Bool.false_and]),HE5.o⟩
end Go.Proofs.YtfppibmloloakaaGreatDoor
