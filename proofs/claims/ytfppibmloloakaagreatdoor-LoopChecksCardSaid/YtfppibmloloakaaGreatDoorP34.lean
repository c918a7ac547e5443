import Derived.Test.YtfppibmloloakaaGreatDoorP32
import Derived.Test.YtfppibmloloakaaGreatDoorP33
import Derived.Test.YtfppibmloloakaaGreatDoorP18
namespace Go.Proofs.YtfppibmloloakaaGreatDoor
open Go.RowKit Go.Proofs.Tryz
set_option linter.all false
structure EnvG (env:Env)(names:List ByteArray):Prop where
 bdd:∀p∈env,Bdd p.2
 len:env.length<=8
 nam:env.map Prod.fst=names
 size:∀x∈names,ByteArray.size x<=8
theorem lk_bdd {env:Env}(h:∀p∈env,Bdd p.2)(v:ByteArray):Bdd (lk env v):=by
 unfold lk;cases hf:env.find? (fun p=>eqS p.1 v) with
 | none=>exact⟨by decide,by decide⟩
 | some p=>exact h p (List.mem_of_find?_eq_some hf)
structure AfG (a:Af):Prop where
 base:Bdd a.base
 len:a.ts.length<=10
 num:∀t∈a.ts,Bdd t.2
 size:∀t∈a.ts,t.1.size<=1000000
theorem AfG.of {names:List ByteArray}{a:Af}(h:affE names a=0)(hn:∀x∈names,x.size<=8):AfG a:=by
 obtain⟨h1,h2,h3,h4,h5⟩:=affE_spec h;refine⟨bdd_iff.1 h2,h1,fun t ht=>?_,fun t ht=>?_⟩
 ·have:=List.any_eq_false.1 h3 t ht;unfold badT at this;simp at this;exact bdd_iff.1 this.1
 ·have:=List.any_eq_false.1 h5 t ht;unfold strayT at this;simp at this;unfold hasS at this;obtain⟨x,hx,he⟩:=List.any_eq_true.1 this;have hs:=hn x hx;have:=congrArg List.length ((eqS_iff _ _).1 he);simp only[ByteArray.toList_eq,Array.length_toList] at this;have e1:x.size=x.data.size:=rfl;have e2:t.1.size=t.1.data.size:=rfl;omega
def partA (env:Env)(a:Af)(k:Nat):Int:=(a.ts.take k).foldl (fun n t=>n+t.2*lk env t.1) a.base
theorem partA_succ {env:Env}{a:Af}{k:Nat}{t:ByteArray×Int}(h:a.ts[k]? = some t):partA env a (k+1)=partA env a k+t.2*lk env t.1:=by
 unfold partA;rw[take_snoc h,foldl_snoc]
theorem partA_bdd {env:Env}{a:Af}(h:AfG a)(he:∀p∈env,Bdd p.2):∀k,k<=a.ts.length->-(100000+k*10000000000:Int)<=partA env a k/\partA env a k<=100000+k*10000000000
 | 0,_=>by have:=h.base;unfold Bdd at this;simp[partA];omega
 | k+1,hk=>by
  have ih:=partA_bdd h he k (by omega);have hx:=List.getElem?_eq_getElem (show k<a.ts.length by omega);rw[partA_succ hx];have:=mul_bdd (h.num (a.ts[k]'(by omega)) (List.getElem_mem ..)) (lk_bdd he (a.ts[k]'(by omega)).1);push_cast
  omega
theorem partA_all {env:Env}{a:Af}{k:Nat}(h:a.ts.length<=k):partA env a k=evA env a:=by unfold partA evA;rw[List.take_of_length_le h]
theorem evA_bdd {env:Env}{a:Af}(h:AfG a)(he:∀p∈env,Bdd p.2) : -1000000000000<=evA env a/\evA env a<=1000000000000:=by
 have:=partA_bdd h he _ (Nat.le_refl _);rw[partA_all (Nat.le_refl _)] at this;have:=h.len;omega
set_option maxHeartbeats 4000000 in
set_option maxRecDepth 100000 in
theorem atR_any (a:Af)(mb:Nat)(env:Env)(w:World)(ha:AfIn w a)(hg:AfG a)(hm:SMap w mb env)(he:∀p∈env,Bdd p.2) :
  Calls Tryz.prog 84 #[afV a,.map (some mb)] w fun e w'=>e=.returned (.int .i64 (evA env a))/\Ext [] w w':=by
 have HPB:=hd (partA_bdd hg he);have HPS:=hd (fun k t=>@partA_succ env a k t);have HPA:=hd (fun k=>@partA_all env a k);have HG:=hd hg;have HM:=hd hm;have HLB:=hd (lk_bdd he);have hp0:partA env a 0=a.base:=rfl;generalize evA env a=E at *;generalize partA env a=F at *;obtain⟨base,tA,tc,ts⟩:=a;generalize ht:ts.length=n;have hn9:n<=10:=by have:=hg.len;simp only at this;omega
 have HA:Hd (SeqIn w tA 2 tmC ts):=hd ha;have HT:=hd ht;clear ha hg hm he;unfold afV;simp only[ht];simp only at hp0 HPB HPS HPA;clear ht;have HP0:=hd hp0;clear hp0;have HE0:=hd ((Ext.refl [] w).alloc (.cells #[.int .i64 base,.slice tA n tc] 38));go_enter Tryz.func84,Tryz.ntmps84
 go_wp2_with fail
 generalize World.alloc w _=w0 at *;go_loopw [5,13] (fun z i wr=>∃k:Nat,i=.int .i64 k/\z=.int .i64 (F k)/\k<=n/\Hd (Ext [] w wr)) (fun _ i _=>(n-intOf i).toNat)
 case atStart=>exact⟨0,rfl,by rw[HP0.o],Nat.zero_le _,HE0⟩
 case round=>
  obtain⟨k,rfl,rfl,hk,HE⟩:=hrel;rename World=>wq
  by_cases hlt:k<n
  ·obtain⟨b,⟨x0,x1⟩,rfl,hx,hc⟩:=(HA.o.keep HE.o).at (i:=k) (by have:=HT.o;omega);have g0:=hc 0 _ rfl;have g1:=hc 1 _ rfl;rw[Nat.add_zero] at g0;have HX:=hd (HPS.o k _ hx);have hmem:=List.mem_of_getElem? hx;have HEx:=hd (HE.o.alloc (.cells #[.string x0,.int .i64 x1] 178));have hlk:=(HM.o.ext HEx.o List.not_mem_nil).look (HG.o.size _ hmem);have hb1:=HG.o.num _ hmem;have hb2:=HLB.o x0;have hb3:=mul_bdd hb1 hb2;have hb4:=HPB.o k (by have:=HT.o;omega);have hb5:=HPB.o (k+1) (by have:=HT.o;omega);rw[HX.o] at hb5;simp only at hlk hb1 hb2 hb3 hb4 hb5 HX;generalize lk env x0=y at *;unfold Bdd at hb1 hb2;have HB5:=hd hb5;have hnk:(k:Int)<=10:=by omega
   generalize F k=fk at *;have m1 : -9223372036854775808<=x1*y:=by omega
   have m2:x1*y<=9223372036854775807:=by omega
   have m3 : -9223372036854775808<=fk+x1*y:=by omega
   have m4:fk+x1*y<=9223372036854775807:=by omega
   clear hx hc hmem hb5 hb1 hb2 hb3 hb4 hnk;go_wp2_with fail
   go_roundw
   case rel=>exact⟨k+1,by go_num,by rw[HX.o],by omega,HEx⟩
   case measure=>simp[intOf];omega
  ·have HF:=hd (HPA.o k (by have:=HT.o;omega));go_wp2_with fail
   go_ret
   exact⟨ret_int HF.o,HE.o⟩
def StoresC (l:List St):Prop:=∀(A:Option Addr) (n cap:Nat) (w:World),SeqIn w A 21 stC l->(∀s∈l,StIn w s)->l.length=n->storesL l<=3000->Calls Tryz.prog 89 #[.slice A n cap] w fun e w'=>e=.returned (.int .i64 (storesL l:Nat))/\Ext [] w w'
set_option maxHeartbeats 8000000 in
set_option maxRecDepth 100000 in
theorem stores_list (l:List St)(ih:∀s∈l,StoresC s.body):StoresC l:=by
 intro A n cap w hR hS hn h3;have hn9:n<=1000000:=by have:=hR.1;omega
 have HI:=hd ih;have HR:=hd hR;have HS:=hd hS;have HN:=hd hn;have H3:=hd h3;clear ih hR hS hn h3;go_enter Tryz.func89,Tryz.ntmps89
 go_wp2_with fail
 go_loopw [3,8] (fun z i wr=>∃k:Nat,i=.int .i64 k/\z=.int .i64 (storesL (l.take k):Nat)/\k<=n/\Hd (Ext [] w wr)) (fun _ i _=>(n-intOf i).toNat)
 case atStart=>exact⟨0,rfl,by simp[storesL],Nat.zero_le _,hd (Ext.refl _ _)⟩
 case round=>
  obtain⟨k,rfl,rfl,hk,HE⟩:=hrel;rename World=>wq
  by_cases hlt:k<n
  ·obtain⟨b,x,rfl,hx,hc⟩:=(HR.o.keep HE.o).at (i:=k) (by have:=HN.o;omega);obtain⟨h,bs⟩:=x;have HXK:=hd hx;have hmem:=List.mem_of_getElem? hx;have hXA:=(HS.o _ hmem).all;have HTK:=hd (storesL_take hx);have hle:=storesL_le hx;have hle3:storesL (l.take k)+storesS (.mk h bs)<=3000:=Nat.le_trans hle H3.o;have hsb:storesS (.mk h bs)=(if h.k=3 then 1 else 0)+storesL bs:=by rw[storesS]
   have HSB:=hd hsb;have hb3:storesL bs<=3000:=by have:(0:Nat)<=if h.k=3 then 1 else 0:=Nat.zero_le _;omega
   have hIB:StoresC bs:=HI.o _ hmem;have HCALL:=hd (fun W (hW:Ext [] w W)=>hIB h.A bs.length h.cap W (hXA.2.2.2.2.2.2.1.keep hW) (fun s hs=>(hXA.2.2.2.2.2.2.2 s hs).keep hW) rfl hb3);have HW:=hd (fun j v hv=>hc j v hv:∀(j:Nat) (v:Value),(stArr h bs.length h.val.h h.val.ks.length).toList[j]? = some v->wq.cell? ⟨b,k*21+j,none⟩=some v);have HB0:=hd (Blk.new wq 43 (stArr h bs.length h.val.h h.val.ks.length));have HEx:=hd (HE.o.alloc (.cells (stArr h bs.length h.val.h h.val.ks.length) 43));obtain⟨a0,a1,a2,a3,a4,a5,a6,a7,-⟩:=stArr_get h bs.length h.val.h h.val.ks.length;have HSZ:=hd (show(Tryz.prog.info? 43).map (·.size)=some (stArr h bs.length h.val.h h.val.ks.length).size from infoSt);have HZS:=hd (show zSt.size=(stArr h bs.length h.val.h h.val.ks.length).size from rfl);have HON:=hd (stArr_one h bs.length h.val.h h.val.ks.length);clear hx hc hmem hXA hle hsb hIB;generalize stArr h bs.length h.val.h h.val.ks.length=arr at *;generalize hP:storesL (l.take k)=P at *;generalize hL:storesL bs=L at *;clear hP hL;have hq:∀c:Prop,[Decidable c]->(if c then 1 else 0:Nat)<=1:=fun c _=>by split<;>omega
   have hs9:P+L<=3000:=by have h1:=HSB.o;have h2:(0:Nat)<=if h.k=3 then 1 else 0:=Nat.zero_le _;omega
   clear hq
   go_upto_region 5 with(first
    | refine wpList_load_wide rfl 43 _ rfl b (k*21) rfl arr HW.o _ Tryz.underlying43 rfl HSZ.o ?_
    | refine wpList_make_wide rfl rfl 43 _ _ rfl rfl zSt (zSt_run _) arr rfl rfl HSZ.o HZS.o HON.o ?_)
   generalize World.alloc wq _=w1 at *;generalize wq.heap.size=s1 at *;have qb:=HB0.o.cell;have qbl:=HB0.o.lt;clear HW HZS HON HB0;by_cases hk3:h.k=3
   ·have HS1:=hd (show storesS (.mk h bs)=1+L by rw[HSB.o,if_pos hk3]);have hk3':(h.k==3)=true:=by simpa using hk3
    clear hk3 hle3;have h99:P+(1+L)<=3001:=by omega
    go_wp2_with fail
    refine(HCALL.o _ HEx.o).mono ?_
    rintro r w2 ⟨rfl,hE⟩;have HE2:=hd (HEx.o.trans hE);clear hE;go_wp2_with fail
    go_roundw
    case rel=>exact⟨k+1,by go_num,by rw[HTK.o,HS1.o];congr 1;push_cast;omega,by omega,HE2⟩
    case measure=>simp[intOf];omega
   ·have HS1:=hd (show storesS (.mk h bs)=L by rw[HSB.o,if_neg hk3,Nat.zero_add]);have hk3':(h.k==3)=false:=by simpa using hk3
    clear hk3 hle3;go_wp2_with fail
    refine(HCALL.o _ HEx.o).mono ?_
    rintro r w2 ⟨rfl,hE⟩;have HE2:=hd (HEx.o.trans hE);clear hE;go_wp2_with fail
    go_roundw
    case rel=>exact⟨k+1,by go_num,by rw[HTK.o,HS1.o];first|rfl|(congr 1;done)|(congr 1;push_cast;omega),by omega,HE2⟩
    case measure=>simp[intOf];omega
  ·have hkn:k=n:=by omega
   subst hkn;have HT:Hd (l.take k=l):=hd (List.take_of_length_le (by have:=HN.o;omega));go_wp2_with fail
   go_ret
   exact⟨ret_int (by rw[HT.o]),HE.o⟩
theorem stores_any:∀s:St,StoresC s.body:=st_ind fun h b ih=>stores_list b ih
def wkA (m s n:Int)(v:Value):Array Value:=#[.int .i64 m,.int .i64 s,.int .i64 n,v]
set_option maxRecDepth 100000 in
set_option maxHeartbeats 4000000 in
theorem step_any (wb:Nat)(m s n:Int)(v:Value)(w:World)(hb:Blk w wb 84 (wkA m s n v))(hs:0<=s/\s<=1000000000)(hm:0<=m/\m<=1000000000) :
  Calls Tryz.prog 86 #[.pointer (some ⟨wb,0,none⟩)] w fun e w'=>e=.returned (.bool (decide (s+1<=m)))/\Ext [wb] w w'/\Blk w' wb 84 (wkA m (s+1) n v):=by
 have HB:=hd hb;have qc:=hb.cell;have qf:=hb.frozen;have qcl:=hb.lt;clear hb;unfold wkA at *;have HB1:Hd (Blk (w.setCell ⟨wb,1,none⟩ (.int .i64 (s+1))) wb 84 #[.int .i64 m,.int .i64 (s+1),.int .i64 n,v]):=hd (HB.o.set_' 1 (.int .i64 (s+1)) _ rfl);have HE1:=hd (Ext.setAt (b:=wb) (i:=1) (u:=.int .i64 (s+1)) (.inl (by simp)) (Ext.refl [wb] w));go_enter Tryz.func86,Tryz.ntmps86
 go_upto_region 2 with fail
 generalize World.setCell _ _ _=w1 at *;clear qc qf qcl HB;have qc:=HB1.o.cell;have qcl:=HB1.o.lt;go_wp2_with fail
 go_region
 go_wp2_with fail
 go_ret
 exact⟨ret_bool rfl,HE1.o.drewN _,HB1.o.drewN _⟩
section
theorem inEL_all {bs:List Bf}{env:Env}:∀ks:List Ex,(ks.any fun e=>!inE bs env e) = !inEL bs env ks
 | []=>rfl
 | e :: ks=>by
  simp only[List.any_cons,inEL,inEL_all ks];cases inE bs env e<;>simp
def BufG (w:World)(bA:Option Addr)(bs:List Bf):Prop:=SeqIn w bA 4 bfC bs/\∀b∈bs,1<=b.size/\b.size<=262144
theorem BufG.keep {w w':World}{bA:Option Addr}{bs:List Bf}(h:BufG w bA bs)(hE:Ext [] w w'):BufG w' bA bs:=⟨h.1.keep hE,h.2⟩
theorem enters_outOne:∀args w,(callFunc 131 args).run Tryz.prog w=.ok (.enter 131 args) w:=by
 obtain⟨c,hc⟩:∃c,Tryz.f131.body=some c:=⟨_,rfl⟩;exact fun args w=>enters_of Tryz.func131 (by kernel_rfl) hc args w
set_option maxRecDepth 100000 in
theorem outOne_any (x:Ex)(pb vb mb:Nat)(bA:Option Addr)(nb bc:Nat)(v1:Value)(t:Bool)(w:World)(hp:Blk w pb 29 #[.slice bA nb bc,v1])(hv:Blk w vb 85 #[.map (some mb)])
  (hc:∀W,Ext [] w W->Calls Tryz.prog 85 #[.agg #[.slice bA nb bc,v1],exV x,.map (some mb)] W (HasP t W)) :
  Calls Tryz.prog 131 (#[exV x] ++ #[.pointer (some ⟨pb,0,none⟩),.pointer (some ⟨vb,0,none⟩)]) w (HasP t w):=by
 have HC:=hd hc;have qp:=hp.cell;have qpl:=hp.lt;have qv:=hv.cell;have qvl:=hv.lt;clear hc hp hv;obtain⟨⟨x0,x1,x2,x3,x4,x5,x6,⟨y0,y1,y2,y3⟩,x8,x9⟩,ks⟩:=x;dsimp only[exV,exHV] at *;generalize ks.length=n at *;generalize y3.length=m at *;have HE0:=hd ((Ext.refl [] w).alloc (.cells #[.int .i64 x0,.int .i64 x1,.int .i64 x2,.int .i64 x3,.int .i64 x4,.int .i64 x5,.int .i64 x6,.int .i64 y0,.slice y1 m y2,.slice x8 n x9] 41));go_enter Tryz.func131,Tryz.ntmps131
 go_wp2_with fail
 refine(HC.o _ HE0.o).mono ?_
 rintro r w1 ⟨rfl,hE⟩;have HE1:=hd (HE0.o.trans hE);clear hE;go_wp2_with fail
 go_ret
 exact⟨ret_bool rfl,HE1.o⟩
set_option maxHeartbeats 16000000 in
set_option maxRecDepth 100000 in
theorem outE_any:∀(e:Ex) (names:List ByteArray) (env:Env) (bA:Option Addr) (nb bc:Nat) (v1:Value) (bs:List Bf) (mb:Nat) (w:World),ExIn w e->exprE names nb e=0->BufG w bA bs->bs.length=nb->SMap w mb env->EnvG env names->
  Calls Tryz.prog 85 #[.agg #[.slice bA nb bc,v1],exV e,.map (some mb)] w (HasP (!inE bs env e) w):=by
 refine ex_ind fun h ks ih=>?_
 intro names env bA nb bc v1 bs mb w hX hx hB hnb hM hG;have HI:=hd ih;have HO:=hd (ExOk.of hx);have HAG:=hd (AfG.of (headX_spec (exprE_spec hx).1).2.2.2.2 hG.size);have HX:=hd hX;have HR:=hd hX.row;have HA:=hd hX.at
 have HB:=hd hB;have HM:=hd hM;have HG:=hd hG;have HNB:=hd hnb;have hn9:ks.length<=1000000:=hX.row.1;have HIN:Hd (inE bs env (.mk h ks)=(inX bs env h&&inEL bs env ks)):=hd (by rw[inE]);have HBD:=hd (evA_bdd HAG.o hG.bdd);have HAT:=hd (fun W (hW:Ext [] w W)=>atR_any h.at_ mb env W (hX.at.keep hW) HAG.o (hM.ext hW List.not_mem_nil) hG.bdd);clear ih hX hx hB hnb hM hG;show Calls _ _ #[_,exHV h ks.length,_] _ _
 have HKA:Hd ((ks.any fun e=>!inE bs env e) = !inEL bs env ks):=hd (inEL_all ks);have HL0:Hd (ks=[]->inEL bs env ks=true):=hd fun h=>by subst h;rfl
 generalize hn:ks.length=n at *;have HN:=hd hn;clear hn;have HE0:=hd ((((Ext.refl [] w).alloc (.cells #[.slice bA nb bc,v1] 29)).alloc (.cells (exHA h n) 41)).alloc (.cells #[.map (some mb)] 85));have HB3:=hd (((Blk.new w 29 #[.slice bA nb bc,v1]).alloc (.cells (exHA h n) 41)).alloc (.cells #[.map (some mb)] 85));have HB4:=hd ((Blk.new (w.alloc (.cells #[.slice bA nb bc,v1] 29)) 41 (exHA h n)).alloc (.cells #[.map (some mb)] 85));have HB5:=hd (Blk.new ((w.alloc (.cells #[.slice bA nb bc,v1] 29)).alloc (.cells (exHA h n) 41)) 85 #[.map (some mb)]);rw[alloc_sizeR] at HB4;rw[alloc_sizeR,alloc_sizeR] at HB5
 have HHK:Hd (∀e'∈ks,∀W,Ext [] w W->Calls Tryz.prog 85 #[.agg #[.slice bA nb bc,v1],exV e',.map (some mb)] W (HasP (!inE bs env e') W)):=hd fun e' he W hW=>
  HI.o e' he names env bA nb bc v1 bs mb W ((HX.o.kid he).keep hW) (HO.o.kids e' he) (HB.o.keep hW) HNB.o (HM.o.ext hW List.not_mem_nil) HG.o
 have HOO:=hd (show(h.k=1\/h.k=2\/h.k=3->ks=[])/\(h.k=4->(1<=h.n/\h.n<=100000)/\(1<=h.m/\h.m<=262144))/\(h.k=3\/h.k=4->0<=h.buf/\h.buf<nb) from⟨HO.o.none,fun h=>⟨(HO.o.one h).2.1,(HO.o.one h).2.2.1⟩,HO.o.buf⟩);have HINX:Hd (inX bs env h=if h.k=2 then isWd (evA env h.at_) else if h.k=3 then decide (0<=evA env h.at_)&&decide (evA env h.at_<sizeB bs h.buf) else if h.k=4 then decide (0<=evA env h.at_)&&decide (evA env h.at_+h.n*(h.m-1)<sizeB bs h.buf) else true):=hd rfl;generalize evA env h.at_=av at *;generalize inX bs env h=IX at *;generalize inEL bs env ks=IL at *;clear HI HX HO HAG HA;obtain⟨x0,x1,x2,x3,x4,x5,x6,⟨y0,y1,y2,y3⟩,x8,x9⟩:=h;dsimp only[exHV,exHA,afV] at *;generalize y3.length=m at *;go_enter Tryz.func85,Tryz.ntmps85
 go_upto_region 1 with fail
 generalize World.alloc (World.alloc (World.alloc w _) _) _=w2 at *;generalize w.heap.size=s at *;have q3:=HB3.o.cell;have q3l:=HB3.o.lt;have q4:=HB4.o.cell;have q4l:=HB4.o.lt;have q5:=HB5.o.cell;have q5l:=HB5.o.lt;go_wp2_with fail
 refine(HAT.o _ HE0.o).mono ?_
 rintro r w4 ⟨rfl,hE⟩;clear q3 q3l q4 q4l q5 q5l;have HE4:=hd (HE0.o.trans hE);have HC3:=hd (HB3.o.ext hE (by simp));have HC4:=hd (HB4.o.ext hE (by simp));have HC5:=hd (HB5.o.ext hE (by simp));have q3:=HC3.o.cell;have q3l:=HC3.o.lt;have q4:=HC4.o.cell;have q4l:=HC4.o.lt;have q5:=HC5.o.cell;have q5l:=HC5.o.lt;clear hE HE0 HB3 HB4 HB5 HAT
 have HKIDS:Hd (∀W,Ext [] w4 W->Calls Tryz.prog 130 #[.slice x8 n x9,.func (.func 131) #[] #[.pointer (some ⟨s,0,none⟩),.pointer (some ⟨s+2,0,none⟩)]] W (HasP (ks.any fun e=>!inE bs env e) W)):=hd fun W hW=>
  ex_has x8 n x9 ks 131 #[.pointer (some ⟨s,0,none⟩),.pointer (some ⟨s+2,0,none⟩)] (fun e=>!inE bs env e) W (HR.o.keep (HE4.o.trans hW)) HN.o ⟨enters_outOne,fun i x hx w' hE=>
   outOne_any x s (s+2) mb bA nb bc v1 _ w' (HC3.o.ext (hW.trans hE) (by simp)) (HC5.o.ext (hW.trans hE) (by simp)) fun W' hW'=>HHK.o x (List.mem_of_getElem? hx) W' (HE4.o.trans ((hW.trans hE).trans hW'))⟩
 clear HHK;by_cases h2:x0=2
 ·have HX2:=hd (show IX=isWd av by rw[HINX.o,if_pos h2]);have HL:=hd (HL0.o (HOO.o.1 (by omega)));subst h2;clear HINX HOO HB;go_wp2_with fail
  refine(wordR_any _ _).mono ?_
  rintro r w5 ⟨rfl,rfl⟩;cases hw:isWd av
  ·have HF:=hd (show(!inE bs env (.mk ⟨2,x1,x2,x3,x4,x5,x6,⟨y0,y1,y2,y3⟩,x8,x9⟩ ks))=true by rw[HIN.o,HX2.o,hw];rfl);clear hw;go_wp2_with fail
   go_ret
   exact⟨ret_bool HF.o.symm,HE4.o⟩
  ·have HW:=hd hw;clear hw;go_wp2_with fail
   refine(HKIDS.o _ (Ext.refl _ _)).mono ?_
   rintro e w6 ⟨rfl,hE⟩;have HE6:=hd (HE4.o.trans hE);clear hE HKIDS;go_wp2_with fail
   go_ret
   exact⟨ret_bool (by rw[HKA.o,HIN.o,HX2.o,HW.o,Bool.true_and]),HE6.o⟩
 ·by_cases h3:x0=3
  ·have HX3:=hd (show IX=(decide (0<=av)&&decide (av<sizeB bs x6)) by rw[HINX.o,if_neg h2,if_pos h3]);subst h3;clear HINX h2;have hbu:=HOO.o.2.2 (by omega);obtain⟨bi,rfl⟩:∃bi:Nat,x6=bi:=⟨x6.toNat,by omega⟩;have hbl:bi<bs.length:=by have:=HNB.o;omega
   obtain⟨bb,x,rfl,hbx,hbc⟩:=(HB.o.keep HE4.o).1.at hbl;have hxs:=HB.o.2 x (List.mem_of_getElem? hbx);have HSB:Hd (sizeB bs bi=x.size):=hd (sizeB_at hbu.1 (by rw[Int.toNat_natCast];exact hbx));have qs:w4.cell? ⟨bb,bi*4+1,none⟩=some (.int .i64 x.size):=hbc 1 _ rfl;have qbl:=World.block_lt_of_cell? w4 _ qs;simp only at qbl;have hbn:(bi:Int)<(nb:Int):=by have:=HNB.o;omega
   rw[HSB.o] at HX3;generalize x.size=sz at *;clear hbc hbx HOO hbl hbu;have HX4:=hd (show IX=btw av 0 (sz-1) by rw[HX3.o];unfold btw;congr 1;rw[decide_eq_decide];omega);clear HX3 HSB;go_wp2_with fail
   refine(within_any _ _ _ _).mono ?_
   rintro r w5 ⟨rfl,rfl⟩;cases hw:btw av 0 (sz-1)
   ·have HF:=hd (HIN.o.trans (by rw[HX4.o,hw,Bool.false_and]));clear hw;go_wp2_with fail
    go_ret
    exact⟨ret_bool (by rw[HF.o];rfl),HE4.o⟩
   ·have HW:=hd (HX4.o.trans hw);clear hw;go_wp2_with fail
    refine(HKIDS.o _ (Ext.refl _ _)).mono ?_
    rintro e w6 ⟨rfl,hE⟩;have HE6:=hd (HE4.o.trans hE);clear hE HKIDS;go_wp2_with fail
    go_ret
    exact⟨ret_bool (by rw[HKA.o,HIN.o,HW.o,Bool.true_and]),HE6.o⟩
  ·by_cases h4:x0=4
   ·have HX3:=hd (show IX=(decide (0<=av)&&decide (av+x4*(x5-1)<sizeB bs x6)) by rw[HINX.o,if_neg h2,if_neg h3,if_pos h4]);have hone:=HOO.o.2.1 h4;subst h4;clear HINX h2 h3;have hbu:=HOO.o.2.2 (by omega);obtain⟨bi,rfl⟩:∃bi:Nat,x6=bi:=⟨x6.toNat,by omega⟩;have hbl:bi<bs.length:=by have:=HNB.o;omega
    obtain⟨bb,x,rfl,hbx,hbc⟩:=(HB.o.keep HE4.o).1.at hbl;have hxs:=HB.o.2 x (List.mem_of_getElem? hbx);have HSB:Hd (sizeB bs bi=x.size):=hd (sizeB_at hbu.1 (by rw[Int.toNat_natCast];exact hbx));have qs:w4.cell? ⟨bb,bi*4+1,none⟩=some (.int .i64 x.size):=hbc 1 _ rfl;have qbl:=World.block_lt_of_cell? w4 _ qs;simp only at qbl;have hbn:(bi:Int)<(nb:Int):=by have:=HNB.o;omega
    rw[HSB.o] at HX3;generalize x.size=sz at *;clear hbc hbx HOO hbl hbu HSB;have hpr:0<=x4*(x5-1)/\x4*(x5-1)<=100000*262144:=⟨Int.mul_nonneg (by omega) (by omega),Int.mul_le_mul (by omega) (by omega) (by omega) (by omega)⟩;obtain⟨⟨n1,n2⟩,⟨m1,m2⟩⟩:=hone;have hbd:=HBD.o;generalize hpe:x4*(x5-1)=pr at *;have hpe1 : -9223372036854775808<=x4*(x5-1):=by rw[hpe];omega
    have hpe2:x4*(x5-1)<=9223372036854775807:=by rw[hpe];omega
    have hpe3 : -9223372036854775808<=av+x4*(x5-1):=by rw[hpe];omega
    have hpe4:av+x4*(x5-1)<=9223372036854775807:=by rw[hpe];omega
    have HPE:=hd hpe;by_cases ha:av<0
    ·have e1:decide (av<0)=true:=by simpa using ha
     have HF:=hd (HIN.o.trans (by rw[HX3.o,show decide (0<=av)=false by simp;omega,Bool.false_and,Bool.false_and]));clear ha hpe hpr hbd;go_upto_region 10 with fail
     go_quiet (fail)
     go_wp2_with fail
     go_ret
     exact⟨ret_bool (by rw[HF.o];rfl),HE4.o.drewN _⟩
    ·have e1:decide (av<0)=false:=by simpa using ha
     by_cases hb:sz<=av+pr
     ·have e5:decide (sz<=av+x4*(x5-1))=true:=by rw[hpe];simpa using hb
      have HF:=hd (HIN.o.trans (by rw[HX3.o,show decide (av+pr<sz)=false by simp;omega,Bool.and_false,Bool.false_and]));clear ha hb hpe hpr hbd;go_upto_region 10 with fail
      go_quiet (fail)
      go_wp2_with fail
      go_ret
      exact⟨ret_bool (by rw[HF.o];rfl),HE4.o.drewN _⟩
     ·have e5:decide (sz<=av+x4*(x5-1))=false:=by rw[hpe];simpa using hb
      have HW:=hd (show IX=true by rw[HX3.o];simp;omega);clear ha hb hpe hpr hbd;go_upto_region 10 with fail
      go_quiet (fail)
      have HE5:=hd (HE4.o.drewN nq);have HX5:=hd ((Ext.refl [] w4).drewN nq);have HC45:=hd (HC4.o.drewN nq);generalize World.drewN w4 nq=w5 at *;clear q3 q3l q4 q4l q5 q5l;have q4:=HC45.o.cell;have q4l:=HC45.o.lt;go_wp2_with fail
      refine(HKIDS.o _ HX5.o).mono ?_
      rintro e w6 ⟨rfl,hE⟩;have HE6:=hd (HE5.o.trans hE);clear hE HKIDS;go_wp2_with fail
      go_ret
      exact⟨ret_bool (by rw[HKA.o,HIN.o,HW.o,Bool.true_and]),HE6.o⟩
   ·have HW:=hd (show IX=true by rw[HINX.o,if_neg h2,if_neg h3,if_neg h4]);have e2:(x0==2)=false:=by simpa using h2
    have e3:(x0==3)=false:=by simpa using h3
    have e4:(x0==4)=false:=by simpa using h4
    clear h2 h3 h4 HINX HOO;go_wp2_with fail
    refine(HKIDS.o _ (Ext.refl _ _)).mono ?_
    rintro e w6 ⟨rfl,hE⟩;have HE6:=hd (HE4.o.trans hE);clear hE HKIDS;go_wp2_with fail
    go_ret
    exact⟨ret_bool (by rw[HKA.o,HIN.o,HW.o,Bool.true_and]),HE6.o⟩
attribute [local irreducible] relAt
set_option maxHeartbeats 16000000 in
set_option maxRecDepth 100000 in
theorem outS_any (h:SH)(no:Nat)(names:List ByteArray)(env:Env)(bA:Option Addr)(nb bc:Nat)(v1:Value)(bs:List Bf)(mb:Nat)(w:World)(hX:StIn w (.mk h []))(hF:Fd nb names (.mk h []))(hk:h.k=3)(hB:BufG w bA bs)(hnb:bs.length=nb)(hM:SMap w mb env)(hG:EnvG env names) :
  Calls Tryz.prog 37 #[.agg #[.slice bA nb bc,v1],stHV h 0,.map (some mb)] w (HasP (!inI bs ⟨no,h,env⟩) w):=by
 obtain⟨hb,ha,hx⟩:(0<=h.buf/\h.buf<nb)/\affE names h.at_=0/\exprE names nb h.val=0:=by
  cases hF with
  | loop _ _ _ hk'=>omega
  | when _ _ _ hk'=>omega
  | store _ _ _ _ h1 h2 h3=>exact⟨h1,h2,h3⟩
 have hall:=hX.all;have HAG:=AfG.of ha hG.size;have HBD:=hd (evA_bdd HAG hG.bdd);have HAT:=hd (fun W (hW:Ext [] w W)=>atR_any h.at_ mb env W (hall.2.2.1.keep hW) HAG (hM.ext hW List.not_mem_nil) hG.bdd);have HEX:=hd (fun W (hW:Ext [] w W)=>outE_any h.val names env bA nb bc v1 bs mb W (hall.2.2.2.1.keep hW) hx (hB.keep hW) hnb (hM.ext hW List.not_mem_nil) hG);rw[exV_arr] at HEX;have HIN:Hd (inI bs ⟨no,h,env⟩=(decide (0<=evA env h.at_)&&decide (evA env h.at_<sizeB bs h.buf)&&inE bs env h.val)):=hd rfl;have HB:=hd hB;have HNB:=hd hnb;have hx6:∃bi:Nat,h.buf=bi:=⟨h.buf.toNat,by omega⟩;obtain⟨bi,hbi⟩:=hx6;have hbl:bi<bs.length:=by omega
 obtain⟨bb,x,hbA,hbx,hbc⟩:=hB.1.at hbl;have HSB:Hd (sizeB bs h.buf=x.size):=hd (sizeB_at hb.1 (by rw[hbi];exact hbx));have hxs:=hB.2 x (List.mem_of_getElem? hbx);have HQS:=hd (hbc 1 _ rfl:w.cell? ⟨bb,bi*4+1,none⟩=some (.int .i64 x.size));have hbn:(bi:Int)<(nb:Int):=by omega
 rw[HSB.o] at HIN;generalize x.size=sz at *;generalize hav:evA env h.at_=av at *;have HI1:Hd (inI bs ⟨no,h,env⟩=(btw av 0 (sz-1)&&inE bs env h.val)):=hd (by rw[HIN.o];unfold btw;congr 2;rw[decide_eq_decide];omega);generalize inI bs ⟨no,h,env⟩=II at *;generalize inE bs env h.val=IE at *;clear hX hF hk hB hnb hM hG hb ha hx hall HAG HSB hbx hbc hav HIN x hbl;unfold stHV;obtain⟨a0,a1,a2,a3,a4,a5,a6,a7,a8,a9,aa⟩:=stArr_get h 0 h.val.h h.val.ks.length;rw[hbi] at a8;have HW:=hd (fun W s0=>isWideSt (W:=W) (s0:=s0) h 0 h.val.h h.val.ks.length);have HE0:=hd (((Ext.refl [] w).alloc (.cells #[.slice bA nb bc,v1] 29)).alloc (.cells (stArr h 0 h.val.h h.val.ks.length) 43));have HB3:=hd ((Blk.new w 29 #[.slice bA nb bc,v1]).alloc (.cells (stArr h 0 h.val.h h.val.ks.length) 43));have HB4:=hd (Blk.new (w.alloc (.cells #[.slice bA nb bc,v1] 29)) 43 (stArr h 0 h.val.h h.val.ks.length));rw[alloc_sizeR] at HB4;generalize hVal:exArr h.val=va at *;have HVA:Hd (va=stVal h.val.h h.val.ks.length):=hd (by rw[<-hVal];cases h.val;rfl);clear hVal;subst hbA;unfold afV at HAT;generalize h.at_.ts.length=m at *;generalize h.at_.base=y0 at *;generalize h.at_.A=y1 at *;generalize h.at_.cap=y2 at *;generalize stArr h 0 h.val.h h.val.ks.length=arr at *;unfold stVal at HVA HW;generalize h.val.h.at_.ts.length=mm at *;generalize h.val.ks.length=kk at *;generalize h.val.h=xx at *;have hva:=HVA.o;clear HVA;subst hva;go_enter Tryz.func37,Tryz.ntmps37
 go_upto_region 1 with fail
 generalize World.alloc (World.alloc w _) _=w2 at *;generalize w.heap.size=s at *;have HQ2:=hd (HE0.o.held HQS.o (by simp):w2.cell? ⟨bb,bi*4+1,none⟩=some (.int .i64 sz));cases hw:btw av 0 (sz-1)
 ·have HF:=hd (show II=false by rw[HI1.o,hw,Bool.false_and]);refine wp_region_rel 20 (JE _) (Ext []) (kinds [(3,sFix (.int .i64 av)),(12,sFix (.bool false))]) (by kernel_rfl) (by kernel_rfl) JE.less ?_ JE.start ?_
  ·repeat(first|exact Stays.nil|refine Stays.cons sFix.stays ?_)
  simp only[List.take_succ_cons,List.take_zero,List.drop_succ_cons,List.drop_zero]
  repeat
   refine relAt_det rfl rfl ?_
   apply Exists.intro
   refine⟨fun wr nr hJ=>?_,?_⟩
   ·have q3:=(HB3.o.ext hJ (by simp)).cell;have q3l:=(HB3.o.ext hJ (by simp)).lt;have q4:=(HB4.o.ext hJ (by simp)).cell;have q4l:=(HB4.o.ext hJ (by simp)).lt;have qs:=hJ.held HQ2.o (by simp);have qbl:=World.block_lt_of_cell? wr _ qs;simp only at qbl;clear hJ;(go_simp;try go_bits)
    first|rfl|exact⟨rfl,rfl⟩
   simp only[Act.put,List.setIfInBounds_toArray,List.set_cons_succ,List.set_cons_zero]
  refine rel_fix rfl rfl ?_ ?_
  ·apply Exists.intro
   apply Exists.intro
   refine⟨fun wr=>?_,fun wr nr hJ=>?_⟩
   ·go_simp
    first|exact⟨rfl,rfl⟩|rfl
   ·exact(HAT.o wr (HE0.o.trans hJ)).mono (by rintro e w' ⟨rfl,hE⟩;exact⟨rfl,hE⟩)
  simp only[Act.put,List.setIfInBounds_toArray,List.set_cons_succ,List.set_cons_zero]
  repeat
   refine relAt_det rfl rfl ?_
   apply Exists.intro
   refine⟨fun wr nr hJ=>?_,?_⟩
   ·have q3:=(HB3.o.ext hJ (by simp)).cell;have q3l:=(HB3.o.ext hJ (by simp)).lt;have q4:=(HB4.o.ext hJ (by simp)).cell;have q4l:=(HB4.o.ext hJ (by simp)).lt;have qs:=hJ.held HQ2.o (by simp);have qbl:=World.block_lt_of_cell? wr _ qs;simp only at qbl;clear hJ;(go_simp;try go_bits)
    first|rfl|exact⟨rfl,rfl⟩
   simp only[Act.put,List.setIfInBounds_toArray,List.set_cons_succ,List.set_cons_zero]
  refine rel_fix rfl rfl ?_ ?_
  ·apply Exists.intro
   apply Exists.intro
   refine⟨fun wr=>?_,fun wr nr hJ=>?_⟩
   ·go_simp
    first|exact⟨rfl,rfl⟩|rfl
   ·exact(within_any av 0 (sz-1) wr).mono (by rintro e w' ⟨rfl,rfl⟩;exact⟨by rw[hw],Ext.refl _ _⟩)
  simp only[Act.put,List.setIfInBounds_toArray,List.set_cons_succ,List.set_cons_zero]
  repeat
   refine relAt_det rfl rfl ?_
   apply Exists.intro
   refine⟨fun wr nr hJ=>?_,?_⟩
   ·have q3:=(HB3.o.ext hJ (by simp)).cell;clear hJ;(go_simp;try go_bits)
    first|rfl|exact⟨rfl,rfl⟩
   simp only[Act.put,List.setIfInBounds_toArray,List.set_cons_succ,List.set_cons_zero]
  iterate 5
   refine relAt_skip rfl ?_
   simp only[Act.put,List.setIfInBounds_toArray,List.set_cons_succ,List.set_cons_zero]
  refine relAt_nil (fun w5 hJ hF=>?_)
  have HE5:=hd (HE0.o.trans hJ);clear hF hJ;go_wp2_with fail
  go_ret
  exact⟨ret_bool (by rw[HF.o];rfl),HE5.o⟩
 ·have HF:=hd (show II=IE by rw[HI1.o,hw,Bool.true_and]);refine wp_region_rel 20 (JE _) (Ext []) (kinds [(3,sFix (.int .i64 av)),(12,sFix (.bool true)),(19,sFix (.bool (!IE)))]) (by kernel_rfl) (by kernel_rfl) JE.less ?_ JE.start ?_
  ·repeat(first|exact Stays.nil|refine Stays.cons sFix.stays ?_)
  simp only[List.take_succ_cons,List.take_zero,List.drop_succ_cons,List.drop_zero]
  repeat
   refine relAt_det rfl rfl ?_
   apply Exists.intro
   refine⟨fun wr nr hJ=>?_,?_⟩
   ·have q3:=(HB3.o.ext hJ (by simp)).cell;have q3l:=(HB3.o.ext hJ (by simp)).lt;have q4:=(HB4.o.ext hJ (by simp)).cell;have q4l:=(HB4.o.ext hJ (by simp)).lt;have qs:=hJ.held HQ2.o (by simp);have qbl:=World.block_lt_of_cell? wr _ qs;simp only at qbl;clear hJ;(go_simp;try go_bits)
    first|rfl|exact⟨rfl,rfl⟩
   simp only[Act.put,List.setIfInBounds_toArray,List.set_cons_succ,List.set_cons_zero]
  refine rel_fix rfl rfl ?_ ?_
  ·apply Exists.intro
   apply Exists.intro
   refine⟨fun wr=>?_,fun wr nr hJ=>?_⟩
   ·go_simp
    first|exact⟨rfl,rfl⟩|rfl
   ·exact(HAT.o wr (HE0.o.trans hJ)).mono (by rintro e w' ⟨rfl,hE⟩;exact⟨rfl,hE⟩)
  simp only[Act.put,List.setIfInBounds_toArray,List.set_cons_succ,List.set_cons_zero]
  repeat
   refine relAt_det rfl rfl ?_
   apply Exists.intro
   refine⟨fun wr nr hJ=>?_,?_⟩
   ·have q3:=(HB3.o.ext hJ (by simp)).cell;have q3l:=(HB3.o.ext hJ (by simp)).lt;have q4:=(HB4.o.ext hJ (by simp)).cell;have q4l:=(HB4.o.ext hJ (by simp)).lt;have qs:=hJ.held HQ2.o (by simp);have qbl:=World.block_lt_of_cell? wr _ qs;simp only at qbl;clear hJ;(go_simp;try go_bits)
    first|rfl|exact⟨rfl,rfl⟩
   simp only[Act.put,List.setIfInBounds_toArray,List.set_cons_succ,List.set_cons_zero]
  refine rel_fix rfl rfl ?_ ?_
  ·apply Exists.intro
   apply Exists.intro
   refine⟨fun wr=>?_,fun wr nr hJ=>?_⟩
   ·go_simp
    first|exact⟨rfl,rfl⟩|rfl
   ·exact(within_any av 0 (sz-1) wr).mono (by rintro e w' ⟨rfl,rfl⟩;exact⟨by rw[hw],Ext.refl _ _⟩)
  simp only[Act.put,List.setIfInBounds_toArray,List.set_cons_succ,List.set_cons_zero]
  repeat
   refine relAt_det rfl rfl ?_
   apply Exists.intro
   refine⟨fun wr nr hJ=>?_,?_⟩
   ·have q3:=(HB3.o.ext hJ (by simp)).cell;have q3l:=(HB3.o.ext hJ (by simp)).lt;have q4l:=(HB4.o.ext hJ (by simp)).lt;have c:=HW.o wr _ (HB4.o.ext hJ (by simp));have c0:=c 0 _ rfl;have c1:=c 1 _ rfl;have c2:=c 2 _ rfl;have c3:=c 3 _ rfl;have c4:=c 4 _ rfl;have c5:=c 5 _ rfl;have c6:=c 6 _ rfl;have c7:=c 7 _ rfl;have c8:=c 8 _ rfl;have c9:=c 9 _ rfl;clear c;simp only[Nat.reduceAdd] at c0 c1 c2 c3 c4 c5 c6 c7 c8 c9;clear hJ;(go_simp;try go_bits)
    first|rfl|exact⟨rfl,rfl⟩
   simp only[Act.put,List.setIfInBounds_toArray,List.set_cons_succ,List.set_cons_zero]
  refine rel_fix rfl rfl ?_ ?_
  ·apply Exists.intro
   apply Exists.intro
   refine⟨fun wr=>?_,fun wr nr hJ=>?_⟩
   ·go_simp
    first|exact⟨rfl,rfl⟩|rfl
   ·exact(HEX.o wr (HE0.o.trans hJ)).mono (by rintro e w' ⟨rfl,hE⟩;exact⟨rfl,hE⟩)
  simp only[Act.put,List.setIfInBounds_toArray,List.set_cons_succ,List.set_cons_zero];refine relAt_nil (fun w5 hJ hF=>?_)
  have HE5:=hd (HE0.o.trans hJ);clear hF hJ;go_wp2_with fail
  go_ret
  exact⟨ret_bool (by rw[HF.o]),HE5.o⟩
end
section
theorem hasE_names (env:Env)(s:ByteArray):hasE env s=hasS (env.map Prod.fst) s:=by
 unfold hasE hasS;rw[List.any_map];congr 1
 funext p
 exact eqS_comm _ _
theorem EnvG.inner {env:Env}{names:List ByteArray}{h:SH}{k:Nat}(hG:EnvG env names)(hl:names.length<8)(hn:nameB h.var=true)(hb:Bdd (valS h k)):EnvG (envS env h k) (names ++ [h.var]):=by
 refine⟨fun p hp=>?_,?_,?_,fun x hx=>?_⟩
 ·unfold envS at hp;rcases List.mem_append.1 hp with h1|h1
  ·exact hG.bdd p h1
  ·rw[List.mem_singleton.1 h1];exact hb
 ·have:=congrArg List.length hG.nam;simp only[List.length_map] at this;simp[envS];omega
 ·simp[envS,hG.nam]
 ·rcases List.mem_append.1 hx with h1|h1
  ·exact hG.size x h1
  ·rw[List.mem_singleton.1 h1];exact((nameB_iff _).1 hn).1.2
structure SeeC (f:FuncId)(caps:Array Value)(C:List Nat)(n wb mb nb:Nat)(I:List Inst->World->Prop):Prop where
 enters:∀args w,(callFunc f args).run Tryz.prog w=.ok (.enter f args) w
 low:∀x∈C,n<=x/\x≠wb/\x≠mb
 wlow:n<=wb
 mlow:n<=mb
 apart:wb≠mb
 keep:∀d w w',Ext [wb,mb] w w'->I d w->I d w'
 call:∀(d:List Inst) (h:SH) (no:Nat) (names:List ByteArray) (env:Env) (w:World),I d w->StIn w (.mk h [])->Fd nb names (.mk h [])->h.k=3->SMap w mb env->EnvG env names->no<=3000->
  Calls Tryz.prog f (#[stHV h 0,.int .i64 no,.map (some mb)] ++ caps) w fun e w'=>e=.returned (.tuple #[])/\Ext C w w'/\I (d ++ [⟨no,h,env⟩]) w'
def fnV (f:FuncId)(caps:Array Value):Value:=.func (.func f) #[] caps
def Run2 (M s N s' X:Nat)(d L d':List Inst):Prop:=(s'=s+N/\s+N<=M/\d'=d ++ L)\/(M<s+N/\M<s'/\s'<=M+1+X)
def PartP (C:List Nat)(wb mb M s N st X:Nat)(no:Nat)(fv:Value)(Em:Env->Prop)(I:List Inst->World->Prop)(d L:List Inst)(w:World)(e:Ending)(w':World):Prop:=
 e=.returned (.tuple #[])/\∃(s' no':Nat) (d':List Inst) (env':Env),Ext (wb :: mb :: C) w w'/\Blk w' wb 84 (wkA M s' no' fv)/\SMap w' mb env'/\Em env'/\I d' w'/\no'<=no+st/\(s'=s+N->s+N<=M->no'=no+st)/\Run2 M s N s' X d L d'
structure MidR (C:List Nat)(wb mb M:Nat)(fv:Value)(I:List Inst->World->Prop)(w0:World)(env:Env)(nm:ByteArray)(s no:Nat)(d:List Inst)(w:World):Prop where
 ext:Ext (wb :: mb :: C) w0 w
 blk:Blk w wb 84 (wkA M s no fv)
 map:∃o,SMap w mb (setL env o nm)
 inv:I d w
theorem exec_load_wide {P:Program}{o:Oper}{ev:Operand->Value}{w:World}(ty:TypeId)(x:Operand)(ho:o.op=.load ty x)(b n:Nat)(hx:ev x=.pointer (some ⟨b,n,none⟩))(arr:Array Value)
  (hc:∀(j:Nat) (v:Value),arr.toList[j]? = some v->w.cell? ⟨b,n+j,none⟩=some v) (d:TypeDesc)
  (hu:P.underlying ty=some d) (hd:(match d with|.struct _|.array _ _=>true|_=>false)=true) (hi:(P.info? ty).map (·.size)=some arr.size):(execOp ev o).run P w=.ok (.value (.agg arr)) w:=by
 unfold execOp;simp only[ho,hx,Instr.loadAt,Instr.sureAddr,Sem.run_bind,Sem.run_pure,Result.andThen_ok,run_loadVar_wide w ⟨b,n,none⟩ ty arr d hu hd hi (fun j v hv=>by rw[Addr.add_mk];exact hc j v hv)]
theorem wpList_make_wide3 {P:Program}{ops:Array Oper}{rest:List Oper}{o q p:Oper}{a:Act}{w:World}{Q:Exit->Act->World->Prop}(hg1:o.guard=none)(hg3:q.guard=none)(hg2:p.guard=none)(ty:TypeId)(x y z1:Operand)(ho:o.op=.alloc ty)(hq:q.op=.assign z1)(hp:p.op=.store ty x y)
  (z:Array Value) (hz:(zeroValue ty).run P w=.ok (.agg z) w) (arr:Array Value) (a1:Act) (ha1:a1=(a.put o.dst (.pointer (some ⟨w.heap.size,0,none⟩))).put q.dst ((a.put o.dst (.pointer (some ⟨w.heap.size,0,none⟩))).eval z1)) (hx:a1.eval x=.pointer (some ⟨w.heap.size,0,none⟩)) (hy:a1.eval y=.agg arr)
  (hi:(P.info? ty).map (·.size)=some arr.size) (hs:z.size=arr.size) (h1:arr.all (·.oneCell')=true)
  (h:wpList P ops Q rest (a1.put p.dst undef) (w.alloc (.cells arr ty))):wpList P ops Q (o :: q :: p :: rest) a w:=
 wpList_plain hg1 fun K hK=>by
  have hrow:(w.alloc (.cells z ty)).heap[w.heap.size]? = some (.cells z ty (0,0)):=by show(w.heap.push _)[w.heap.size]? = _;simp
  unfold Oper.wp execOp;simp only[ho,Instr.alloc,Sem.run_bind,hz,Result.andThen_ok];simp[newVar,newRow,Value.cells];refine hK _ _ (wpList_plain hg3 fun K2 hK2=>?_)
  unfold Oper.wp execOp;simp only[hq];simp;change K2 ((a.put o.dst (.pointer (some ⟨w.heap.size,0,none⟩))).put q.dst ((a.put o.dst (.pointer (some ⟨w.heap.size,0,none⟩))).eval z1)) _;rw[<-ha1];refine hK2 _ _ (wpList_plain hg2 fun K' hK'=>?_)
  refine wp_store_row ty x y hp w.heap.size arr hx hy ty z hrow hi hs h1 ?_
  rw[setRow_alloc];exact hK' _ _ h
section
variable {f:FuncId} {caps:Array Value} {C:List Nat} {n wb mb nb M s no s' no':Nat} {fv:Value} {I:List Inst->World->Prop} {w0 w w':World} {env:Env} {nm:ByteArray} {d d':List Inst}
theorem SeeC.wC (hS:SeeC f caps C n wb mb nb I):wb∉C/\mb∉C:=⟨fun h=>(hS.low _ h).2.1 rfl,fun h=>(hS.low _ h).2.2 rfl⟩
theorem MidR.grow (h:MidR C wb mb M fv I w0 env nm s no d w)(hS:SeeC f caps C n wb mb nb I)(hE:Ext [] w w'):MidR C wb mb M fv I w0 env nm s no d w':=
 ⟨h.ext.step hE (fun x hx=>absurd hx List.not_mem_nil),h.blk.ext hE (by simp),by obtain⟨o,ho⟩:=h.map;exact⟨o,ho.ext hE List.not_mem_nil⟩,hS.keep _ _ _ hE.nil h.inv⟩
theorem MidR.stepd (h:MidR C wb mb M fv I w0 env nm s no d w)(hS:SeeC f caps C n wb mb nb I)(hE:Ext [wb] w w')(hB:Blk w' wb 84 (wkA M s' no' fv)):MidR C wb mb M fv I w0 env nm s' no' d w':=
 ⟨h.ext.step hE fun x hx=>.inl (by rw[List.mem_singleton.1 hx];exact List.mem_cons_self ..),hB,by obtain⟨o,ho⟩:=h.map;exact⟨o,ho.ext hE (by rw[List.mem_singleton];exact Ne.symm hS.apart)⟩,hS.keep _ _ _ ((Ext.refl _ _).step hE fun x hx=>.inl (by rw[List.mem_singleton.1 hx];exact List.mem_cons_self ..)) h.inv⟩
theorem MidR.maps {o:Option Int}(h:MidR C wb mb M fv I w0 env nm s no d w)(hS:SeeC f caps C n wb mb nb I)(hE:Ext [mb] w w')(hM:SMap w' mb (setL env o nm)):MidR C wb mb M fv I w0 env nm s no d w':=
 ⟨h.ext.step hE fun x hx=>.inl (by rw[List.mem_singleton.1 hx];exact List.mem_cons_of_mem _ (List.mem_cons_self ..)),h.blk.ext hE (by rw[List.mem_singleton];exact hS.apart),⟨o,hM⟩,hS.keep _ _ _ ((Ext.refl _ _).step hE fun x hx=>.inl (by rw[List.mem_singleton.1 hx];exact List.mem_cons_of_mem _ (List.mem_cons_self ..))) h.inv⟩
theorem MidR.seen (h:MidR C wb mb M fv I w0 env nm s no d w)(hS:SeeC f caps C n wb mb nb I)(hE:Ext C w w')(hI:I d' w'):MidR C wb mb M fv I w0 env nm s no d' w':=
 ⟨h.ext.step hE fun x hx=>.inl (List.mem_cons_of_mem _ (List.mem_cons_of_mem _ hx)),h.blk.ext hE hS.wC.1,by obtain⟨o,ho⟩:=h.map;exact⟨o,ho.ext hE hS.wC.2⟩,hI⟩
end
theorem stepN_any (wb M s no:Nat)(v:Value)(w:World)(hb:Blk w wb 84 (wkA M s no v))(hs:s<=1000000000)(hm:M<=1000000000) :
  Calls Tryz.prog 86 #[.pointer (some ⟨wb,0,none⟩)] w fun e w'=>e=.returned (.bool (decide (s+1<=M)))/\Ext [wb] w w'/\Blk w' wb 84 (wkA M (s+1:Nat) no v):=by
 refine(step_any wb M s no v w hb (by omega) (by omega)).mono ?_
 rintro e w' ⟨rfl,hE,hB⟩;exact⟨by congr 2;rw[decide_eq_decide];omega,hE,hB⟩
set_option maxHeartbeats 16000000 in
set_option maxRecDepth 100000 in
theorem vec_any (f:FuncId)(caps:Array Value)(C:List Nat)(wb mb nb M:Nat)(I:List Inst->World->Prop)(w0 w:World)(h:SH)(b:List St)(names:List ByteArray)(env:Env)(s no:Nat)(d:List Inst)
  (hS:SeeC f caps C w0.heap.size wb mb nb I) (hCo:∀x∈C,x<w.heap.size) (hX:StIn w0 (.mk h b)) (hF:Fd nb names (.mk h b)) (hk:h.k=1) (hv:h.vec=true) (hG:EnvG env names) (hE0:Ext [] w0 w)
  (hB:Blk w wb 84 (wkA M s no (fnV f caps))) (hM:SMap w mb env) (hI:I d w) (hs:s<=M) (hMx:M<=100000000) (hno:no+b.length<=3000) :
  Calls Tryz.prog 133 #[.pointer (some ⟨wb,0,none⟩),stHV h b.length,.map (some mb)] w
   (PartP C wb mb M s (manyS h*(1+b.length)) 0 b.length no (fnV f caps) (fun e=>∃o,e=setL env o h.var) I d (vecI env h no b) w):=by
 obtain⟨hnm,hnv,hl8,hlo,hhi,hst,hv3,hFs⟩:nameB h.var=true/\hasS names h.var=false/\names.length<8/\(-100000<=h.lo/\h.lo<=100000)/\(-100000<=h.hi/\h.hi<=100000)/\(1<=h.step/\h.step<=100000)/\(∀s∈b,s.h.k=3)/\∀s∈b,Fd nb (names ++ [h.var]) s:=by
  cases hF with
  | loop _ _ _ _ h1 h2 h3 h4 h5 h6 h7 h8=>exact⟨h1,h2,h3,h4,h5,h6,h7 hv,h8⟩
  | when _ _ _ hk'=>omega
  | store _ _ hk'=>omega
 have hall:=hX.all;have HNO:=hd (show hasE env h.var=false by rw[hasE_names,hG.nam];exact hnv);have HSV:=hd hS;have HCO:=hd hCo;have HG:=hd hG;have HGI:=hd (fun j hj=>hG.inner (k:=j) hl8 hnm (valS_bdd hlo hhi hst hj):∀j,j<manyS h->EnvG (envS env h j) (names ++ [h.var]));have HEL:Hd (env.length<=900):=hd (by have:=hG.len;omega);have HBR:=hd hall.2.2.2.2.2.2.1;have HST:=hd hall.2.2.2.2.2.2.2;have HZ:=hd hall.2.2.2.2.2.1;have HFS:=hd hFs;have H3:=hd hv3;have HE0:=hd hE0;have hmy:manyS h<=200000:=manyS_le hlo hhi hst;have HVL:=hd (fun k=>@valS_lt h k hst.1);have HVS:=hd (fun k=>valS_succ h k);have HVB:=hd (fun j hj=>valS_bdd (h:=h) (k:=j) hlo hhi hst hj);have hv0:valS h 0=h.lo:=by simp[valS]
 have HR0:=hd (show MidR C wb mb M (fnV f caps) I w env h.var s no d w from⟨Ext.refl _ _,hB,⟨none,hM⟩,hI⟩);have hwl:=hB.lt;have hml:=hM.lt;have hsb:b.length<=3000:=by omega
 clear hS hCo hX hF hG hE0 hB hM hI hall hnm hnv hFs hv3 hk;unfold stHV;obtain⟨a0,a1,a2,a3,a4,a5,a6,a7,-⟩:=stArr_get h b.length h.val.h h.val.ks.length;have HB0:=hd (Blk.new w 43 (stArr h b.length h.val.h h.val.ks.length));have HEx:=hd ((Ext.refl [] w).alloc (.cells (stArr h b.length h.val.h h.val.ks.length) 43));generalize stArr h b.length h.val.h h.val.ks.length=arr at *;rw[<-hv0] at a2;generalize hbn:b.length=bn at *;have HBN:=hd hbn;clear hbn;generalize hmn:manyS h=mn at *;have HMN:=hd hmn;clear hmn;generalize hvf:valS h=V at *;have HVF:=hd hvf;clear hvf hv0 hv;go_enter Tryz.func133,Tryz.ntmps133
 go_upto_region 1 with fail
 have HR1:=hd (HR0.o.grow HSV.o HEx.o);have hw1:(World.alloc w (.cells arr 43)).heap.size=w.heap.size+1:=alloc_sizeR _ _;generalize World.alloc w _=w1 at *;generalize hs0:w.heap.size=s0 at *
 have HBX:Hd (∀W,Ext (wb :: mb :: C) w1 W->Blk W s0 43 arr):=hd fun W hW=>HB0.o.ext hW (fun hm=>by
  rcases List.mem_cons.1 hm with h1|h1
  ·omega
  ·rcases List.mem_cons.1 h1 with h1|h1
   ·omega
   ·have:=HCO.o _ h1;omega)
 have HR2:=hd (show MidR C wb mb M (fnV f caps) I w1 env h.var s no d w1 from⟨Ext.refl _ _,HR1.o.blk,HR1.o.map,HR1.o.inv⟩);have q1:=HB0.o.cell;have ql:=HB0.o.lt;go_upto_block 0 with fail
 go_cut [] (fun wx=>∃s1:Nat,Hd (MidR C wb mb M (fnV f caps) I w1 env h.var s1 no d wx)/\((s1=s+mn/\s1<=M)\/(M<s+mn/\s1=M+1)))
 case first=>
  go_wp2_with fail
  clear q1 ql;go_loopw [6] (fun x wr=>∃j:Nat,x=.int .i64 (V j)/\j<=mn/\s+j<=M/\Hd (MidR C wb mb M (fnV f caps) I w1 env h.var (s+j) no d wr)/\x=.int .i64 (V j)) (fun x _=>(200000-intOf x).toNat)
  case atStart=>exact⟨0,rfl,Nat.zero_le _,hs,HR2,rfl⟩
  case round=>
   obtain⟨j,rfl,hj,hsj,HR,-⟩:=hrel;rename World=>wq
   have HBq:=hd (HBX.o _ HR.o.ext);have q1:=HBq.o.cell;have ql:=HBq.o.lt;by_cases hlt:j<mn
   ·have e1:V j<h.hi:=(HVL.o j).2 hlt;have hvb:=HVB.o j hlt;unfold Bdd at hvb;have hvs:=HVS.o j;go_wp2_with fail
    refine(stepN_any wb M (s+j) no _ _ HR.o.blk (by omega) (by omega)).mono ?_
    rintro e w' ⟨rfl,hE,hB⟩;have HRn:=hd (HR.o.stepd HSV.o hE hB);have HBn:=hd (HBX.o _ HRn.o.ext);clear hE hB q1 ql;have q1:=HBn.o.cell;have ql:=HBn.o.lt;by_cases hst1:s+j+1<=M
    ·have e2:decide (s+j+1<=M)=true:=by simpa using hst1
     rw[e2];go_wp2_with fail
     go_roundw
     case rel=>exact⟨j+1,rfl,by omega,by omega,HRn,rfl⟩
     case measure=>simp[intOf];omega
    ·have e2:decide (s+j+1<=M)=false:=by simpa using hst1
     rw[e2];go_wp2_with fail
     go_meet
     exact⟨s+j+1,HRn,.inr ⟨by omega,by omega⟩⟩
   ·have hjn:j=mn:=by omega
    subst hjn;have e0:¬V j<h.hi:=fun hh=>hlt ((HVL.o j).1 hh)
    have e1:decide (V j<h.hi)=false:=by simpa using e0
    clear e0;go_wp2_with fail
    go_meet
    exact⟨s+j,HR,.inl ⟨by omega,by omega⟩⟩
 case rest=>
  obtain⟨s1,HR3,hok1⟩:=hcut;have HBY:=HBX
  have HE0W:Hd (∀W,Ext (wb :: mb :: C) w1 W->Ext [] w0 W):=hd fun W hW=>keep0 (HE0.o.trans HEx.o) hW fun x hx=>by
   rcases List.mem_cons.1 hx with h1|h1
   ·rw[h1];exact HSV.o.wlow
   ·rcases List.mem_cons.1 h1 with h1|h1
    ·rw[h1];exact HSV.o.mlow
    ·exact(HSV.o.low _ h1).1
  have hw1s:=HR3.o.ext.size;have HSZ:=hd (show(Tryz.prog.info? 43).map (·.size)=some 21 from infoSt);have qb:=(HBX.o _ HR3.o.ext).cell;have qbl:=(HBX.o _ HR3.o.ext).lt;clear q1 ql HR2
  have HOK1:Hd ((s1=s+mn*(1+0)/\s1<=M/\d=d ++ vecI env h no (b.take 0))\/(M<s+mn*(1+0)/\M<s1/\s1<=M+1+0)):=hd (by
   rcases hok1 with⟨h1,h2⟩|⟨h1,h2⟩
   ·exact .inl ⟨by omega,h2,by simp[vecI]⟩
   ·exact .inr ⟨by omega,by omega,by omega⟩)
  clear hok1;go_wp2_with fail
  clear qb qbl;go_loopw [27] (fun i wr=>∃(k s2:Nat) (d2:List Inst),i=.int .i64 k/\k<=bn/\Hd (MidR C wb mb M (fnV f caps) I w1 env h.var s2 no d2 wr)/\Hd ((s2=s+mn*(1+k)/\s2<=M/\d2=d ++ vecI env h no (b.take k))\/(M<s+mn*(1+k)/\M<s2/\s2<=M+1+k))) (fun i _=>(bn-intOf i).toNat)
  case atStart=>exact⟨0,s1,d,rfl,Nat.zero_le _,HR3,HOK1⟩
  case round=>
   obtain⟨k,s2,d2,rfl,hk,HR,HOK⟩:=hrel;rename World=>wq
   by_cases hlt:k<bn
   ·obtain⟨bb,x,hbb,hx,hc⟩:=(HBR.o.keep (HE0W.o _ HR.o.ext)).at (i:=k) (by have:=HBN.o;omega);obtain⟨th,tb⟩:=x;have HXK:=hd hx;have hmem:=List.mem_of_getElem? hx;have ht3:th.k=3:=H3.o _ hmem;have hFd:=HFS.o _ hmem
    have htb:tb=[]:=by
     cases hFd with
     | loop _ _ _ hk'=>omega
     | when _ _ _ hk'=>omega
     | store=>rfl
    subst htb;have HCALL:=hd (fun(j:Nat) (hj:j<mn) dd W (hI:I dd W) (hW:Ext (wb :: mb :: C) w1 W) (hm:SMap W mb (env ++ [(h.var,V j)]))=>HSV.o.call dd th (no+k) (names ++ [h.var]) (env ++ [(h.var,V j)]) W hI ((HST.o _ hmem).keep (HE0W.o W hW)) hFd ht3 hm (by have:=HGI.o j hj;unfold envS at this;rw[HVF.o] at this;exact this) (by omega));unfold stHV at HCALL;have hcast:((no+k:Nat):Int)=(no:Int)+k:=by omega
    rw[hcast] at HCALL;have HW:=hd (fun j v hv=>hc j v hv:∀(j:Nat) (v:Value),(stArr th 0 th.val.h th.val.ks.length).toList[j]? = some v->wq.cell? ⟨bb,k*21+j,none⟩=some v);have HB2:=hd (Blk.new wq 43 (stArr th 0 th.val.h th.val.ks.length));have HEx2:=hd ((Ext.refl [] wq).alloc (.cells (stArr th 0 th.val.h th.val.ks.length) 43));have HSZ2:=hd (show(Tryz.prog.info? 43).map (·.size)=some (stArr th 0 th.val.h th.val.ks.length).size from infoSt);have HZS:=hd (show zSt.size=(stArr th 0 th.val.h th.val.ks.length).size from rfl);have HON:=hd (stArr_one th 0 th.val.h th.val.ks.length);have HROW:=hd (fun j=>rowI_succ env h (no+k) (.mk th []) j);have HVT:=hd (vecI_take (env:=env) (h:=h) (no:=no) hx);have hr0:rowI env h (no+k) (.mk th []) 0=[]:=rfl;rw[HMN.o] at HVT;generalize rowI env h (no+k) (.mk th [])=RW9 at *;clear hx hc hmem hFd ht3 hcast;generalize stArr th 0 th.val.h th.val.ks.length=arrT at *;rw[hbb] at a7;rw[hbb];have hwqs:=HR.o.ext.size;go_upto_block 3 with fail
    go_cut [] (fun wx=>∃(s3:Nat) (d3:List Inst),Hd (MidR C wb mb M (fnV f caps) I w1 env h.var s3 no d3 wx)/\Hd ((s3=s+mn*(1+(k+1))/\s3<=M/\d3=d ++ vecI env h no (b.take (k+1)))\/(M<s+mn*(1+(k+1))/\M<s3/\s3<=M+1+(k+1))))
    case first=>
     go_upto_region 7 with(first
      | refine wpList_load_wide rfl 43 _ rfl bb (k*21) rfl arrT HW.o _ Tryz.underlying43 rfl HSZ2.o ?_
      | refine wpList_make_wide3 rfl rfl rfl 43 _ _ _ rfl rfl rfl zSt (zSt_run _) arrT _ rfl rfl rfl HSZ2.o HZS.o HON.o ?_)
     have HR4:=hd (HR.o.grow HSV.o HEx2.o);generalize World.alloc wq _=w2 at *;generalize hs2:wq.heap.size=sb at *
     have HBX2:Hd (∀W,Ext (wb :: mb :: C) w2 W->Blk W sb 43 arrT):=hd fun W hW=>HB2.o.ext hW (fun hm=>by
      rcases List.mem_cons.1 hm with h1|h1
      ·omega
      ·rcases List.mem_cons.1 h1 with h1|h1
       ·omega
       ·have:=HCO.o _ h1;omega)
     have HX12:=hd HR4.o.ext;have HR5:=hd (show MidR C wb mb M (fnV f caps) I w2 env h.var s2 no d2 w2 from⟨Ext.refl _ _,HR4.o.blk,HR4.o.map,HR4.o.inv⟩);have HBq:=hd (HBX.o _ HR4.o.ext);have q1:=HBq.o.cell;have ql:=HBq.o.lt;clear HW HZS HON HB2;have hmul:mn*(1+(k+1))=mn*(1+k)+mn:=by rw[<-Nat.add_assoc,Nat.mul_succ]
     generalize hT:mn*(1+k)=T at *;clear hT;have HMUL:=hd hmul;clear hmul;go_wp2_with fail
     clear q1 ql;go_loopw [9] (fun x wr=>∃(j s3:Nat) (d3:List Inst),x=.int .i64 (V j)/\j<=mn/\Hd (MidR C wb mb M (fnV f caps) I w2 env h.var s3 no d3 wr)/\Hd ((s3=s+T+j/\s3<=M/\d3=d ++ vecI env h no (b.take k) ++ RW9 j)\/(M<s+T/\M<s3/\s3<=M+1+k))) (fun x _=>(200000-intOf x).toNat)
     case atStart=>
      refine⟨0,s2,d2,rfl,Nat.zero_le _,HR5,hd ?_⟩
      rcases HOK.o with⟨h1,h2,h3⟩|⟨h1,h2,h3⟩
      ·exact .inl ⟨h1,h2,by rw[hr0,List.append_nil];exact h3⟩
      ·exact .inr ⟨h1,h2,h3⟩
     case round=>
      obtain⟨j,s3,d3,rfl,hj,HRj,HOJ⟩:=hrel;rename World=>wj
      have HBj:=hd (HBX.o _ (HX12.o.trans HRj.o.ext));have q1:=HBj.o.cell;have ql:=HBj.o.lt;have hs3:s3<=1000000000:=by rcases HOJ.o with h|h<;>omega
      by_cases hlt2:j<mn
      ·have e1:V j<h.hi:=(HVL.o j).2 hlt2;have hvb:=HVB.o j hlt2;unfold Bdd at hvb;have hvs:=HVS.o j;go_wp2_with fail
       refine(stepN_any wb M s3 no _ _ HRj.o.blk hs3 (by omega)).mono ?_
       rintro e w' ⟨rfl,hE,hB⟩;have HRn:=hd (HRj.o.stepd HSV.o hE hB);have HBn:=hd (HBX.o _ (HX12.o.trans HRn.o.ext));clear hE hB q1 ql;have q1:=HBn.o.cell;have ql:=HBn.o.lt;by_cases hst1:s3+1<=M
       ·have e2:decide (s3+1<=M)=true:=by simpa using hst1
        rw[e2]
        have HOJ2:=hd (show s3=s+T+j/\d3=d ++ vecI env h no (b.take k) ++ RW9 j by
         rcases HOJ.o with⟨h1,h2,h3⟩|⟨h1,h2,h3⟩
         ·exact⟨h1,h3⟩
         ·omega)
        obtain⟨o,hmo⟩:=HRn.o.map;have HMO:=hd hmo;clear hmo
        go_wp2_with (
         refine wpList_smap_store _ rfl _ _ _ rfl mb env o h.var (V j) rfl HMO.o rfl rfl HNO.o HZ.o (by omega) HEL.o ?_
         intro w9 hm9 hE9;have HM9:=hd hm9;have HR9:=hd (HRn.o.maps (o:=some (V j)) HSV.o hE9 hm9);clear hm9 hE9 q1 ql)
        simp only[Act.put,List.setIfInBounds_toArray,List.set_cons_succ,List.set_cons_zero];have HRWJ:=hd (show RW9 (j+1)=RW9 j ++ [⟨no+k,th,env ++ [(h.var,V j)]⟩] by rw[HROW.o,<-HVF.o];rfl);refine wp_region_rel 12 (JE _) (Ext []) (kinds []) (by kernel_rfl) (by kernel_rfl) JE.less ?_ JE.start ?_
        ·repeat(first|exact Stays.nil|refine Stays.cons sFix.stays ?_)
        simp only[List.take_succ_cons,List.take_zero,List.drop_succ_cons,List.drop_zero]
        repeat
         refine relAt_det rfl rfl ?_
         apply Exists.intro
         refine⟨fun wr nr hJ=>?_,?_⟩
         ·have qw:=(HR9.o.blk.ext hJ (by simp)).cell;unfold wkA fnV at qw;have qwl:=(HR9.o.blk.ext hJ (by simp)).lt;clear hJ;(go_simp;try go_bits)
          first|rfl|exact⟨rfl,rfl⟩
         simp only[Act.put,List.setIfInBounds_toArray,List.set_cons_succ,List.set_cons_zero]
        refine relAt_det rfl rfl ?_
        apply Exists.intro
        refine⟨fun wr nr hJ=>?_,?_⟩
        ·exact exec_load_wide 43 _ rfl sb 0 rfl arrT ((HBX2.o _ HR9.o.ext).ext hJ (by simp)).wide _ Tryz.underlying43 rfl HSZ2.o
        simp only[Act.put,List.setIfInBounds_toArray,List.set_cons_succ,List.set_cons_zero]
        repeat
         refine relAt_det rfl rfl ?_
         apply Exists.intro
         refine⟨fun wr nr hJ=>?_,?_⟩
         ·have qw:=(HR9.o.blk.ext hJ (by simp)).cell;unfold wkA fnV at qw;have qwl:=(HR9.o.blk.ext hJ (by simp)).lt;clear hJ;(go_simp;try go_bits)
          first|rfl|exact⟨rfl,rfl⟩
         simp only[Act.put,List.setIfInBounds_toArray,List.set_cons_succ,List.set_cons_zero]
        refine relAt_nil (fun w5 hJ hF=>?_)
        have HR10:=hd (HR9.o.grow HSV.o hJ);have HM10:=hd (HM9.o.ext hJ List.not_mem_nil);clear hF hJ;go_wp2_with fail
        rw[HSV.o.enters,Oper.upon_enter];refine(HCALL.o j hlt2 d3 _ HR10.o.inv (HX12.o.trans HR10.o.ext) HM10.o).mono ?_
        rintro e w6 ⟨rfl,hE,hI⟩;have HR11:=hd (HR10.o.seen HSV.o hE hI);have HB11:=hd (HBX.o _ (HX12.o.trans HR11.o.ext));clear hE hI;have q1:=HB11.o.cell;have ql:=HB11.o.lt;go_wp2_with fail
        go_roundw
        case rel=>exact⟨j+1,s3+1,_,rfl,by omega,HR11,hd (.inl ⟨by have:=HOJ2.o.1;omega,hst1,by rw[HRWJ.o,<-List.append_assoc,<-HOJ2.o.2]⟩)⟩
        case measure=>simp[intOf];omega
       ·have e2:decide (s3+1<=M)=false:=by simpa using hst1
        rw[e2];go_wp2_with fail
        go_meet
        refine⟨s3+1,d3,hd ⟨HX12.o.trans HRn.o.ext,HRn.o.blk,HRn.o.map,HRn.o.inv⟩,hd ?_⟩
        have hm:=HMUL.o;rcases HOJ.o with⟨h1,h2,h3⟩|⟨h1,h2,h3⟩
        ·exact .inr ⟨by omega,by omega,by omega⟩
        ·exact .inr ⟨by omega,by omega,by omega⟩
      ·have hjn:j=mn:=by omega
       subst hjn;have e0:¬V j<h.hi:=fun hh=>hlt2 ((HVL.o j).1 hh)
       have e1:decide (V j<h.hi)=false:=by simpa using e0
       clear e0;go_wp2_with fail
       go_meet
       refine⟨s3,d3,hd ⟨HX12.o.trans HRj.o.ext,HRj.o.blk,HRj.o.map,HRj.o.inv⟩,hd ?_⟩
       have hm:=HMUL.o;rcases HOJ.o with⟨h1,h2,h3⟩|⟨h1,h2,h3⟩
       ·exact .inl ⟨by omega,h2,by rw[HVT.o,<-List.append_assoc];exact h3⟩
       ·exact .inr ⟨by omega,h2,by omega⟩
    case rest=>
     obtain⟨s3,d3,HR6,HOK6⟩:=hcut;go_wp2_with fail
     go_roundw
     case rel=>exact⟨k+1,s3,d3,by go_num,by omega,HR6,HOK6⟩
     case measure=>simp[intOf];omega
   ·have hkn:k=bn:=by omega
    have HT:Hd (b.take k=b):=hd (List.take_of_length_le (by have:=HBN.o;omega));obtain⟨o,hmo⟩:=HR.o.map;have HMO:=hd hmo;clear hmo;subst hkn;go_wp2_with fail
    refine bodyPost_end (results_none rfl _ _ _) rfl ⟨rfl,s2,no,d2,setL env o h.var,HEx.o.nil.trans HR.o.ext,HR.o.blk,HMO.o,⟨o,rfl⟩,HR.o.inv,by omega,fun _ _=>by omega,?_⟩
    rcases HOK.o with⟨h1,h2,h3⟩|⟨h1,h2,h3⟩
    ·exact .inl ⟨h1,by omega,by rw[h3,HT.o]⟩
    ·exact .inr ⟨h1,h2,h3⟩
end
end Go.Proofs.YtfppibmloloakaaGreatDoor
