import Derived.Test.YtfppibmloloakaaGreatDoorK21
import Derived.Test.YtfppibmloloakaaGreatDoorK22
import Derived.Test.YtfppibmloloakaaGreatDoorK16
namespace Go.Proofs.YtfppibmloloakaaGreatDoor
open Go.RowKit Go.Proofs.Tryz
set_option linter.all false
set_option maxHeartbeats 64000000
structure Na (env:Env)(names:List ByteArray):Prop where
 bdd:∀p∈env,Bdd p.2
 len:env.length<=8
 nam:env.map Prod.fst=names
 size:∀x∈names,ByteArray.size x<=8
theorem Agn {env:Env}(h:∀p∈env,Bdd p.2)(v:ByteArray):Bdd (lk env v):=by
 unfold lk;cases hf:env.find? (fun p=>eqS p.1 v) with
 | none=>exact⟨by decide,by decide⟩
 | some p=>exact h p (List.mem_of_find?_eq_some hf)
structure AfG (a:Af):Prop where
 base:Bdd a.base
 len:a.ts.length<=10
 num:∀t∈a.ts,Bdd t.2
 size:∀t∈a.ts,t.1.size<=1000000
theorem AfG.of {names:List ByteArray}{a:Af}(h:Cn names a=0)(hn:∀x∈names,x.size<=8):AfG a:=by
 obtain⟨h1,h2,h3,h4,h5⟩:=Jo h;refine⟨Qo.1 h2,h1,fun t ht=>?_,fun t ht=>?_⟩
 ·have:=List.any_eq_false.1 h3 t ht;unfold Lg at this;simp at this;exact Qo.1 this.1
 ·have:=List.any_eq_false.1 h5 t ht;unfold Fh at this;simp at this;unfold Fy at this;obtain⟨x,hx,he⟩:=List.any_eq_true.1 this;have hs:=hn x hx;have:=congrArg List.length ((Hg _ _).1 he);simp only[ByteArray.toList_eq,Array.length_toList] at this;have e1:x.size=x.data.size:=rfl;have e2:t.1.size=t.1.data.size:=rfl;omega
def Nk (env:Env)(a:Af)(k:Nat):Int:=(a.ts.take k).foldl (fun n t=>n+t.2*lk env t.1) a.base
theorem Sl {env:Env}{a:Af}{k:Nat}{t:ByteArray×Int}(h:a.ts[k]? = some t):Nk env a (k+1)=Nk env a k+t.2*lk env t.1:=by
 unfold Nk;rw[Jr h,Rk]
theorem Pf {env:Env}{a:Af}(h:AfG a)(he:∀p∈env,Bdd p.2):∀k,k<=a.ts.length->-(100000+k*10000000000:Int)<=Nk env a k/\Nk env a k<=100000+k*10000000000
 | 0,_=>by have:=h.base;unfold Bdd at this;simp[Nk];omega
 | k+1,hk=>by
  have ih:=Pf h he k (by omega);have hx:=jJ (show k<a.ts.length by omega);rw[Sl hx];have:=Qn (h.num (a.ts[k]'(by omega)) (List.getElem_mem ..)) (Agn he (a.ts[k]'(by omega)).1);push_cast
  omega
theorem Ve {env:Env}{a:Af}{k:Nat}(h:a.ts.length<=k):Nk env a k=evA env a:=by unfold Nk evA;rw[List.take_of_length_le h]
theorem Acv {env:Env}{a:Af}(h:AfG a)(he:∀p∈env,Bdd p.2) : -1000000000000<=evA env a/\evA env a<=1000000000000:=by
 have:=Pf h he _ (jD _);rw[Ve (jD _)] at this;have:=h.len;omega
set_option maxRecDepth 100000 in
theorem Qu (a:Af)(mb:Nat)(env:Env)(w:World)(ha:Jn w a)(hg:AfG a)(hm:Bw w mb env)(he:∀p∈env,Bdd p.2) :
  Calls prog 84 #[afV a,.map (some mb)] w fun e w'=>e=.returned (.int .i64 (evA env a))/\Ext [] w w':=by
 have a8:=hd (Pf hg he);have ab:=hd (fun k t=>@Sl env a k t);have ac:=hd (fun k=>@Ve env a k);have HG:=hd hg;have HM:=hd hm;have ag:=hd (Agn he);have aa:Nk env a 0=a.base:=rfl;generalize evA env a=E at *;generalize Nk env a=F at *;obtain⟨base,tA,tc,ts⟩:=a;generalize ht:ts.length=n;have al:n<=10:=by have:=hg.len;simp only at this;omega
 have HA:Hd (Ak w tA 2 tmC ts):=hd ha;have HT:=hd ht;clear ha hg hm he;unfold afV;simp only[ht];simp only at aa a8 ab ac;clear ht;have ah:=hd aa;clear aa;have ai:=hd ((jF [] w).alloc (.cells #[base,.slice tA n tc] 38));go_enter func84,ntmps84
 go_wp2_with fail
 generalize World.alloc w _=w0 at *;go_loopw [5,13] (fun z i wr=>∃k:Nat,i=.int .i64 k/\z=.int .i64 (F k)/\k<=n/\Hd (Ext [] w wr)) (fun _ i _=>(n-intOf i).toNat)
 case atStart=>exact⟨0,rfl,by rw[ah.o],jQ _,ai⟩
 case round=>
  obtain⟨k,rfl,rfl,hk,HE⟩:=hrel;rename World=>wq
  by_cases an:k<n
  ·obtain⟨b,⟨x0,x1⟩,rfl,hx,hc⟩:=(HA.o.keep HE.o).at (i:=k) (by have:=HT.o;omega);have g0:=hc 0 _ rfl;have g1:=hc 1 _ rfl;rw[Nat.add_zero] at g0;have HX:=hd (ab.o k _ hx);have a1:=ilm hx;have ad:=hd (HE.o.alloc (.cells #[.string x0,x1] 178));have aj:=(HM.o.ext ad.o jH).look (HG.o.size _ a1);have a2:=HG.o.num _ a1;have a6:=ag.o x0;have ae:=Qn a2 a6;have af:=a8.o k (by have:=HT.o;omega);have a7:=a8.o (k+1) (by have:=HT.o;omega);rw[HX.o] at a7;simp only at aj a2 a6 ae af a7 HX;generalize lk env x0=y at *;unfold Bdd at a2 a6;have am:=hd a7;have ak:(k:Int)<=10:=by omega
   generalize F k=fk at *;have m1 : -9223372036854775808<=x1*y:=by omega
   have m2:x1*y<=9223372036854775807:=by omega
   have m3 : -9223372036854775808<=fk+x1*y:=by omega
   have m4:fk+x1*y<=9223372036854775807:=by omega
   clear hx hc a1 a7 a2 a6 ae af ak;go_wp2_with fail
   go_roundw
   case rel=>exact⟨k+1,by go_num,by rw[HX.o],by omega,ad⟩
   case measure=>simp[intOf];omega
  ·have HF:=hd (ac.o k (by have:=HT.o;omega));go_wp2_with fail
   go_ret
   exact⟨Ae HF.o,HE.o⟩
def Qv (l:List St):Prop:=∀(A:Option Addr) (n cap:Nat) (w:World),Ak w A 21 stC l->(∀s∈l,Gc w s)->l.length=n->Ab l<=3000->Calls prog 89 #[.slice A n cap] w fun e w'=>e=.returned (.int .i64 (Ab l:Nat))/\Ext [] w w'
set_option maxRecDepth 100000 in
theorem Yt (l:List St)(ih:∀s∈l,Qv s.body):Qv l:=by
 intro A n cap w hR hS hn h3;have aw:n<=1000000:=by have:=hR.1;omega
 have HI:=hd ih;have HR:=hd hR;have HS:=hd hS;have HN:=hd hn;have H3:=hd h3;clear ih hR hS hn h3;go_enter func89,ntmps89
 go_wp2_with fail
 go_loopw [3,8] (fun z i wr=>∃k:Nat,i=.int .i64 k/\z=.int .i64 (Ab (l.take k):Nat)/\k<=n/\Hd (Ext [] w wr)) (fun _ i _=>(n-intOf i).toNat)
 case atStart=>exact⟨0,rfl,by simp[Ab],jQ _,hd (jF _ _)⟩
 case round=>
  obtain⟨k,rfl,rfl,hk,HE⟩:=hrel;rename World=>wq
  by_cases aB:k<n
  ·obtain⟨b,x,rfl,hx,hc⟩:=(HR.o.keep HE.o).at (i:=k) (by have:=HN.o;omega);obtain⟨h,bs⟩:=x;have ax:=hd hx;have aa:=ilm hx;have ae:=(HS.o _ aa).all;have aj:=hd (Hs hx);have ak:=Km hx;have ac:Ab (l.take k)+Be (.mk h bs)<=3000:=nt ak H3.o;have al:Be (.mk h bs)=(if h.k=3 then 1 else 0)+Ab bs:=by rw[Be]
   have af:=hd al;have aq:Ab bs<=3000:=by have:(0:Nat)<=if h.k=3 then 1 else 0:=jQ _;omega
   have am:Qv bs:=HI.o _ aa;have a8:=hd (fun W (hW:Ext [] w W)=>am h.A bs.length h.cap W (ae.2.2.2.2.2.2.1.keep hW) (fun s hs=>(ae.2.2.2.2.2.2.2 s hs).keep hW) rfl aq);have HW:=hd (fun j v hv=>hc j v hv:∀(j:Nat) (v:Value),(Ai h bs.length h.val.h h.val.ks.length).toList[j]? = some v->wq.cell? ⟨b,k*21+j,none⟩=some v);have ag:=hd (jK wq 43 (Ai h bs.length h.val.h h.val.ks.length));have ad:=hd (HE.o.alloc (.cells (Ai h bs.length h.val.h h.val.ks.length) 43));obtain⟨a0,a1,a2,a3,a4,a5,a6,a7,-⟩:=Cf h bs.length h.val.h h.val.ks.length;have an:=hd (show(prog.info? 43).map (·.size)=some (Ai h bs.length h.val.h h.val.ks.length).size from Dv);have ao:=hd (show zSt.size=(Ai h bs.length h.val.h h.val.ks.length).size from rfl);have ap:=hd (Cz h bs.length h.val.h h.val.ks.length);clear hx hc aa ae ak al am;generalize Ai h bs.length h.val.h h.val.ks.length=arr at *;generalize hP:Ab (l.take k)=P at *;generalize hL:Ab bs=L at *;clear hP hL;have hq:∀c:Prop,[Decidable c]->(if c then 1 else 0:Nat)<=1:=fun c _=>by split<;>omega
   have ay:P+L<=3000:=by have h1:=af.o;have h2:(0:Nat)<=if h.k=3 then 1 else 0:=jQ _;omega
   clear hq
   go_upto_region 5 with(first
    | refine Ac rfl 43 _ rfl b (k*21) rfl arr HW.o _ underlying43 rfl an.o ?_
    | refine Ax rfl rfl 43 _ _ rfl rfl zSt (Ge _) arr rfl rfl an.o ao.o ap.o ?_)
   generalize World.alloc wq _=w1 at *;generalize wq.heap.size=s1 at *;have qb:=ag.o.cell;have az:=ag.o.lt;clear HW ao ap ag;by_cases ab:h.k=3
   ·have ah:=hd (show Be (.mk h bs)=1+L by rw[af.o,ijp ab]);have hk3':(h.k==3)=true:=by simpa using ab
    clear ab ac;have aA:P+(1+L)<=3001:=by omega
    go_wp2_with fail
    refine(a8.o _ ad.o).mono ?_
    rintro r w2 ⟨rfl,hE⟩;have ai:=hd (ad.o.trans hE);clear hE;go_wp2_with fail
    go_roundw
    case rel=>exact⟨k+1,by go_num,by rw[aj.o,ah.o];congr 1;push_cast;omega,by omega,ai⟩
    case measure=>simp[intOf];omega
   ·have ah:=hd (show Be (.mk h bs)=L by rw[af.o,ijn ab,Nat.zero_add]);have hk3':(h.k==3)=false:=by simpa using ab
    clear ab ac;go_wp2_with fail
    refine(a8.o _ ad.o).mono ?_
    rintro r w2 ⟨rfl,hE⟩;have ai:=hd (ad.o.trans hE);clear hE;go_wp2_with fail
    go_roundw
    case rel=>exact⟨k+1,by go_num,by rw[aj.o,ah.o];first|rfl|(congr 1;done)|(congr 1;push_cast;omega),by omega,ai⟩
    case measure=>simp[intOf];omega
  ·have au:k=n:=by omega
   subst au;have HT:Hd (l.take k=l):=hd (List.take_of_length_le (by have:=HN.o;omega));go_wp2_with fail
   go_ret
   exact⟨Ae (by rw[HT.o]),HE.o⟩
theorem Nu:∀s:St,Qv s.body:=Dn fun h b ih=>Yt b ih
def wkA (m s n:Int)(v:Value):Array Value:=#[.int .i64 m,.int .i64 s,.int .i64 n,v]
set_option maxRecDepth 100000 in
theorem Ago (wb:Nat)(m s n:Int)(v:Value)(w:World)(hb:Blk w wb 84 (wkA m s n v))(hs:0<=s/\s<=1000000000)(hm:0<=m/\m<=1000000000) :
  Calls prog 86 #[.pointer (some wb)] w fun e w'=>e=.returned (.bool (decide (s+1<=m)))/\Ext [wb] w w'/\Blk w' wb 84 (wkA m (s+1) n v):=by
 have HB:=hd hb;have qc:=hb.cell;have qf:=hb.frozen;have a2:=hb.lt;clear hb;unfold wkA at *;have a1:Hd (Blk (w.setCell ⟨wb,1,none⟩ (.int .i64 (s+1))) wb 84 #[m,(s+1:Int),n,v]):=hd (HB.o.set_' 1 (.int .i64 (s+1)) _ rfl);have a6:=hd (jL (b:=wb) (i:=1) (u:=.int .i64 (s+1)) (.inl (by simp)) (jF [wb] w));go_enter func86,ntmps86
 go_upto_region 2 with fail
 generalize World.setCell _ _ _=w1 at *;clear qc qf a2 HB;have qc:=a1.o.cell;have a2:=a1.o.lt;go_wp2_with fail
 go_region
 go_wp2_with fail
 go_ret
 exact⟨Aa rfl,a6.o.drewN _,a1.o.drewN _⟩
section
theorem Yu {bs:List Bf}{env:Env}:∀ks:List Ex,(ks.any fun e=>!inE bs env e) = !Ox bs env ks
 | []=>rfl
 | e :: ks=>by
  simp only[List.any_cons,Ox,Yu ks];cases inE bs env e<;>simp
def Aa9 (w:World)(bA:Option Addr)(bs:List Bf):Prop:=Ak w bA 4 bfC bs/\∀b∈bs,1<=b.size/\b.size<=262144
theorem Aa9.keep {w w':World}{bA:Option Addr}{bs:List Bf}(h:Aa9 w bA bs)(hE:Ext [] w w'):Aa9 w' bA bs:=⟨h.1.keep hE,h.2⟩
theorem Ue:∀args w,(callFunc 131 args).run prog w=.ok (.enter 131 args) w:=by
 obtain⟨c,hc⟩:∃c,Tryz.f131.body=some c:=⟨_,rfl⟩;exact fun args w=>enters_of func131 (by kernel_rfl) hc args w
set_option maxRecDepth 100000 in
theorem Aba (x:Ex)(pb vb mb:Nat)(bA:Option Addr)(nb bc:Nat)(v1:Value)(t:Bool)(w:World)(hp:Blk w pb 29 #[.slice bA nb bc,v1])(hv:Blk w vb 85 #[.map (some mb)])
  (hc:∀W,Ext [] w W->Calls prog 85 #[.agg #[.slice bA nb bc,v1],exV x,.map (some mb)] W (Fk t W)) :
  Calls prog 131 (#[exV x] ++ #[.pointer (some pb),.pointer (some vb)]) w (Fk t w):=by
 have HC:=hd hc;have qp:=hp.cell;have a6:=hp.lt;have qv:=hv.cell;have a7:=hv.lt;clear hc hp hv;obtain⟨⟨x0,x1,x2,x3,x4,x5,x6,⟨y0,y1,y2,y3⟩,x8,x9⟩,ks⟩:=x;dsimp only[exV,Gt] at *;generalize ks.length=n at *;generalize y3.length=m at *;have a1:=hd ((jF [] w).alloc (.cells #[x0,x1,x2,x3,x4,x5,x6,y0,.slice y1 m y2,.slice x8 n x9] 41));go_enter func131,ntmps131
 go_wp2_with fail
 refine(HC.o _ a1.o).mono ?_
 rintro r w1 ⟨rfl,hE⟩;have a2:=hd (a1.o.trans hE);clear hE;go_wp2_with fail
 go_ret
 exact⟨Aa rfl,a2.o⟩
set_option maxRecDepth 100000 in
theorem Agp:∀(e:Ex) (names:List ByteArray) (env:Env) (bA:Option Addr) (nb bc:Nat) (v1:Value) (bs:List Bf) (mb:Nat) (w:World),Gu w e->Bs names nb e=0->Aa9 w bA bs->bs.length=nb->Bw w mb env->Na env names->
  Calls prog 85 #[.agg #[.slice bA nb bc,v1],exV e,.map (some mb)] w (Fk (!inE bs env e) w):=by
 refine Gs fun h ks ih=>?_
 intro names env bA nb bc v1 bs mb w hX hx hB hnb hM hG;have HI:=hd ih;have HO:=hd (Tv.of hx);have ap:=hd (AfG.of (Nn (Kp hx).1).2.2.2.2 hG.size);have HX:=hd hX;have HR:=hd hX.row;have HA:=hd hX.at
 have HB:=hd hB;have HM:=hd hM;have HG:=hd hG;have ae:=hd hnb;have aS:ks.length<=1000000:=hX.row.1;have a8:Hd (inE bs env (.mk h ks)=(inX bs env h&&Ox bs env ks)):=hd (by rw[inE]);have aI:=hd (Acv ap.o hG.bdd);have aE:=hd (fun W (hW:Ext [] w W)=>Qu h.at_ mb env W (hX.at.keep hW) ap.o (hM.ext hW jH) hG.bdd);clear ih hX hx hB hnb hM hG;show Calls _ _ #[_,Gt h ks.length,_] _ _
 have am:Hd ((ks.any fun e=>!inE bs env e) = !Ox bs env ks):=hd (Yu ks);have aJ:Hd (ks=[]->Ox bs env ks=true):=hd fun h=>by subst h;rfl
 generalize hn:ks.length=n at *;have HN:=hd hn;clear hn;have aq:=hd ((((jF [] w).alloc (.cells #[.slice bA nb bc,v1] 29)).alloc (.cells (Dd h n) 41)).alloc (.cells #[.map (some mb)] 85));have an:=hd (((jK w 29 #[.slice bA nb bc,v1]).alloc (.cells (Dd h n) 41)).alloc (.cells #[.map (some mb)] 85));have af:=hd ((jK (w.alloc (.cells #[.slice bA nb bc,v1] 29)) 41 (Dd h n)).alloc (.cells #[.map (some mb)] 85));have ag:=hd (jK ((w.alloc (.cells #[.slice bA nb bc,v1] 29)).alloc (.cells (Dd h n) 41)) 85 #[.map (some mb)]);rw[Bm] at af;rw[Bm,Bm] at ag
 have aF:Hd (∀e'∈ks,∀W,Ext [] w W->Calls prog 85 #[.agg #[.slice bA nb bc,v1],exV e',.map (some mb)] W (Fk (!inE bs env e') W)):=hd fun e' he W hW=>
  HI.o e' he names env bA nb bc v1 bs mb W ((HX.o.kid he).keep hW) (HO.o.kids e' he) (HB.o.keep hW) ae.o (HM.o.ext hW jH) HG.o
 have aa:=hd (show(h.k=1\/h.k=2\/h.k=3->ks=[])/\(h.k=4->(1<=h.n/\h.n<=100000)/\(1<=h.m/\h.m<=262144))/\(h.k=3\/h.k=4->0<=h.buf/\h.buf<nb) from⟨HO.o.none,fun h=>⟨(HO.o.one h).2.1,(HO.o.one h).2.2.1⟩,HO.o.buf⟩);have a2:Hd (inX bs env h=if h.k=2 then Dt (evA env h.at_) else if h.k=3 then decide (0<=evA env h.at_)&&decide (evA env h.at_<Hj bs h.buf) else if h.k=4 then decide (0<=evA env h.at_)&&decide (evA env h.at_+h.n*(h.m-1)<Hj bs h.buf) else true):=hd rfl;generalize evA env h.at_=av at *;generalize inX bs env h=IX at *;generalize Ox bs env ks=IL at *;clear HI HX HO ap HA;obtain⟨x0,x1,x2,x3,x4,x5,x6,⟨y0,y1,y2,y3⟩,x8,x9⟩:=h;dsimp only[Gt,Dd,afV] at *;generalize y3.length=m at *;go_enter func85,ntmps85
 go_upto_region 1 with fail
 generalize World.alloc (World.alloc (World.alloc w _) _) _=w2 at *;generalize w.heap.size=s at *;have q3:=an.o.cell;have au:=an.o.lt;have q4:=af.o.cell;have ao:=af.o.lt;have q5:=ag.o.cell;have aw:=ag.o.lt;go_wp2_with fail
 refine(aE.o _ aq.o).mono ?_
 rintro r w4 ⟨rfl,hE⟩;clear q3 au q4 ao q5 aw;have a6:=hd (aq.o.trans hE);have ax:=hd (an.o.ext hE (by simp));have ay:=hd (af.o.ext hE (by simp));have az:=hd (ag.o.ext hE (by simp));have q3:=ax.o.cell;have au:=ax.o.lt;have q4:=ay.o.cell;have ao:=ay.o.lt;have q5:=az.o.cell;have aw:=az.o.lt;clear hE aq an af ag aE
 have a1:Hd (∀W,Ext [] w4 W->Calls prog 130 #[.slice x8 n x9,.func (.func 131) #[] #[.pointer (some s),.pointer (some ⟨s+2,0,none⟩)]] W (Fk (ks.any fun e=>!inE bs env e) W)):=hd fun W hW=>
  Aj4 x8 n x9 ks 131 #[.pointer (some s),.pointer (some ⟨s+2,0,none⟩)] (fun e=>!inE bs env e) W (HR.o.keep (a6.o.trans hW)) HN.o ⟨Ue,fun i x hx w' hE=>
   Aba x s (s+2) mb bA nb bc v1 _ w' (ax.o.ext (hW.trans hE) (by simp)) (az.o.ext (hW.trans hE) (by simp)) fun W' hW'=>aF.o x (ilm hx) W' (a6.o.trans ((hW.trans hE).trans hW'))⟩
 clear aF;by_cases h2:x0=2
 ·have aG:=hd (show IX=Dt av by rw[a2.o,ijp h2]);have HL:=hd (aJ.o (aa.o.1 (by omega)));subst h2;clear a2 aa HB;go_wp2_with fail
  refine(Ic _ _).mono ?_
  rintro r w5 ⟨rfl,rfl⟩;cases hw:Dt av
  ·have HF:=hd (show(!inE bs env (.mk ⟨2,x1,x2,x3,x4,x5,x6,⟨y0,y1,y2,y3⟩,x8,x9⟩ ks))=true by rw[a8.o,aG.o,hw];rfl);clear hw;go_wp2_with fail
   go_ret
   exact⟨Aa HF.o.symm,a6.o⟩
  ·have HW:=hd hw;clear hw;go_wp2_with fail
   refine(a1.o _ (jF _ _)).mono ?_
   rintro e w6 ⟨rfl,hE⟩;have ac:=hd (a6.o.trans hE);clear hE a1;go_wp2_with fail
   go_ret
   exact⟨Aa (by rw[am.o,a8.o,aG.o,HW.o,Bool.true_and]),ac.o⟩
 ·by_cases h3:x0=3
  ·have ab:=hd (show IX=(decide (0<=av)&&decide (av<Hj bs x6)) by rw[a2.o,ijn h2,ijp h3]);subst h3;clear a2 h2;have ah:=aa.o.2.2 (by omega);obtain⟨bi,rfl⟩:∃bi:Nat,x6=bi:=⟨x6.toNat,by omega⟩;have ai:bi<bs.length:=by have:=ae.o;omega
   obtain⟨bb,x,rfl,ad,al⟩:=(HB.o.keep a6.o).1.at ai;have aK:=HB.o.2 x (ilm ad);have aj:Hd (Hj bs bi=x.size):=hd (Kc ah.1 (by rw[Int.toNat_natCast];exact ad));have qs:w4.cell? ⟨bb,bi*4+1,none⟩=some (.int .i64 x.size):=al 1 _ rfl;have aA:=jB w4 _ qs;simp only at aA;have aL:(bi:Int)<(nb:Int):=by have:=ae.o;omega
   rw[aj.o] at ab;generalize x.size=sz at *;clear al ad aa ai ah;have aH:=hd (show IX=btw av 0 (sz-1) by rw[ab.o];unfold btw;congr 1;rw[decide_eq_decide];omega);clear ab aj;go_wp2_with fail
   refine(Ay _ _ _ _).mono ?_
   rintro r w5 ⟨rfl,rfl⟩;cases hw:btw av 0 (sz-1)
   ·have HF:=hd (a8.o.trans (by rw[aH.o,hw,Bool.false_and]));clear hw;go_wp2_with fail
    go_ret
    exact⟨Aa (by rw[HF.o];rfl),a6.o⟩
   ·have HW:=hd (aH.o.trans hw);clear hw;go_wp2_with fail
    refine(a1.o _ (jF _ _)).mono ?_
    rintro e w6 ⟨rfl,hE⟩;have ac:=hd (a6.o.trans hE);clear hE a1;go_wp2_with fail
    go_ret
    exact⟨Aa (by rw[am.o,a8.o,HW.o,Bool.true_and]),ac.o⟩
  ·by_cases h4:x0=4
   ·have ab:=hd (show IX=(decide (0<=av)&&decide (av+x4*(x5-1)<Hj bs x6)) by rw[a2.o,ijn h2,ijn h3,ijp h4]);have aB:=aa.o.2.1 h4;subst h4;clear a2 h2 h3;have ah:=aa.o.2.2 (by omega);obtain⟨bi,rfl⟩:∃bi:Nat,x6=bi:=⟨x6.toNat,by omega⟩;have ai:bi<bs.length:=by have:=ae.o;omega
    obtain⟨bb,x,rfl,ad,al⟩:=(HB.o.keep a6.o).1.at ai;have aK:=HB.o.2 x (ilm ad);have aj:Hd (Hj bs bi=x.size):=hd (Kc ah.1 (by rw[Int.toNat_natCast];exact ad));have qs:w4.cell? ⟨bb,bi*4+1,none⟩=some (.int .i64 x.size):=al 1 _ rfl;have aA:=jB w4 _ qs;simp only at aA;have aL:(bi:Int)<(nb:Int):=by have:=ae.o;omega
    rw[aj.o] at ab;generalize x.size=sz at *;clear al ad aa ai ah aj;have aC:0<=x4*(x5-1)/\x4*(x5-1)<=100000*262144:=⟨Int.mul_nonneg (by omega) (by omega),Int.mul_le_mul (by omega) (by omega) (by omega) (by omega)⟩;obtain⟨⟨n1,n2⟩,⟨m1,m2⟩⟩:=aB;have aD:=aI.o;generalize a7:x4*(x5-1)=pr at *;have aM : -9223372036854775808<=x4*(x5-1):=by rw[a7];omega
    have aN:x4*(x5-1)<=9223372036854775807:=by rw[a7];omega
    have aO : -9223372036854775808<=av+x4*(x5-1):=by rw[a7];omega
    have aP:av+x4*(x5-1)<=9223372036854775807:=by rw[a7];omega
    have aT:=hd a7;by_cases ha:av<0
    ·have e1:decide (av<0)=true:=by simpa using ha
     have HF:=hd (a8.o.trans (by rw[ab.o,show decide (0<=av)=false by simp;omega,Bool.false_and,Bool.false_and]));clear ha a7 aC aD;go_upto_region 10 with fail
     go_quiet (fail)
     go_wp2_with fail
     go_ret
     exact⟨Aa (by rw[HF.o];rfl),a6.o.drewN _⟩
    ·have e1:decide (av<0)=false:=by simpa using ha
     by_cases hb:sz<=av+pr
     ·have e5:decide (sz<=av+x4*(x5-1))=true:=by rw[a7];simpa using hb
      have HF:=hd (a8.o.trans (by rw[ab.o,show decide (av+pr<sz)=false by simp;omega,Bool.and_false,Bool.false_and]));clear ha hb a7 aC aD;go_upto_region 10 with fail
      go_quiet (fail)
      go_wp2_with fail
      go_ret
      exact⟨Aa (by rw[HF.o];rfl),a6.o.drewN _⟩
     ·have e5:decide (sz<=av+x4*(x5-1))=false:=by rw[a7];simpa using hb
      have HW:=hd (show IX=true by rw[ab.o];simp;omega);clear ha hb a7 aC aD;go_upto_region 10 with fail
      go_quiet (fail)
      have aQ:=hd (a6.o.drewN nq);have aR:=hd ((jF [] w4).drewN nq);have ak:=hd (ay.o.drewN nq);generalize World.drewN w4 nq=w5 at *;clear q3 au q4 ao q5 aw;have q4:=ak.o.cell;have ao:=ak.o.lt;go_wp2_with fail
      refine(a1.o _ aR.o).mono ?_
      rintro e w6 ⟨rfl,hE⟩;have ac:=hd (aQ.o.trans hE);clear hE a1;go_wp2_with fail
      go_ret
      exact⟨Aa (by rw[am.o,a8.o,HW.o,Bool.true_and]),ac.o⟩
   ·have HW:=hd (show IX=true by rw[a2.o,ijn h2,ijn h3,ijn h4]);have e2:(x0==2)=false:=by simpa using h2
    have e3:(x0==3)=false:=by simpa using h3
    have e4:(x0==4)=false:=by simpa using h4
    clear h2 h3 h4 a2 aa;go_wp2_with fail
    refine(a1.o _ (jF _ _)).mono ?_
    rintro e w6 ⟨rfl,hE⟩;have ac:=hd (a6.o.trans hE);clear hE a1;go_wp2_with fail
    go_ret
    exact⟨Aa (by rw[am.o,a8.o,HW.o,Bool.true_and]),ac.o⟩
attribute [local irreducible] Bj
set_option maxRecDepth 100000 in
theorem Agq (h:SH)(no:Nat)(names:List ByteArray)(env:Env)(bA:Option Addr)(nb bc:Nat)(v1:Value)(bs:List Bf)(mb:Nat)(w:World)(hX:Gc w (.mk h []))(hF:Fd nb names (.mk h []))(hk:h.k=3)(hB:Aa9 w bA bs)(hnb:bs.length=nb)(hM:Bw w mb env)(hG:Na env names) :
  Calls prog 37 #[.agg #[.slice bA nb bc,v1],Ez h 0,.map (some mb)] w (Fk (!inI bs ⟨no,h,env⟩) w):=by
 obtain⟨hb,ha,hx⟩:(0<=h.buf/\h.buf<nb)/\Cn names h.at_=0/\Bs names nb h.val=0:=by
  cases hF with
  | loop _ _ _ hk'=>omega
  | when _ _ _ hk'=>omega
  | store _ _ _ _ h1 h2 h3=>exact⟨h1,h2,h3⟩
 have ad:=hX.all;have ak:=AfG.of ha hG.size;have aF:=hd (Acv ak hG.bdd);have al:=hd (fun W (hW:Ext [] w W)=>Qu h.at_ mb env W (ad.2.2.1.keep hW) ak (hM.ext hW jH) hG.bdd);have aq:=hd (fun W (hW:Ext [] w W)=>Agp h.val names env bA nb bc v1 bs mb W (ad.2.2.2.1.keep hW) hx (hB.keep hW) hnb (hM.ext hW jH) hG);rw[Cq] at aq;have am:Hd (inI bs ⟨no,h,env⟩=(decide (0<=evA env h.at_)&&decide (evA env h.at_<Hj bs h.buf)&&inE bs env h.val)):=hd rfl;have HB:=hd hB;have aG:=hd hnb;have aA:∃bi:Nat,h.buf=bi:=⟨h.buf.toNat,by omega⟩;obtain⟨bi,ay⟩:=aA;have au:bi<bs.length:=by omega
 obtain⟨bb,x,aD,ap,az⟩:=hB.1.at au;have aw:Hd (Hj bs h.buf=x.size):=hd (Kc hb.1 (by rw[ay];exact ap));have aH:=hB.2 x (ilm ap);have aB:=hd (az 1 _ rfl:w.cell? ⟨bb,bi*4+1,none⟩=some (.int .i64 x.size));have aI:(bi:Int)<(nb:Int):=by omega
 rw[aw.o] at am;generalize x.size=sz at *;generalize aE:evA env h.at_=av at *;have ax:Hd (inI bs ⟨no,h,env⟩=(btw av 0 (sz-1)&&inE bs env h.val)):=hd (by rw[am.o];unfold btw;congr 2;rw[decide_eq_decide];omega);generalize inI bs ⟨no,h,env⟩=II at *;generalize inE bs env h.val=IE at *;clear hX hF hk hB hnb hM hG hb ha hx ad ak aw ap az aE am x au;unfold Ez;obtain⟨a0,a1,a2,a3,a4,a5,a6,a7,a8,a9,aa⟩:=Cf h 0 h.val.h h.val.ks.length;rw[ay] at a8;have HW:=hd (fun W s0=>Sd (W:=W) (s0:=s0) h 0 h.val.h h.val.ks.length);have af:=hd (((jF [] w).alloc (.cells #[.slice bA nb bc,v1] 29)).alloc (.cells (Ai h 0 h.val.h h.val.ks.length) 43));have ab:=hd ((jK w 29 #[.slice bA nb bc,v1]).alloc (.cells (Ai h 0 h.val.h h.val.ks.length) 43));have ac:=hd (jK (w.alloc (.cells #[.slice bA nb bc,v1] 29)) 43 (Ai h 0 h.val.h h.val.ks.length));rw[Bm] at ac;generalize ag:An h.val=va at *;have an:Hd (va=Ke h.val.h h.val.ks.length):=hd (by rw[<-ag];cases h.val;rfl);clear ag;subst aD;unfold afV at al;generalize h.at_.ts.length=m at *;generalize h.at_.base=y0 at *;generalize h.at_.A=y1 at *;generalize h.at_.cap=y2 at *;generalize Ai h 0 h.val.h h.val.ks.length=arr at *;unfold Ke at an HW;generalize h.val.h.at_.ts.length=mm at *;generalize h.val.ks.length=kk at *;generalize h.val.h=xx at *;have aC:=an.o;clear an;subst aC;go_enter func37,ntmps37
 go_upto_region 1 with fail
 generalize World.alloc (World.alloc w _) _=w2 at *;generalize w.heap.size=s at *;have ah:=hd (af.o.held aB.o (by simp):w2.cell? ⟨bb,bi*4+1,none⟩=some (.int .i64 sz));cases hw:btw av 0 (sz-1)
 ·have HF:=hd (show II=false by rw[ax.o,hw,Bool.false_and]);refine rgE 20 [(3,Cx (.int .i64 av)),(12,Cx (.bool false))] ?_
  simp only[TK]
  repeat(refine dE (fun wr nr hJ=>by(have q3:=(ab.o.ext hJ (by simp)).cell;have ai:=(ab.o.ext hJ (by simp)).lt;have q4:=(ac.o.ext hJ (by simp)).cell;have aj:=(ac.o.ext hJ (by simp)).lt;have qs:=hJ.held ah.o (by simp);have ae:=jB wr _ qs;simp only at ae);clear hJ;exact CL) ?_;simp only[PT])
  refine Gh rfl rfl ?_ ?_
  ·refine EC fun wr nr hJ=>?_
   exact(al.o wr (af.o.trans hJ)).mono (by rintro e w' ⟨rfl,hE⟩;exact⟨rfl,hE⟩)
  simp only[PT]
  repeat(refine dE (fun wr nr hJ=>by(have q3:=(ab.o.ext hJ (by simp)).cell;have ai:=(ab.o.ext hJ (by simp)).lt;have q4:=(ac.o.ext hJ (by simp)).cell;have aj:=(ac.o.ext hJ (by simp)).lt;have qs:=hJ.held ah.o (by simp);have ae:=jB wr _ qs;simp only at ae);clear hJ;exact CL) ?_;simp only[PT])
  refine Gh rfl rfl ?_ ?_
  ·refine EC fun wr nr hJ=>?_
   exact(Ay av 0 (sz-1) wr).mono (by rintro e w' ⟨rfl,rfl⟩;exact⟨by rw[hw],jF _ _⟩)
  simp only[PT]
  repeat(refine dE (fun wr nr hJ=>by(have q3:=(ab.o.ext hJ (by simp)).cell);clear hJ;exact CL) ?_;simp only[PT])
  iterate 5
   refine Im rfl ?_
   simp only[PT]
  refine Aj (fun w5 hJ hF=>?_)
  have ao:=hd (af.o.trans hJ);clear hF hJ;go_wp2_with fail
  go_ret
  exact⟨Aa (by rw[HF.o];rfl),ao.o⟩
 ·have HF:=hd (show II=IE by rw[ax.o,hw,Bool.true_and]);refine rgE 20 [(3,Cx (.int .i64 av)),(12,Cx (.bool true)),(19,Cx (.bool (!IE)))] ?_
  simp only[TK]
  repeat(refine dE (fun wr nr hJ=>by(have q3:=(ab.o.ext hJ (by simp)).cell;have ai:=(ab.o.ext hJ (by simp)).lt;have q4:=(ac.o.ext hJ (by simp)).cell;have aj:=(ac.o.ext hJ (by simp)).lt;have qs:=hJ.held ah.o (by simp);have ae:=jB wr _ qs;simp only at ae);clear hJ;exact CL) ?_;simp only[PT])
  refine Gh rfl rfl ?_ ?_
  ·refine EC fun wr nr hJ=>?_
   exact(al.o wr (af.o.trans hJ)).mono (by rintro e w' ⟨rfl,hE⟩;exact⟨rfl,hE⟩)
  simp only[PT]
  repeat(refine dE (fun wr nr hJ=>by(have q3:=(ab.o.ext hJ (by simp)).cell;have ai:=(ab.o.ext hJ (by simp)).lt;have q4:=(ac.o.ext hJ (by simp)).cell;have aj:=(ac.o.ext hJ (by simp)).lt;have qs:=hJ.held ah.o (by simp);have ae:=jB wr _ qs;simp only at ae);clear hJ;exact CL) ?_;simp only[PT])
  refine Gh rfl rfl ?_ ?_
  ·refine EC fun wr nr hJ=>?_
   exact(Ay av 0 (sz-1) wr).mono (by rintro e w' ⟨rfl,rfl⟩;exact⟨by rw[hw],jF _ _⟩)
  simp only[PT]
  repeat(refine dE (fun wr nr hJ=>by(have q3:=(ab.o.ext hJ (by simp)).cell;have ai:=(ab.o.ext hJ (by simp)).lt;have aj:=(ac.o.ext hJ (by simp)).lt;have c:=HW.o wr _ (ac.o.ext hJ (by simp));have c0:=c 0 _ rfl;have c1:=c 1 _ rfl;have c2:=c 2 _ rfl;have c3:=c 3 _ rfl;have c4:=c 4 _ rfl;have c5:=c 5 _ rfl;have c6:=c 6 _ rfl;have c7:=c 7 _ rfl;have c8:=c 8 _ rfl;have c9:=c 9 _ rfl;clear c;simp only[Nat.reduceAdd] at c0 c1 c2 c3 c4 c5 c6 c7 c8 c9);clear hJ;exact CL) ?_;simp only[PT])
  refine Gh rfl rfl ?_ ?_
  ·refine EC fun wr nr hJ=>?_
   exact(aq.o wr (af.o.trans hJ)).mono (by rintro e w' ⟨rfl,hE⟩;exact⟨rfl,hE⟩)
  simp only[PT];refine Aj (fun w5 hJ hF=>?_)
  have ao:=hd (af.o.trans hJ);clear hF hJ;go_wp2_with fail
  go_ret
  exact⟨Aa (by rw[HF.o]),ao.o⟩
end
section
theorem Kv (env:Env)(s:ByteArray):Hb env s=Fy (env.map Prod.fst) s:=by
 unfold Hb Fy;rw[List.any_map];congr 1
 funext p
 exact Lk _ _
theorem Na.inner {env:Env}{names:List ByteArray}{h:SH}{k:Nat}(hG:Na env names)(hl:names.length<8)(hn:Cy h.var=true)(hb:Bdd (Dj h k)):Na (Bh env h k) (names ++ [h.var]):=by
 refine⟨fun p hp=>?_,?_,?_,fun x hx=>?_⟩
 ·unfold Bh at hp;rcases jN.1 hp with h1|h1
  ·exact hG.bdd p h1
  ·rw[jA.1 h1];exact hb
 ·have:=congrArg List.length hG.nam;simp only[List.length_map] at this;simp[Bh];omega
 ·simp[Bh,hG.nam]
 ·rcases jN.1 hx with h1|h1
  ·exact hG.size x h1
  ·rw[jA.1 h1];exact((Kf _).1 hn).1.2
structure Sm (f:FuncId)(caps:Array Value)(C:List Nat)(n wb mb nb:Nat)(I:List Az->World->Prop):Prop where
 enters:∀args w,(callFunc f args).run prog w=.ok (.enter f args) w
 low:∀x∈C,n<=x/\x≠wb/\x≠mb
 wlow:n<=wb
 mlow:n<=mb
 apart:wb≠mb
 keep:∀d w w',Ext [wb,mb] w w'->I d w->I d w'
 call:∀(d:List Az) (h:SH) (no:Nat) (names:List ByteArray) (env:Env) (w:World),I d w->Gc w (.mk h [])->Fd nb names (.mk h [])->h.k=3->Bw w mb env->Na env names->no<=3000->
  Calls prog f (#[Ez h 0,.int .i64 no,.map (some mb)] ++ caps) w fun e w'=>e=.returned (.tuple #[])/\Ext C w w'/\I (d ++ [⟨no,h,env⟩]) w'
def fnV (f:FuncId)(caps:Array Value):Value:=.func (.func f) #[] caps
def Ad5 (M s N s' X:Nat)(d L d':List Az):Prop:=(s'=s+N/\s+N<=M/\d'=d ++ L)\/(M<s+N/\M<s'/\s'<=M+1+X)
def Yv (C:List Nat)(wb mb M s N st X:Nat)(no:Nat)(fv:Value)(Em:Env->Prop)(I:List Az->World->Prop)(d L:List Az)(w:World)(e:Ending)(w':World):Prop:=
 e=.returned (.tuple #[])/\∃(s' no':Nat) (d':List Az) (env':Env),Ext (wb :: mb :: C) w w'/\Blk w' wb 84 (wkA M s' no' fv)/\Bw w' mb env'/\Em env'/\I d' w'/\no'<=no+st/\(s'=s+N->s+N<=M->no'=no+st)/\Ad5 M s N s' X d L d'
structure Fa (C:List Nat)(wb mb M:Nat)(fv:Value)(I:List Az->World->Prop)(w0:World)(env:Env)(nm:ByteArray)(s no:Nat)(d:List Az)(w:World):Prop where
 ext:Ext (wb :: mb :: C) w0 w
 blk:Blk w wb 84 (wkA M s no fv)
 map:∃o,Bw w mb (Wz env o nm)
 inv:I d w
theorem Dx {P:Program}{o:Oper}{ev:Operand->Value}{w:World}(ty:TypeId)(x:Operand)(ho:o.op=.load ty x)(b n:Nat)(hx:ev x=.pointer (some ⟨b,n,none⟩))(arr:Array Value)
  (hc:∀(j:Nat) (v:Value),arr.toList[j]? = some v->w.cell? ⟨b,n+j,none⟩=some v) (d:TypeDesc)
  (hu:P.underlying ty=some d) (hd:(match d with|.struct _|.array _ _=>true|_=>false)=true) (hi:(P.info? ty).map (·.size)=some arr.size):(execOp ev o).run P w=.ok (.value (.agg arr)) w:=by
 unfold execOp;simp only[ho,hx,Instr.loadAt,Instr.sureAddr,Sem.run_bind,Sem.run_pure,Result.andThen_ok,Gv w ⟨b,n,none⟩ ty arr d hu hd hi (fun j v hv=>by rw[Addr.add_mk];exact hc j v hv)]
theorem Ol {P:Program}{ops:Array Oper}{rest:List Oper}{o q p:Oper}{a:Act}{w:World}{Q:Exit->Act->World->Prop}(hg1:o.guard=none)(hg3:q.guard=none)(hg2:p.guard=none)(ty:TypeId)(x y z1:Operand)(ho:o.op=.alloc ty)(hq:q.op=.assign z1)(hp:p.op=.store ty x y)
  (z:Array Value) (hz:(zeroValue ty).run P w=.ok (.agg z) w) (arr:Array Value) (a1:Act) (ha1:a1=(a.put o.dst (.pointer (some w.heap.size))).put q.dst ((a.put o.dst (.pointer (some w.heap.size))).eval z1)) (hx:a1.eval x=.pointer (some w.heap.size)) (hy:a1.eval y=.agg arr)
  (hi:(P.info? ty).map (·.size)=some arr.size) (hs:z.size=arr.size) (h1:arr.all (·.oneCell')=true)
  (h:wpList P ops Q rest (a1.put p.dst undef) (w.alloc (.cells arr ty))):wpList P ops Q (o :: q :: p :: rest) a w:=
 wpList_plain hg1 fun K hK=>by
  have a2:(w.alloc (.cells z ty)).heap[w.heap.size]? = some (.cells z ty (0,0)):=by show(w.heap.push _)[w.heap.size]? = _;simp
  unfold Oper.wp execOp;simp only[ho,Instr.alloc,Sem.run_bind,hz,Result.andThen_ok];simp[newVar,newRow,Value.cells];refine hK _ _ (wpList_plain hg3 fun K2 hK2=>?_)
  unfold Oper.wp execOp;simp only[hq];simp;change K2 ((a.put o.dst (.pointer (some w.heap.size))).put q.dst ((a.put o.dst (.pointer (some w.heap.size))).eval z1)) _;rw[<-ha1];refine hK2 _ _ (wpList_plain hg2 fun K' hK'=>?_)
  refine wp_store_row ty x y hp w.heap.size arr hx hy ty z a2 hi hs h1 ?_
  rw[Nx];exact hK' _ _ h
section
variable {f:FuncId} {caps:Array Value} {C:List Nat} {n wb mb nb M s no s' no':Nat} {fv:Value} {I:List Az->World->Prop} {w0 w w':World} {env:Env} {nm:ByteArray} {d d':List Az}
theorem Sm.wC (hS:Sm f caps C n wb mb nb I):wb∉C/\mb∉C:=⟨fun h=>(hS.low _ h).2.1 rfl,fun h=>(hS.low _ h).2.2 rfl⟩
theorem Fa.grow (h:Fa C wb mb M fv I w0 env nm s no d w)(hS:Sm f caps C n wb mb nb I)(hE:Ext [] w w'):Fa C wb mb M fv I w0 env nm s no d w':=
 ⟨h.ext.step hE (fun x hx=>absurd hx jH),h.blk.ext hE (by simp),by obtain⟨o,ho⟩:=h.map;exact⟨o,ho.ext hE jH⟩,hS.keep _ _ _ hE.nil h.inv⟩
theorem Fa.stepd (h:Fa C wb mb M fv I w0 env nm s no d w)(hS:Sm f caps C n wb mb nb I)(hE:Ext [wb] w w')(hB:Blk w' wb 84 (wkA M s' no' fv)):Fa C wb mb M fv I w0 env nm s' no' d w':=
 ⟨h.ext.step hE fun x hx=>.inl (by rw[jA.1 hx];exact jO ..),hB,by obtain⟨o,ho⟩:=h.map;exact⟨o,ho.ext hE (by rw[jA];exact Ne.symm hS.apart)⟩,hS.keep _ _ _ ((jF _ _).step hE fun x hx=>.inl (by rw[jA.1 hx];exact jO ..)) h.inv⟩
theorem Fa.maps {o:Option Int}(h:Fa C wb mb M fv I w0 env nm s no d w)(hS:Sm f caps C n wb mb nb I)(hE:Ext [mb] w w')(hM:Bw w' mb (Wz env o nm)):Fa C wb mb M fv I w0 env nm s no d w':=
 ⟨h.ext.step hE fun x hx=>.inl (by rw[jA.1 hx];exact jI _ (jO ..)),h.blk.ext hE (by rw[jA];exact hS.apart),⟨o,hM⟩,hS.keep _ _ _ ((jF _ _).step hE fun x hx=>.inl (by rw[jA.1 hx];exact jI _ (jO ..))) h.inv⟩
theorem Fa.seen (h:Fa C wb mb M fv I w0 env nm s no d w)(hS:Sm f caps C n wb mb nb I)(hE:Ext C w w')(hI:I d' w'):Fa C wb mb M fv I w0 env nm s no d' w':=
 ⟨h.ext.step hE fun x hx=>.inl (jI _ (jI _ hx)),h.blk.ext hE hS.wC.1,by obtain⟨o,ho⟩:=h.map;exact⟨o,ho.ext hE hS.wC.2⟩,hI⟩
end
theorem Mt (wb M s no:Nat)(v:Value)(w:World)(hb:Blk w wb 84 (wkA M s no v))(hs:s<=1000000000)(hm:M<=1000000000) :
  Calls prog 86 #[.pointer (some wb)] w fun e w'=>e=.returned (.bool (decide (s+1<=M)))/\Ext [wb] w w'/\Blk w' wb 84 (wkA M (s+1:Nat) no v):=by
 refine(Ago wb M s no v w hb (by omega) (by omega)).mono ?_
 rintro e w' ⟨rfl,hE,hB⟩;exact⟨by congr 2;rw[decide_eq_decide];omega,hE,hB⟩
set_option maxRecDepth 100000 in
theorem Aix (f:FuncId)(caps:Array Value)(C:List Nat)(wb mb nb M:Nat)(I:List Az->World->Prop)(w0 w:World)(h:SH)(b:List St)(names:List ByteArray)(env:Env)(s no:Nat)(d:List Az)
  (hS:Sm f caps C w0.heap.size wb mb nb I) (hCo:∀x∈C,x<w.heap.size) (hX:Gc w0 (.mk h b)) (hF:Fd nb names (.mk h b)) (hk:h.k=1) (hv:h.vec=true) (hG:Na env names) (hE0:Ext [] w0 w)
  (hB:Blk w wb 84 (wkA M s no (fnV f caps))) (hM:Bw w mb env) (hI:I d w) (hs:s<=M) (hMx:M<=100000000) (hno:no+b.length<=3000) :
  Calls prog 133 #[.pointer (some wb),Ez h b.length,.map (some mb)] w
   (Yv C wb mb M s (Ar h*(1+b.length)) 0 b.length no (fnV f caps) (fun e=>∃o,e=Wz env o h.var) I d (Ct env h no b) w):=by
 obtain⟨bc,bd,bK,aU,aV,aD,be,bf⟩:Cy h.var=true/\Fy names h.var=false/\names.length<8/\(-100000<=h.lo/\h.lo<=100000)/\(-100000<=h.hi/\h.hi<=100000)/\(1<=h.step/\h.step<=100000)/\(∀s∈b,s.h.k=3)/\∀s∈b,Fd nb (names ++ [h.var]) s:=by
  cases hF with
  | loop _ _ _ _ h1 h2 h3 h4 h5 h6 h7 h8=>exact⟨h1,h2,h3,h4,h5,h6,h7 hv,h8⟩
  | when _ _ _ hk'=>omega
  | store _ _ hk'=>omega
 have ae:=hX.all;have bm:=hd (show Hb env h.var=false by rw[Kv,hG.nam];exact bd);have ab:=hd hS;have aX:=hd hCo;have HG:=hd hG;have bo:=hd (fun j hj=>hG.inner (k:=j) bK bc (Es aU aV aD hj):∀j,j<Ar h->Na (Bh env h j) (names ++ [h.var]));have bp:Hd (env.length<=900):=hd (by have:=hG.len;omega);have bq:=hd ae.2.2.2.2.2.2.1;have br:=hd ae.2.2.2.2.2.2.2;have HZ:=hd ae.2.2.2.2.2.1;have bt:=hd bf;have H3:=hd be;have bu:=hd hE0;have bM:Ar h<=200000:=Fl aU aV aD;have aC:=hd (fun k=>@Od h k aD.1);have aY:=hd (fun k=>Oz h k);have aZ:=hd (fun j hj=>Es (h:=h) (k:=j) aU aV aD hj);have b0:Dj h 0=h.lo:=by simp[Dj]
 have bv:=hd (show Fa C wb mb M (fnV f caps) I w env h.var s no d w from⟨jF _ _,hB,⟨none,hM⟩,hI⟩);have bN:=hB.lt;have bO:=hM.lt;have bP:b.length<=3000:=by omega
 clear hS hCo hX hF hG hE0 hB hM hI ae bc bd bf be hk;unfold Ez;obtain⟨a0,a1,a2,a3,a4,a5,a6,a7,-⟩:=Cf h b.length h.val.h h.val.ks.length;have aH:=hd (jK w 43 (Ai h b.length h.val.h h.val.ks.length));have aI:=hd ((jF [] w).alloc (.cells (Ai h b.length h.val.h h.val.ks.length) 43));generalize Ai h b.length h.val.h h.val.ks.length=arr at *;rw[<-b0] at a2;generalize bj:b.length=bn at *;have b1:=hd bj;clear bj;generalize bk:Ar h=mn at *;have bx:=hd bk;clear bk;generalize bl:Dj h=V at *;have b2:=hd bl;clear bl b0 hv;go_enter func133,ntmps133
 go_upto_region 1 with fail
 have aJ:=hd (bv.o.grow ab.o aI.o);have bQ:(World.alloc w (.cells arr 43)).heap.size=w.heap.size+1:=Bm _ _;generalize World.alloc w _=w1 at *;generalize bV:w.heap.size=s0 at *
 have af:Hd (∀W,Ext (wb :: mb :: C) w1 W->Blk W s0 43 arr):=hd fun W hW=>aH.o.ext hW (fun hm=>by
  rcases jE.1 hm with h1|h1
  ·omega
  ·rcases jE.1 h1 with h1|h1
   ·omega
   ·have:=aX.o _ h1;omega)
 have b3:=hd (show Fa C wb mb M (fnV f caps) I w1 env h.var s no d w1 from⟨jF _ _,aJ.o.blk,aJ.o.map,aJ.o.inv⟩);have q1:=aH.o.cell;have ql:=aH.o.lt;go_upto_block 0 with fail
 go_cut [] (fun wx=>∃s1:Nat,Hd (Fa C wb mb M (fnV f caps) I w1 env h.var s1 no d wx)/\((s1=s+mn/\s1<=M)\/(M<s+mn/\s1=M+1)))
 case first=>
  go_wp2_with fail
  clear q1 ql;go_loopw [6] (fun x wr=>∃j:Nat,x=.int .i64 (V j)/\j<=mn/\s+j<=M/\Hd (Fa C wb mb M (fnV f caps) I w1 env h.var (s+j) no d wr)/\x=.int .i64 (V j)) (fun x _=>(200000-intOf x).toNat)
  case atStart=>exact⟨0,rfl,jQ _,hs,b3,rfl⟩
  case round=>
   obtain⟨j,rfl,hj,bU,HR,-⟩:=hrel;rename World=>wq
   have an:=hd (af.o _ HR.o.ext);have q1:=an.o.cell;have ql:=an.o.lt;by_cases aG:j<mn
   ·have e1:V j<h.hi:=(aC.o j).2 aG;have aK:=aZ.o j aG;unfold Bdd at aK;have bz:=aY.o j;go_wp2_with fail
    refine(Mt wb M (s+j) no _ _ HR.o.blk (by omega) (by omega)).mono ?_
    rintro e w' ⟨rfl,hE,hB⟩;have ac:=hd (HR.o.stepd ab.o hE hB);have ao:=hd (af.o _ ac.o.ext);clear hE hB q1 ql;have q1:=ao.o.cell;have ql:=ao.o.lt;by_cases aa:s+j+1<=M
    ·have e2:decide (s+j+1<=M)=true:=by simpa using aa
     rw[e2];go_wp2_with fail
     go_roundw
     case rel=>exact⟨j+1,rfl,by omega,by omega,ac,rfl⟩
     case measure=>simp[intOf];omega
    ·have e2:decide (s+j+1<=M)=false:=by simpa using aa
     rw[e2];go_wp2_with fail
     go_meet
     exact⟨s+j+1,ac,.inr ⟨by omega,by omega⟩⟩
   ·have aL:j=mn:=by omega
    subst aL;have e0:¬V j<h.hi:=fun hh=>aG ((aC.o j).1 hh)
    have e1:decide (V j<h.hi)=false:=by simpa using e0
    clear e0;go_wp2_with fail
    go_meet
    exact⟨s+j,HR,.inl ⟨by omega,by omega⟩⟩
 case rest=>
  obtain⟨s1,aE,aA⟩:=hcut;have bR:=af
  have ap:Hd (∀W,Ext (wb :: mb :: C) w1 W->Ext [] w0 W):=hd fun W hW=>Ea (bu.o.trans aI.o) hW fun x hx=>by
   rcases jE.1 hx with h1|h1
   ·rw[h1];exact ab.o.wlow
   ·rcases jE.1 h1 with h1|h1
    ·rw[h1];exact ab.o.mlow
    ·exact(ab.o.low _ h1).1
  have bA:=aE.o.ext.size;have bS:=hd (show(prog.info? 43).map (·.size)=some 21 from Dv);have qb:=(af.o _ aE.o.ext).cell;have bB:=(af.o _ aE.o.ext).lt;clear q1 ql b3
  have aM:Hd ((s1=s+mn*(1+0)/\s1<=M/\d=d ++ Ct env h no (b.take 0))\/(M<s+mn*(1+0)/\M<s1/\s1<=M+1+0)):=hd (by
   rcases aA with⟨h1,h2⟩|⟨h1,h2⟩
   ·exact .inl ⟨by omega,h2,by simp[Ct]⟩
   ·exact .inr ⟨by omega,by omega,by omega⟩)
  clear aA;go_wp2_with fail
  clear qb bB;go_loopw [27] (fun i wr=>∃(k s2:Nat) (d2:List Az),i=.int .i64 k/\k<=bn/\Hd (Fa C wb mb M (fnV f caps) I w1 env h.var s2 no d2 wr)/\Hd ((s2=s+mn*(1+k)/\s2<=M/\d2=d ++ Ct env h no (b.take k))\/(M<s+mn*(1+k)/\M<s2/\s2<=M+1+k))) (fun i _=>(bn-intOf i).toNat)
  case atStart=>exact⟨0,s1,d,rfl,jQ _,aE,aM⟩
  case round=>
   obtain⟨k,s2,d2,rfl,hk,HR,bh⟩:=hrel;rename World=>wq
   by_cases aG:k<bn
   ·obtain⟨bb,x,bi,hx,hc⟩:=(bq.o.keep (ap.o _ HR.o.ext)).at (i:=k) (by have:=b1.o;omega);obtain⟨th,tb⟩:=x;have bT:=hd hx;have ag:=ilm hx;have b4:th.k=3:=H3.o _ ag;have aN:=bt.o _ ag
    have bC:tb=[]:=by
     cases aN with
     | loop _ _ _ hk'=>omega
     | when _ _ _ hk'=>omega
     | store=>rfl
    subst bC;have ad:=hd (fun(j:Nat) (hj:j<mn) dd W (hI:I dd W) (hW:Ext (wb :: mb :: C) w1 W) (hm:Bw W mb (env ++ [(h.var,V j)]))=>ab.o.call dd th (no+k) (names ++ [h.var]) (env ++ [(h.var,V j)]) W hI ((br.o _ ag).keep (ap.o W hW)) aN b4 hm (by have:=bo.o j hj;unfold Bh at this;rw[b2.o] at this;exact this) (by omega));unfold Ez at ad;have ai:((no+k:Nat):Int)=(no:Int)+k:=by omega
    rw[ai] at ad;have HW:=hd (fun j v hv=>hc j v hv:∀(j:Nat) (v:Value),(Ai th 0 th.val.h th.val.ks.length).toList[j]? = some v->wq.cell? ⟨bb,k*21+j,none⟩=some v);have b5:=hd (jK wq 43 (Ai th 0 th.val.h th.val.ks.length));have aO:=hd ((jF [] wq).alloc (.cells (Ai th 0 th.val.h th.val.ks.length) 43));have aj:=hd (show(prog.info? 43).map (·.size)=some (Ai th 0 th.val.h th.val.ks.length).size from Dv);have b6:=hd (show zSt.size=(Ai th 0 th.val.h th.val.ks.length).size from rfl);have b7:=hd (Cz th 0 th.val.h th.val.ks.length);have aP:=hd (fun j=>Jw env h (no+k) (.mk th []) j);have b8:=hd (Mp (env:=env) (h:=h) (no:=no) hx);have bD:Fz env h (no+k) (.mk th []) 0=[]:=rfl;rw[bx.o] at b8;generalize Fz env h (no+k) (.mk th [])=RW9 at *;clear hx hc ag aN b4 ai;generalize Ai th 0 th.val.h th.val.ks.length=arrT at *;rw[bi] at a7;rw[bi];have bE:=HR.o.ext.size;go_upto_block 3 with fail
    go_cut [] (fun wx=>∃(s3:Nat) (d3:List Az),Hd (Fa C wb mb M (fnV f caps) I w1 env h.var s3 no d3 wx)/\Hd ((s3=s+mn*(1+(k+1))/\s3<=M/\d3=d ++ Ct env h no (b.take (k+1)))\/(M<s+mn*(1+(k+1))/\M<s3/\s3<=M+1+(k+1))))
    case first=>
     go_upto_region 7 with(first
      | refine Ac rfl 43 _ rfl bb (k*21) rfl arrT HW.o _ underlying43 rfl aj.o ?_
      | refine Ol rfl rfl rfl 43 _ _ _ rfl rfl rfl zSt (Ge _) arrT _ rfl rfl rfl aj.o b6.o b7.o ?_)
     have aq:=hd (HR.o.grow ab.o aO.o);generalize World.alloc wq _=w2 at *;generalize bW:wq.heap.size=sb at *
     have aQ:Hd (∀W,Ext (wb :: mb :: C) w2 W->Blk W sb 43 arrT):=hd fun W hW=>b5.o.ext hW (fun hm=>by
      rcases jE.1 hm with h1|h1
      ·omega
      ·rcases jE.1 h1 with h1|h1
       ·omega
       ·have:=aX.o _ h1;omega)
     have a8:=hd aq.o.ext;have bF:=hd (show Fa C wb mb M (fnV f caps) I w2 env h.var s2 no d2 w2 from⟨jF _ _,aq.o.blk,aq.o.map,aq.o.inv⟩);have an:=hd (af.o _ aq.o.ext);have q1:=an.o.cell;have ql:=an.o.lt;clear HW b6 b7 b5;have au:mn*(1+(k+1))=mn*(1+k)+mn:=by rw[<-Nat.add_assoc,Nat.mul_succ]
     generalize hT:mn*(1+k)=T at *;clear hT;have aw:=hd au;clear au;go_wp2_with fail
     clear q1 ql;go_loopw [9] (fun x wr=>∃(j s3:Nat) (d3:List Az),x=.int .i64 (V j)/\j<=mn/\Hd (Fa C wb mb M (fnV f caps) I w2 env h.var s3 no d3 wr)/\Hd ((s3=s+T+j/\s3<=M/\d3=d ++ Ct env h no (b.take k) ++ RW9 j)\/(M<s+T/\M<s3/\s3<=M+1+k))) (fun x _=>(200000-intOf x).toNat)
     case atStart=>
      refine⟨0,s2,d2,rfl,jQ _,bF,hd ?_⟩
      rcases bh.o with⟨h1,h2,h3⟩|⟨h1,h2,h3⟩
      ·exact .inl ⟨h1,h2,by rw[bD,List.append_nil];exact h3⟩
      ·exact .inr ⟨h1,h2,h3⟩
     case round=>
      obtain⟨j,s3,d3,rfl,hj,al,aF⟩:=hrel;rename World=>wj
      have ba:=hd (af.o _ (a8.o.trans al.o.ext));have q1:=ba.o.cell;have ql:=ba.o.lt;have bG:s3<=1000000000:=by rcases aF.o with h|h<;>omega
      by_cases ah:j<mn
      ·have e1:V j<h.hi:=(aC.o j).2 ah;have aK:=aZ.o j ah;unfold Bdd at aK;have bz:=aY.o j;go_wp2_with fail
       refine(Mt wb M s3 no _ _ al.o.blk bG (by omega)).mono ?_
       rintro e w' ⟨rfl,hE,hB⟩;have ac:=hd (al.o.stepd ab.o hE hB);have ao:=hd (af.o _ (a8.o.trans ac.o.ext));clear hE hB q1 ql;have q1:=ao.o.cell;have ql:=ao.o.lt;by_cases aa:s3+1<=M
       ·have e2:decide (s3+1<=M)=true:=by simpa using aa
        rw[e2]
        have ax:=hd (show s3=s+T+j/\d3=d ++ Ct env h no (b.take k) ++ RW9 j by
         rcases aF.o with⟨h1,h2,h3⟩|⟨h1,h2,h3⟩
         ·exact⟨h1,h3⟩
         ·omega)
        obtain⟨o,aB⟩:=ac.o.map;have aR:=hd aB;clear aB
        go_wp2_with (
         refine Gm _ rfl _ _ _ rfl mb env o h.var (V j) rfl aR.o rfl rfl bm.o HZ.o (by omega) bp.o ?_
         intro w9 hm9 hE9;have bH:=hd hm9;have am:=hd (ac.o.maps (o:=some (V j)) ab.o hE9 hm9);clear hm9 hE9 q1 ql)
        simp only[PT];have aS:=hd (show RW9 (j+1)=RW9 j ++ [⟨no+k,th,env ++ [(h.var,V j)]⟩] by rw[aP.o,<-b2.o];rfl);refine rgE 12 [] ?_
        simp only[TK]
        repeat(refine dE (fun wr nr hJ=>by(have qw:=(am.o.blk.ext hJ (by simp)).cell;unfold wkA fnV at qw;have bI:=(am.o.blk.ext hJ (by simp)).lt);clear hJ;exact CL) ?_;simp only[PT])
        refine Ha rfl rfl ?_
        apply Exists.intro
        refine⟨fun wr nr hJ=>?_,?_⟩
        ·exact Dx 43 _ rfl sb 0 rfl arrT ((aQ.o _ am.o.ext).ext hJ (by simp)).wide _ underlying43 rfl aj.o
        simp only[PT]
        repeat(refine dE (fun wr nr hJ=>by(have qw:=(am.o.blk.ext hJ (by simp)).cell;unfold wkA fnV at qw;have bI:=(am.o.blk.ext hJ (by simp)).lt);clear hJ;exact CL) ?_;simp only[PT])
        refine Aj (fun w5 hJ hF=>?_)
        have ak:=hd (am.o.grow ab.o hJ);have aT:=hd (bH.o.ext hJ jH);clear hF hJ;go_wp2_with fail
        rw[ab.o.enters,Oper.upon_enter];refine(ad.o j ah d3 _ ak.o.inv (a8.o.trans ak.o.ext) aT.o).mono ?_
        rintro e w6 ⟨rfl,hE,hI⟩;have ay:=hd (ak.o.seen ab.o hE hI);have az:=hd (af.o _ (a8.o.trans ay.o.ext));clear hE hI;have q1:=az.o.cell;have ql:=az.o.lt;go_wp2_with fail
        go_roundw
        case rel=>exact⟨j+1,s3+1,_,rfl,by omega,ay,hd (.inl ⟨by have:=ax.o.1;omega,aa,by rw[aS.o,<-jP,<-ax.o.2]⟩)⟩
        case measure=>simp[intOf];omega
       ·have e2:decide (s3+1<=M)=false:=by simpa using aa
        rw[e2];go_wp2_with fail
        go_meet
        refine⟨s3+1,d3,hd ⟨a8.o.trans ac.o.ext,ac.o.blk,ac.o.map,ac.o.inv⟩,hd ?_⟩
        have hm:=aw.o;rcases aF.o with⟨h1,h2,h3⟩|⟨h1,h2,h3⟩
        ·exact .inr ⟨by omega,by omega,by omega⟩
        ·exact .inr ⟨by omega,by omega,by omega⟩
      ·have aL:j=mn:=by omega
       subst aL;have e0:¬V j<h.hi:=fun hh=>ah ((aC.o j).1 hh)
       have e1:decide (V j<h.hi)=false:=by simpa using e0
       clear e0;go_wp2_with fail
       go_meet
       refine⟨s3,d3,hd ⟨a8.o.trans al.o.ext,al.o.blk,al.o.map,al.o.inv⟩,hd ?_⟩
       have hm:=aw.o;rcases aF.o with⟨h1,h2,h3⟩|⟨h1,h2,h3⟩
       ·exact .inl ⟨by omega,h2,by rw[b8.o,<-jP];exact h3⟩
       ·exact .inr ⟨by omega,h2,by omega⟩
    case rest=>
     obtain⟨s3,d3,bL,aW⟩:=hcut;go_wp2_with fail
     go_roundw
     case rel=>exact⟨k+1,s3,d3,by go_num,by omega,bL,aW⟩
     case measure=>simp[intOf];omega
   ·have bJ:k=bn:=by omega
    have HT:Hd (b.take k=b):=hd (List.take_of_length_le (by have:=b1.o;omega));obtain⟨o,aB⟩:=HR.o.map;have aR:=hd aB;clear aB;subst bJ;go_wp2_with fail
    refine bodyPost_end (results_none rfl _ _ _) rfl ⟨rfl,s2,no,d2,Wz env o h.var,aI.o.nil.trans HR.o.ext,HR.o.blk,aR.o,⟨o,rfl⟩,HR.o.inv,by omega,fun _ _=>by omega,?_⟩
    rcases bh.o with⟨h1,h2,h3⟩|⟨h1,h2,h3⟩
    ·exact .inl ⟨h1,by omega,by rw[h3,HT.o]⟩
    ·exact .inr ⟨h1,h2,h3⟩
end
def WkC (l:List St):Prop:=∀(f:FuncId) (caps:Array Value) (C:List Nat) (wb mb nb M:Nat) (I:List Az->World->Prop) (w0 w:World) (A:Option Addr) (cap:Nat) (names:List ByteArray) (env:Env) (s no:Nat) (d:List Az),
 Sm f caps C w0.heap.size wb mb nb I->(∀x∈C,x<w.heap.size)->Ak w0 A 21 stC l->(∀s∈l,Gc w0 s)->(∀s∈l,Fd nb names s)->Na env names->Ext [] w0 w->
 Blk w wb 84 (wkA M s no (fnV f caps))->Bw w mb env->I d w->s<=M->M<=100000000->no+Ab l<=3000->Bk l<=3000->
  Calls prog 38 #[.pointer (some wb),.slice A l.length cap,.map (some mb)] w
   (Yv C wb mb M s (Av env l) (Ab l) (2*Bk l) no (fnV f caps) (fun e=>e=env) I d (Au env no l) w)
set_option maxRecDepth 100000 in
theorem Ad6 (f:FuncId)(caps:Array Value)(C:List Nat)(wb mb nb M:Nat)(I:List Az->World->Prop)(w0 w:World)(h:SH)(b:List St)(names:List ByteArray)(env:Env)(s no:Nat)(d:List Az)
  (hS:Sm f caps C w0.heap.size wb mb nb I) (hCo:∀x∈C,x<w.heap.size) (hX:Gc w0 (.mk h b)) (hF:Fd nb names (.mk h b)) (hk:h.k=1) (hv:h.vec=true) (hG:Na env names) (hE0:Ext [] w0 w)
  (hB:Blk w wb 84 (wkA M s no (fnV f caps))) (hM:Bw w mb env) (hI:I d w) (hs:s<=M) (hMx:M<=100000000) (hno:no+Ab b<=3000) (hcn:Bk b<=3000) :
  Calls prog 90 #[.pointer (some wb),Ez h b.length,.map (some mb)] w
   (Yv C wb mb M s (Ar h*(1+b.length)) (Ab b) (2*Bk b+1) no (fnV f caps) (fun e=>e=env) I d (Cv env no (.mk h b)) w):=by
 obtain⟨b3,aE,bk,b4,b5,b6,aF,aw⟩:Cy h.var=true/\Fy names h.var=false/\names.length<8/\(-100000<=h.lo/\h.lo<=100000)/\(-100000<=h.hi/\h.hi<=100000)/\(1<=h.step/\h.step<=100000)/\(h.vec=true->∀s∈b,s.h.k=3)/\∀s∈b,Fd nb (names ++ [h.var]) s:=by
  cases hF with
  | loop _ _ _ _ h1 h2 h3 h4 h5 h6 h7 h8=>exact⟨h1,h2,h3,h4,h5,h6,h7,h8⟩
  | when _ _ _ hk'=>omega
  | store _ _ hk'=>omega
 have a8:=hX.all;have aN:=hd (Nu (.mk h b));have aO:=hd (show Hb env h.var=false by rw[Kv,hG.nam];exact aE);have aa:=hd hS;have ay:=hd hCo;have HG:=hd hG;have bc:Hd (env.length<=900):=hd (by have:=hG.len;omega);have aP:=hd a8.2.2.2.2.2.2.1;have aQ:=hd a8.2.2.2.2.2.2.2;have HZ:=hd a8.2.2.2.2.2.1;have bd:=hd aw;have aR:=hd hE0;have be:Ar h<=200000:=Fl b4 b5 b6;have aS:=hd (show Fa C wb mb M (fnV f caps) I w env h.var s no d w from⟨jF _ _,hB,⟨none,hM⟩,hI⟩);have ac:=hd hM;have bf:=hB.lt;have bh:=hM.lt;have al:Ab b<=3000:=by omega
 have am:Ab b=b.length:=Ns (aF hv) aw;have bi:b.length<=Bk b:=by have:=Iy b;omega
 have ad:=hd (fun w1 arr0=>Aix f caps C wb mb nb M I w0 w1 h b names env s no d hS arr0 hX hF hk hv hG);have aT:=hd (Ju (env:=env) (no:=no) (b:=b) hk hv);have an:=hd (show no+b.length<=3000 by omega);clear hS hCo hX hF hG hE0 hB hM hI a8 b3 aE aw aF am;rw[aT.o];unfold Ez;obtain⟨a0,a1,a2,a3,a4,a5,a6,a7,-⟩:=Cf h b.length h.val.h h.val.ks.length;have ah:=hd (jK w 43 (Ai h b.length h.val.h h.val.ks.length));have ae:=hd ((jF [] w).alloc (.cells (Ai h b.length h.val.h h.val.ks.length) 43));have aU:=hd (show(prog.info? 43).map (·.size)=some (Ai h b.length h.val.h h.val.ks.length).size from Dv);unfold Ez at ad;generalize Ar h=mn at *;generalize Ai h b.length h.val.h h.val.ks.length=arr at *;rw[hv] at a5;generalize aL:b.length=bn at *;have aV:=hd aL;clear aL;go_enter func90,ntmps90
 go_upto_region 1 with fail
 have ao:=hd (aS.o.grow aa.o ae.o);have bj:(World.alloc w (.cells arr 43)).heap.size=w.heap.size+1:=Bm _ _;generalize World.alloc w _=w1 at *;generalize bl:w.heap.size=s0 at *
 have az:Hd (∀W,Ext (wb :: mb :: C) w1 W->Blk W s0 43 arr):=hd fun W hW=>ah.o.ext hW (fun hm=>by
  rcases jE.1 hm with h1|h1
  ·omega
  ·rcases jE.1 h1 with h1|h1
   ·omega
   ·have:=ay.o _ h1;omega)
 have ap:=hd (ac.o.ext ae.o jH);have ai:=hd (show Fa C wb mb M (fnV f caps) I w1 env h.var s no d w1 from⟨jF _ _,ao.o.blk,ao.o.map,ao.o.inv⟩)
 have ab:Hd (∀W,Ext (wb :: mb :: C) w1 W->Ext [] w0 W):=hd fun W hW=>Ea (aR.o.trans ae.o) hW fun x hx=>by
  rcases jE.1 hx with h1|h1
  ·rw[h1];exact aa.o.wlow
  ·rcases jE.1 h1 with h1|h1
   ·rw[h1];exact aa.o.mlow
   ·exact(aa.o.low _ h1).1
 have aW:=ae.o.size;have q1:=ah.o.cell;have ql:=ah.o.lt;have qw:=ai.o.blk.cell;unfold wkA at qw;have aA:=ai.o.blk.lt
 go_wp2_with (
  refine Ac rfl 43 _ rfl s0 0 rfl arr ah.o.wide _ underlying43 rfl aU.o ?_)
 refine(ad.o w1 (fun x hx=>by have:=ay.o x hx;omega) (ab.o _ (jF _ _)) ai.o.blk ap.o ai.o.inv hs hMx an.o).mono ?_
 rintro e w2 ⟨rfl,ak,b7,ax,b8,hE,aH,aI,⟨o1,rfl⟩,aJ,ba,bb,aK⟩;have aq:=hd (show Fa C wb mb M (fnV f caps) I w1 env h.var ak b7 ax w2 from⟨hE,aH,⟨o1,aI⟩,aJ⟩)
 have HQ:=hd (show Ad5 M s (mn*(1+bn)) ak (2*Bk b+1) d (Ct env h no b) ax by
  rcases aK with h1|⟨h1,h2,h3⟩
  ·exact .inl h1
  ·exact .inr ⟨h1,h2,by omega⟩)
 clear hE aH aI aJ ba bb aK q1 ql qw aA;have aB:=hd (az.o _ aq.o.ext);have q1:=aB.o.cell;have ql:=aB.o.lt;obtain⟨o,aG⟩:=aq.o.map;have aX:=hd aG;clear aG
 go_wp2_with (
  refine Hc _ rfl _ _ rfl mb env o h.var rfl aX.o rfl aO.o HZ.o ?_
  intro w9 hm9 hE9;have aY:=hd hm9;have aj:=hd (aq.o.maps (o:=none) aa.o hE9 hm9);have aC:=hd (az.o _ aj.o.ext);clear hm9 hE9 q1 ql;have q1:=aC.o.cell;have ql:=aC.o.lt)
 refine(aN.o h.A bn h.cap _ (aP.o.keep (ab.o _ aj.o.ext)) (fun s hs=>(aQ.o s hs).keep (ab.o _ aj.o.ext)) aV.o al).mono ?_
 rintro e w6 ⟨rfl,hE⟩;have af:=hd (aj.o.grow aa.o hE);have aZ:=hd (aY.o.ext hE jH);clear hE q1 ql;have b0:Ab (St.mk h b).body=Ab b:=rfl;rw[b0];generalize aM:Ab b=sl at *;have ag:=hd aM;clear aM;have qw:=af.o.blk.cell;have qf:=af.o.blk.frozen;unfold wkA at qw qf;have aA:=af.o.blk.lt;have b1:=hd (af.o.blk.set_' 2 (.int .i64 (no+sl)) (wkA M ak (no+sl:Nat) (fnV f caps)) rfl);have aD:=hd (jL (b:=wb) (i:=2) (u:=.int .i64 (no+sl)) (.inl (by simp)) (jF [wb] w6));have au:=hd (af.o.stepd aa.o aD.o b1.o);have b2:=hd (aZ.o.ext aD.o (by rw[jA];exact Ne.symm aa.o.apart));go_wp2_with fail
 refine bodyPost_end (results_none rfl _ _ _) rfl ⟨rfl,ak,no+sl,ax,env,ae.o.nil.trans au.o.ext,au.o.blk,b2.o,rfl,au.o.inv,by rw[ag.o];exact jD _,fun _ _=>by rw[ag.o],HQ.o⟩
theorem Ad7 {n m:Nat}(F:Nat->Nat)(h:n<=m):Gp n F<=Gp m F:=Mn F h
set_option maxRecDepth 100000 in
theorem Ad8 (f:FuncId)(caps:Array Value)(C:List Nat)(wb mb nb M:Nat)(I:List Az->World->Prop)(w0 w:World)(h:SH)(b:List St)(names:List ByteArray)(env:Env)(s no:Nat)(d:List Az)
  (hS:Sm f caps C w0.heap.size wb mb nb I) (hCo:∀x∈C,x<w.heap.size) (hX:Gc w0 (.mk h b)) (hF:Fd nb names (.mk h b)) (hk:h.k=1) (hv:h.vec=false) (hG:Na env names) (hE0:Ext [] w0 w)
  (hB:Blk w wb 84 (wkA M s no (fnV f caps))) (hM:Bw w mb env) (hI:I d w) (hs:s<=M) (hMx:M<=100000000) (hno:no+Ab b<=3000) (hcn:Bk b<=3000)
  (ih:WkC b) :
  Calls prog 90 #[.pointer (some wb),Ez h b.length,.map (some mb)] w
   (Yv C wb mb M s (Ar h+Gp (Ar h) fun k=>Av (Bh env h k) b) (Ab b) (2*Bk b+1) no (fnV f caps) (fun e=>e=env) I d (Cv env no (.mk h b)) w):=by
 obtain⟨bc,bd,bP,aR,aS,aD,bQ,aT⟩:Cy h.var=true/\Fy names h.var=false/\names.length<8/\(-100000<=h.lo/\h.lo<=100000)/\(-100000<=h.hi/\h.hi<=100000)/\(1<=h.step/\h.step<=100000)/\(h.vec=true->∀s∈b,s.h.k=3)/\∀s∈b,Fd nb (names ++ [h.var]) s:=by
  cases hF with
  | loop _ _ _ _ h1 h2 h3 h4 h5 h6 h7 h8=>exact⟨h1,h2,h3,h4,h5,h6,h7,h8⟩
  | when _ _ _ hk'=>omega
  | store _ _ hk'=>omega
 have a8:=hX.all;have br:=hd (Nu (.mk h b));have aX:=hd (show Hb env h.var=false by rw[Kv,hG.nam];exact bd);have ab:=hd hS;have aY:=hd hCo;have HG:=hd hG;have bt:Hd (env.length<=900):=hd (by have:=hG.len;omega);have bu:=hd a8.2.2.2.2.2.2.1;have bv:=hd a8.2.2.2.2.2.2.2;have HZ:=hd a8.2.2.2.2.2.1;have bU:=hd aT;have bx:=hd hE0;have bV:Ar h<=200000:=Fl aR aS aD;have bz:=hd (show Fa C wb mb M (fnV f caps) I w env h.var s no d w from⟨jF _ _,hB,⟨none,hM⟩,hI⟩);have bW:=hB.lt;have bX:=hM.lt;have aH:Ab b<=3000:=by omega
 have aZ:=hd (fun j hj=>hG.inner (k:=j) bP bc (Es aR aS aD hj):∀j,j<Ar h->Na (Bh env h j) (names ++ [h.var]));have b0:=hd (fun k=>@Od h k aD.1);have bA:=hd (fun k=>Oz h k);have bB:=hd (fun j hj=>Es (h:=h) (k:=j) aR aS aD hj);have b1:Dj h 0=h.lo:=by simp[Dj]
 have b2:=hd (Jv (env:=env) (no:=no) (b:=b) hk hv);obtain⟨SN,af⟩:∃SN:Nat->Nat,∀j,SN j=Gp j fun k=>1+Av (Bh env h k) b:=⟨_,fun _=>rfl⟩
 obtain⟨CN,ax⟩:∃CN:Nat->List Az,∀j,CN j=Ef j fun k=>Au (Bh env h k) no b:=⟨_,fun _=>rfl⟩
 obtain⟨RN,aU⟩:∃RN:Nat->Nat,∀j,RN j=Av (Bh env h j) b:=⟨_,fun _=>rfl⟩;obtain⟨IN,aV⟩:∃IN:Nat->List Az,∀j,IN j=Au (Bh env h j) no b:=⟨_,fun _=>rfl⟩;have b3:=Js (Ar h) fun k=>Av (Bh env h k) b
 have b4:Hd (∀j,SN (j+1)=SN j+(1+RN j)):=hd fun j=>by rw[af,af,aU];exact Da j _
 have b5:Hd (∀j,j<=Ar h->SN j<=SN (Ar h)):=hd fun j hj=>by rw[af,af];exact Ad7 _ hj
 have bC:Hd (∀j,CN (j+1)=CN j ++ IN j):=hd fun j=>by rw[ax,ax,aV];exact Ei j _
 have ak:SN 0=0:=by rw[af];rfl
 have al:CN 0=[]:=by rw[ax];rfl
 have am:=hd ak;have aI:=hd al;have aJ:=hd (fun W j (hj:j<Ar h) s' d' (hCo':∀x∈C,x<W.heap.size) hE' hB' hM' hI' hs'=>ih f caps C wb mb nb M I w0 W h.A h.cap (names ++ [h.var]) (Bh env h j) s' no d' hS hCo' a8.2.2.2.2.2.2.1 a8.2.2.2.2.2.2.2 aT (aZ.o j hj) hE' hB' hM' hI' hs' hMx hno hcn);simp only[<-aU,<-aV] at aJ;rw[b2.o,<-b3,<-af,<-ax];clear hS hCo hX hF hG hE0 hB hM hI a8 bc bd aT bQ hk b3 af ax aU aV ak al b2;unfold Ez;obtain⟨a0,a1,a2,a3,a4,a5,a6,a7,-⟩:=Cf h b.length h.val.h h.val.ks.length;have aK:=hd (jK w 43 (Ai h b.length h.val.h h.val.ks.length));have aA:=hd ((jF [] w).alloc (.cells (Ai h b.length h.val.h h.val.ks.length) 43));have bY:=hd (show(prog.info? 43).map (·.size)=some (Ai h b.length h.val.h h.val.ks.length).size from Dv);rw[<-b1] at a2;generalize Ar h=mn at *;generalize bo:Dj h=V at *;have bD:=hd bo;clear bo b1;have bE:Hd (∀j,Bh env h j=env ++ [(h.var,V j)]):=hd fun j=>by unfold Bh;rw[bD.o]
 simp only[bE.o] at aJ aZ;generalize Ai h b.length h.val.h h.val.ks.length=arr at *;rw[hv] at a5;generalize bp:b.length=bn at *;have bF:=hd bp;clear bp;go_enter func90,ntmps90
 go_upto_region 1 with fail
 have aL:=hd (bz.o.grow ab.o aA.o);have bZ:(World.alloc w (.cells arr 43)).heap.size=w.heap.size+1:=Bm _ _;generalize World.alloc w _=w1 at *;generalize c2:w.heap.size=s0 at *
 have ah:Hd (∀W,Ext (wb :: mb :: C) w1 W->Blk W s0 43 arr):=hd fun W hW=>aK.o.ext hW (fun hm=>by
  rcases jE.1 hm with h1|h1
  ·omega
  ·rcases jE.1 h1 with h1|h1
   ·omega
   ·have:=aY.o _ h1;omega)
 have aM:=hd (show Fa C wb mb M (fnV f caps) I w1 env h.var s no d w1 from⟨jF _ _,aL.o.blk,aL.o.map,aL.o.inv⟩)
 have ae:Hd (∀W,Ext (wb :: mb :: C) w1 W->Ext [] w0 W):=hd fun W hW=>Ea (bx.o.trans aA.o) hW fun x hx=>by
  rcases jE.1 hx with h1|h1
  ·rw[h1];exact ab.o.wlow
  ·rcases jE.1 h1 with h1|h1
   ·rw[h1];exact ab.o.mlow
   ·exact(ab.o.low _ h1).1
 have bG:=aA.o.size;have q1:=aK.o.cell;have ql:=aK.o.lt;have qw:=aM.o.blk.cell;unfold wkA at qw;have an:=aM.o.blk.lt;go_upto_block 0 with fail
 go_cut [] (fun wx=>∃(az be:Nat) (aF:List Az),Hd (Fa C wb mb M (fnV f caps) I w1 env h.var az be aF wx)/\Hd (Ad5 M s (SN mn) az (2*Bk b+1) d (CN mn) aF))
 case first=>
  go_wp2_with fail
  clear q1 ql qw an;go_loopw [7] (fun x wr=>∃(j s3 aj:Nat) (d3:List Az),x=.int .i64 (V j)/\j<=mn/\Hd (Fa C wb mb M (fnV f caps) I w1 env h.var s3 aj d3 wr)/\aj<=3000/\Hd (Ad5 M s (SN j) s3 (2*Bk b) d (CN j) d3)) (fun x _=>(200000-intOf x).toNat)
  case atStart=>exact⟨0,s,no,d,rfl,jQ _,aM,by omega,hd (.inl ⟨by rw[am.o];rfl,by rw[am.o];exact hs,by rw[aI.o];simp⟩)⟩
  case round=>
   obtain⟨j,s3,aj,d3,rfl,hj,HR,bR,aE⟩:=hrel;rename World=>wq
   have b6:=hd (ah.o _ HR.o.ext);have q1:=b6.o.cell;have ql:=b6.o.lt;have bH:s3<=1000000000:=by rcases aE.o with⟨h1,h2,-⟩|⟨h1,h2,h3⟩<;>omega
   by_cases aG:j<mn
   ·have e1:V j<h.hi:=(b0.o j).2 aG;have bI:=bB.o j aG;unfold Bdd at bI;have c0:=bA.o j;go_wp2_with fail
    refine(Mt wb M s3 aj _ _ HR.o.blk bH (by omega)).mono ?_
    rintro e w' ⟨rfl,hE,hB⟩;have aB:=hd (HR.o.stepd ab.o hE hB);have b7:=hd (ah.o _ aB.o.ext);clear hE hB q1 ql;have q1:=b7.o.cell;have ql:=b7.o.lt;by_cases ag:s3+1<=M
    ·have e2:decide (s3+1<=M)=true:=by simpa using ag
     rw[e2]
     have ao:=hd (show s3=s+SN j/\d3=d ++ CN j by
      rcases aE.o with⟨h1,h2,h3⟩|⟨h1,h2,h3⟩
      ·exact⟨h1,h3⟩
      ·omega)
     obtain⟨o,ay⟩:=aB.o.map;have aN:=hd ay;clear ay
     go_upto_region 8 with(
      refine Gm _ rfl _ _ _ rfl mb env o h.var (V j) rfl aN.o rfl rfl aX.o HZ.o (by omega) bt.o ?_
      intro w9 hm9 hE9;have aO:=hd hm9;have ac:=hd (aB.o.maps (o:=some (V j)) ab.o hE9 hm9);clear hm9 hE9 q1 ql)
     simp only[PT];have qw:=ac.o.blk.cell;have qf:=ac.o.blk.frozen;unfold wkA at qw qf;have an:=ac.o.blk.lt;have aC:=hd (ac.o.blk.set_' 2 no (wkA M (s3+1:Nat) no (fnV f caps)) rfl);have ai:=hd (jL (b:=wb) (i:=2) (u:=.int .i64 no) (.inl (by simp)) (jF [wb] w9));have aa:=hd (ac.o.stepd ab.o ai.o aC.o);have aP:=hd (aO.o.ext ai.o (by rw[jA];exact Ne.symm ab.o.apart));go_upto_region 9 with fail
     generalize World.setCell _ _ _=w10 at *;clear qw qf an aC ai;have b8:=hd (ah.o _ aa.o.ext);have q1:=b8.o.cell;have ql:=b8.o.lt;go_wp2_with fail
     have bJ:=aa.o.ext.size;have ad:=hd (aJ.o w10 j aG (s3+1) d3 (fun x hx=>by have:=aY.o x hx;omega) (ae.o _ aa.o.ext) aa.o.blk aP.o aa.o.inv ag);refine ad.o.mono ?_
     rintro e bS ⟨rfl,bf,bh,bi,bT,hE,bj,bk,rfl,bl,c1,-,bm⟩;have ap:=hd (show Fa C wb mb M (fnV f caps) I w1 env h.var bf bh bi bS from⟨aa.o.ext.trans hE,bj,⟨some (V j),bk⟩,bl⟩);have bK:=hd bm;have aq:=hd (ah.o _ ap.o.ext);clear hE bj bk bl bm q1 ql ad;have q1:=aq.o.cell;have ql:=aq.o.lt;go_wp2_with fail
     go_roundw
     case rel=>
      refine⟨j+1,bf,bh,bi,rfl,by omega,ap,by omega,hd ?_⟩
      have h4:=b4.o j;have h5:=ao.o.1;rcases bK.o with⟨h1,h2,h3⟩|⟨h1,h2,h3⟩
      ·exact .inl ⟨by omega,by omega,by rw[bC.o,h3,ao.o.2,jP]⟩
      ·exact .inr ⟨by omega,by omega,h3⟩
     case measure=>simp[intOf];omega
    ·have e2:decide (s3+1<=M)=false:=by simpa using ag
     rw[e2];go_wp2_with fail
     go_meet
     refine⟨s3+1,aj,d3,aB,hd (.inr ?_)⟩
     have h4:=b4.o j;have h5:=b5.o (j+1) (by omega);have h6:=b5.o j hj;rcases aE.o with⟨h1,h2,h3⟩|⟨h1,h2,h3⟩
     ·exact⟨by omega,by omega,by omega⟩
     ·exact⟨by omega,by omega,by omega⟩
   ·have bL:j=mn:=by omega
    subst bL;have e0:¬V j<h.hi:=fun hh=>aG ((b0.o j).1 hh)
    have e1:decide (V j<h.hi)=false:=by simpa using e0
    clear e0;go_wp2_with fail
    go_meet
    refine⟨s3,aj,d3,HR,hd ?_⟩
    rcases aE.o with h1|⟨h1,h2,h3⟩
    ·exact .inl h1
    ·exact .inr ⟨h1,h2,by omega⟩
 case rest=>
  obtain⟨az,be,aF,aW,HQ⟩:=hcut;clear q1 ql qw an;have ba:=hd (ah.o _ aW.o.ext);have q1:=ba.o.cell;have ql:=ba.o.lt;obtain⟨o,ay⟩:=aW.o.map;have aN:=hd ay;clear ay
  go_wp2_with (
   refine Hc _ rfl _ _ rfl mb env o h.var rfl aN.o rfl aX.o HZ.o ?_
   intro w9 hm9 hE9;have aO:=hd hm9;have ac:=hd (aW.o.maps (o:=none) ab.o hE9 hm9);have bb:=hd (ah.o _ ac.o.ext);clear hm9 hE9 q1 ql;have q1:=bb.o.cell;have ql:=bb.o.lt)
  refine(br.o h.A bn h.cap _ (bu.o.keep (ae.o _ ac.o.ext)) (fun s hs=>(bv.o s hs).keep (ae.o _ ac.o.ext)) bF.o aH).mono ?_
  rintro e w6 ⟨rfl,hE⟩;have au:=hd (ac.o.grow ab.o hE);have bM:=hd (aO.o.ext hE jH);clear hE q1 ql;have bN:Ab (St.mk h b).body=Ab b:=rfl;rw[bN];generalize bq:Ab b=sl at *;have aw:=hd bq;clear bq;have qw:=au.o.blk.cell;have qf:=au.o.blk.frozen;unfold wkA at qw qf;have an:=au.o.blk.lt;have aC:=hd (au.o.blk.set_' 2 (.int .i64 (no+sl)) (wkA M az (no+sl:Nat) (fnV f caps)) rfl);have ai:=hd (jL (b:=wb) (i:=2) (u:=.int .i64 (no+sl)) (.inl (by simp)) (jF [wb] w6));have aQ:=hd (au.o.stepd ab.o ai.o aC.o);have bO:=hd (bM.o.ext ai.o (by rw[jA];exact Ne.symm ab.o.apart));go_wp2_with fail
  refine bodyPost_end (results_none rfl _ _ _) rfl ⟨rfl,az,no+sl,aF,env,aA.o.nil.trans aQ.o.ext,aQ.o.blk,bO.o,rfl,aQ.o.inv,by rw[aw.o];exact jD _,fun _ _=>by rw[aw.o],HQ.o⟩
end Go.Proofs.YtfppibmloloakaaGreatDoor
