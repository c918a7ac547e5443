import Derived.Test.YtfppibmloloakaaGreatDoorK24
import Derived.Laws.EntriesVeiled
namespace Go.Proofs.YtfppibmloloakaaGreatDoor
open Go.RowKit Go.Proofs.Tryz
set_option linter.all false
set_option maxHeartbeats 64000000
theorem Abc:∀args w,(callFunc 36 args).run prog w=.ok (.enter 36 args) w:=by
 obtain⟨c,hc⟩:∃c,Tryz.f36.body=some c:=⟨_,rfl⟩;exact fun args w=>enters_of func36 (by kernel_rfl) hc args w
def Akh (w0:World)(bs:List Bf)(v1:Value)(bA:Option Addr)(bc pb bb:Nat)(d:List Az)(w:World):Prop:=
 Blk w bb 4 #[.bool (d.any fun i=>!inI bs i)]/\Blk w pb 29 #[.slice bA bs.length bc,v1]/\Ext [] w0 w
set_option maxRecDepth 100000 in
theorem Aiy (bs:List Bf)(v1:Value)(bA:Option Addr)(bc pb bb mb:Nat)(h:SH)(no:Nat)(names:List ByteArray)(env:Env)(t:Bool)(w:World)(hbp:bb≠pb)(h1:Blk w bb 4 #[.bool t])(h2:Blk w pb 29 #[.slice bA bs.length bc,v1])(hB:Aa9 w bA bs)
  (hX:Gc w (.mk h [])) (hF:Fd bs.length names (.mk h [])) (hk:h.k=3) (hM:Bw w mb env) (hG:Na env names) :
  Calls prog 36 (#[Ez h 0,.int .i64 no,.map (some mb)] ++ #[.pointer (some bb),.pointer (some pb)]) w fun e w'=>
   e=.returned (.tuple #[])/\Ext [bb] w w'/\Blk w' bb 4 #[.bool (t || !inI bs ⟨no,h,env⟩)]:=by
 have a1:=hd (fun W (hW:Ext [] w W)=>Agq h no names env bA bs.length bc v1 bs mb W (hX.keep hW) hF hk (hB.keep hW) rfl (hM.ext hW jH) hG);have ae:=hd h1;have af:=hd h2;generalize inI bs ⟨no,h,env⟩=II at *;generalize bs.length=nb at *;clear hB hX hF hk hM hG h1 h2;unfold Ez at a1⊢;have a2:=hd ((jF [] w).alloc (.cells (Ai h 0 h.val.h h.val.ks.length) 43));have ag:=hd (jK w 43 (Ai h 0 h.val.h h.val.ks.length));have ah:=hd (show(prog.info? 43).map (·.size)=some (Ai h 0 h.val.h h.val.ks.length).size from Dv);generalize Ai h 0 h.val.h h.val.ks.length=arr at *;go_enter func36,ntmps36
 go_upto_region 1 with fail
 have a6:=hd (ae.o.ext a2.o (by simp));have ab:=hd (af.o.ext a2.o (by simp));generalize World.alloc w _=w1 at *;generalize w.heap.size=s0 at *;have qb:=a6.o.cell;have ac:=a6.o.frozen;have ad:=a6.o.lt;cases t
 ·have qp:=ab.o.cell;have ai:=ab.o.lt
  go_wp2_with (
   refine Gd rfl 43 _ rfl s0 0 rfl arr ag.o.wide _ underlying43 rfl ah.o ?_)
  refine(a1.o _ a2.o).mono ?_
  rintro e w2 ⟨rfl,hE⟩;have aj:=hd (a2.o.trans hE);have a7:=hd (a6.o.ext hE (by simp));clear hE qb ac ad qp ai;have qb:=a7.o.cell;have ac:=a7.o.frozen;have ad:=a7.o.lt;have a8:=hd (a7.o.set_' 0 (.bool (!II)) #[.bool (false || !II)] rfl);have aa:=hd (jL (b:=bb) (i:=0) (u:=.bool (!II)) (.inl (by simp)) (aj.o.nil:Ext [bb] w w2));go_wp2_with fail
  exact bodyPost_end (results_none rfl _ _ _) rfl ⟨rfl,aa.o,a8.o⟩
 ·have a8:=hd (a6.o.set_' 0 (.bool true) #[.bool (true || !II)] rfl);have aa:=hd (jL (b:=bb) (i:=0) (u:=.bool true) (.inl (by simp)) (a2.o.nil:Ext [bb] w w1));go_wp2_with fail
  exact bodyPost_end (results_none rfl _ _ _) rfl ⟨rfl,aa.o,a8.o⟩
theorem Aiz (w0:World)(bs:List Bf)(v1:Value)(bA:Option Addr)(bc pb bb wb mb:Nat)(hB:Aa9 w0 bA bs)(h1:w0.heap.size<=bb)(h2:w0.heap.size<=wb)(h3:w0.heap.size<=mb)(h4:wb≠mb)(h5:bb≠wb)(h6:bb≠mb)(h7:pb≠wb)(h8:pb≠mb)(h9:bb≠pb) :
  Sm 36 #[.pointer (some bb),.pointer (some pb)] [bb] w0.heap.size wb mb bs.length (Akh w0 bs v1 bA bc pb bb):=by
 refine⟨Abc,fun x hx=>?_,h2,h3,h4,?_,?_⟩
 ·rw[jA.1 hx];exact⟨h1,h5,h6⟩
 ·rintro d w w' hE ⟨k1,k2,k3⟩;refine⟨k1.ext hE (by simp;exact⟨h5,h6⟩),k2.ext hE (by simp;exact⟨h7,h8⟩),Ea k3 hE fun x hx=>?_⟩
  rcases jE.1 hx with rfl|hx
  ·exact h2
  ·rw[jA.1 hx];exact h3
 ·rintro d h no a1 env w ⟨k1,k2,k3⟩ hX hF hk hM hG a2;refine(Aiy bs v1 bA bc pb bb mb h no a1 env _ w h9 k1 k2 (hB.keep k3) hX hF hk hM hG).mono ?_
  rintro e w' ⟨rfl,hE,hb⟩;refine⟨rfl,hE,?_,k2.ext hE (by rw[jA];exact Ne.symm h9),Ea k3 hE fun x hx=>by rw[jA.1 hx];exact h1⟩
  rw[List.any_append];simpa using hb
theorem Yy {α:Type}(p:α->Bool)(l:List α):(l.any fun a=>!p a) = !(l.all p):=by
 induction l with
 | nil=>rfl
 | cons a l ih=>simp only[List.any_cons,List.all_cons,ih,Bool.not_and]
theorem Aki {w:World}:∀{l:List St},(∀s∈l,Gc w s)->ptL l:=by
 have key:∀s:St,Gc w s->ptS s:=Dn fun h b ih=>fun k=>by
  unfold ptS;refine⟨k.all.2.2.2.2.1,?_⟩
  have hb:=k.all.2.2.2.2.2.2.2;clear k
  induction b with
  | nil=>unfold ptL;trivial
  | cons s b ihb=>unfold ptL;exact⟨ih s (jO ..) (hb s (jO ..)),ihb (fun s hs=>ih s (jI _ hs)) fun s hs=>hb s (jI _ hs)⟩
 intro l
 induction l with
 | nil=>intro _;unfold ptL;trivial
 | cons s l ih=>intro h;unfold ptL;exact⟨key s (h s (jO ..)),ih fun s hs=>h s (jI _ hs)⟩
set_option maxRecDepth 100000 in
theorem Md (p:Pg)(w:World)(hP:Lz w p):Calls prog 14 #[pgV p] w (My (Cd p.bs p.body) w):=by
 have HP:=hd hP;obtain⟨A,cap,bs,B,bcap,body⟩:=p;have ay:Hd (Cd bs body=if Du bs body=0 then(if 2500000<Av [] body then 2 else if(Au [] 0 body).all (inI bs) then 0 else 9) else Du bs body):=hd rfl;have aK:Hd (Du bs body=if Dy bs=0 then Eo bs.length [] 0 body else Dy bs):=hd rfl;unfold pgV;dsimp only;have aZ:bs.length<=1000000:=hP.bufs.1;have b0:=hd (fun h=>Jg.of (bs:=bs) (body:=body) h);clear hP;generalize hn:bs.length=n at *;have HN:=hd hn;clear hn;generalize hm:body.length=m at *;have HM:=hd hm;clear hm;have aL:=hd ((jF [] w).alloc (.cells #[.slice A n cap,.slice B m bcap] 29));have aM:=hd (jK w 29 #[.slice A n cap,.slice B m bcap]);have an:=hd (aL.o.alloc (.cells #[.slice A n cap,.slice B m bcap,(0:Int)] 78));have ae:=hd (aM.o.alloc (.cells #[.slice A n cap,.slice B m bcap,(0:Int)] 78));have ao:=hd (jK (w.alloc (.cells #[.slice A n cap,.slice B m bcap] 29)) 78 #[.slice A n cap,.slice B m bcap,(0:Int)]);rw[Bm] at ao;go_enter func14,ntmps14
 go_upto_region 2 with fail
 generalize World.alloc (World.alloc w _) _=w1 at *;generalize bb:w.heap.size=s0 at *;clear aL aM;have ap:=hd an.o;go_wp2_with fail
 refine(Xb (s0+1) (.slice B m bcap) 0 A n cap bs w1 ao.o (HP.o.keep an.o).bufs (HP.o.keep an.o).each HN.o (by have:=HP.o.cap;have:=HN.o;simp only at *;omega)).mono ?_
 rintro r w2 ⟨rfl,hE⟩;have ap:=hd (an.o.trans hE);have a6:=hd (ae.o.ext hE (by simp));have a7:=hd (ao.o.ext hE (by simp));have b4:=hE.size;clear hE ae ao;generalize bc:Dy bs=be at *;by_cases ax:be=0
 ·subst ax;have a8:=hd (aK.o.trans (ijp rfl));have qp:=a6.o.cell;have az:=a6.o.lt;go_wp2_with fail
  have b5:=a7.o.lt;have aN:=hd (Vc body (fun s _=>Ad4 s):Acu body);refine(aN.o B m bcap [] none 0 0 w w2 (s0+1) A n cap (.slice B m bcap) 0 HP.o.body HP.o.stmt (Aki HP.o.stmt) HM.o ap.o (by omega) (Ak.nil _ _ _ _) rfl ⟨fun _=>⟨rfl,rfl⟩,jD _,fun a ha=>by cases ha⟩ a7.o aZ (by omega)).mono ?_
  rintro r w3 ⟨bf,rfl,hE,-,-,-⟩;have aq:=hd (Ea ap.o hE fun x hx=>by rw[jA.1 hx];omega);have aa:=hd (a6.o.ext hE (by simp));have aA:=hE.size;clear hE qp az;generalize bd:Eo n [] 0 body=fe at *;by_cases aJ:fe=0
  ·subst aJ;have au:=hd (b0.o a8.o);have ad:=hd (ay.o.trans (ijp a8.o));clear bc bd;go_upto_region 9 with fail
   have aO:=hd (jK w3 84 #[(2500000:Int),(0:Int),(0:Int),.nilFunc]);have aP:=hd (aq.o.alloc (.cells #[(2500000:Int),(0:Int),(0:Int),.nilFunc] 84));have af:=hd (aa.o.alloc (.cells #[(2500000:Int),(0:Int),(0:Int),.nilFunc] 84));have aQ:=Bm w3 (.cells #[(2500000:Int),(0:Int),(0:Int),.nilFunc] 84);generalize World.alloc w3 _=w4 at *;generalize bh:w3.heap.size=wb at *;have aB:=aa.o.lt;have aC:=aq.o.size;rw[bh] at aB aC;clear aq aa a7 aN aA;have aD:=hd (jK w4 4 #[.bool false]);have aR:=hd (aP.o.alloc (.cells #[.bool false] 4));have ag:=hd (af.o.alloc (.cells #[.bool false] 4));have a1:=hd (aO.o.alloc (.cells #[.bool false] 4));have bi:=Bm w4 (.cells #[.bool false] 4);rw[aQ] at aD;go_upto_region 10 with fail
   generalize World.alloc w4 _=w5 at *;have qw:=a1.o.cell;have qf:=a1.o.frozen;have aS:=a1.o.lt;have ah:=hd (a1.o.set_' 3 (fnV 36 #[.pointer (some ⟨wb+1,0,none⟩),.pointer (some s0)]) (wkA (2500000:Nat) (0:Nat) (0:Nat) (fnV 36 #[.pointer (some ⟨wb+1,0,none⟩),.pointer (some s0)])) rfl);have ai:=hd (jL (b:=wb) (i:=3) (u:=fnV 36 #[.pointer (some ⟨wb+1,0,none⟩),.pointer (some s0)]) (.inl (by simp)) (jF [wb] w5));rw[aQ] at *;unfold fnV at ah ai;go_upto_region 11 with fail
   have ab:=hd (ag.o.ext ai.o (by rw[jA];omega));have aE:=hd (aD.o.ext ai.o (by rw[jA];omega));have aF:=hd (Ea aR.o ai.o fun x hx=>by rw[jA.1 hx];omega);have bj:(w5.setCell ⟨wb,3,none⟩ (.func (.func 36) #[] #[.pointer (some ⟨wb+1,0,none⟩),.pointer (some s0)])).heap.size=w5.heap.size:=World.size_setCell ..;generalize World.setCell _ _ _=w6 at *;clear qw qf aS aO a1 ai af ag aP aR aD;have qp:=ab.o.cell;have az:=ab.o.lt;have aT:=hd (aF.o.alloc (.map #[] 0));have aj:=hd (ab.o.alloc (.map #[] 0));have ak:=hd (aE.o.alloc (.map #[] 0));have al:=hd (ah.o.alloc (.map #[] 0));have aG:=hd (Bw.made w6);have bk:=Bm w6 (.map #[] 0);have hw6':w6.heap.size=wb+2:=by omega
   rw[hw6'] at aG;have bl:w.heap.size=s0:=bb;have am:=hd (Aiz w bs (.slice B m bcap) A cap s0 (wb+1) wb (wb+2) ⟨HP.o.bufs,au.o.siz⟩ (by omega) (by omega) (by omega) (by omega) (by omega) (by omega) (by omega) (by omega) (by omega));have aU:Hd (Akh w bs (.slice B m bcap) A cap s0 (wb+1) [] (w6.alloc (.map #[] 0))):=hd ⟨ak.o,by rw[HN.o];exact aj.o,aT.o⟩;have a2:=hd (Sn body (fun s _=>Aec s) 36 #[.pointer (some ⟨wb+1,0,none⟩),.pointer (some s0)] [wb+1] wb (wb+2) bs.length 2500000 (Akh w bs (.slice B m bcap) A cap s0 (wb+1)) w (w6.alloc (.map #[] 0)) B bcap [] [] 0 0 [] am.o (fun x hx=>by rw[jA.1 hx];omega) HP.o.body HP.o.stmt au.o.fd ⟨by simp,by simp,rfl,by simp⟩ aT.o al.o aG.o aU.o (by omega) (by omega) (by have:=au.o.sto;omega) au.o.cnt);rw[HM.o] at a2;have bm:=@run_makeMap prog;go_wp2_with fail
   refine a2.o.mono ?_
   rintro e w8 ⟨rfl,s',bo,d',ba,-,aX,-,-,hI,-,-,aY⟩;have aV:=hd aX;have aW:=hd hI.1;have aH:=hd hI.2.2;have b6:=hd aY;clear aX hI aY a2 am aU aG al ak aj qp az;have qw:=aV.o.cell;unfold wkA at qw;have aS:=aV.o.lt;have qb:=aW.o.cell;have bn:=aW.o.lt;rcases b6.o with⟨b1,b2,b3⟩|⟨b1,b2,b3⟩
   ·have aw:=hd (ad.o.trans (ijn (by omega)));have b7:¬(2500000:Int)<(s':Int):=by omega
    have ac:(d'.any fun i=>!inI bs i) = !((Au [] 0 body).all (inI bs)):=by rw[b3,List.nil_append];exact Yy _ _
    have b8:=hd ac;rw[ac] at qb;clear b1 b2 b3 ac;cases hal:(Au [] 0 body).all (inI bs)
    ·have aI:=hd (aw.o.trans (ijn (by rw[hal];simp)));rw[hal] at qb;clear hal;go_wp2_with fail
     go_ret
     exact⟨Ae aI.o.symm,aH.o⟩
    ·have aI:=hd (aw.o.trans (ijp hal));rw[hal] at qb;clear hal;go_wp2_with fail
     go_ret
     exact⟨Ae aI.o.symm,aH.o⟩
   ·have aw:=hd (ad.o.trans (ijp (by omega)));have b7:(2500000:Int)<(s':Int):=by omega
    clear b1 b2 b3;go_wp2_with fail
    go_ret
    exact⟨Ae aw.o.symm,aH.o⟩
  ·have ad:=hd (ay.o.trans (ijn (by rw[a8.o];exact aJ)));have hf0':(fe==0)=false:=by simpa using aJ
   go_wp2_with fail
   go_ret
   exact⟨Ae (by rw[ad.o,a8.o]),aq.o⟩
 ·have a8:=hd (aK.o.trans (ijn ax));have ad:=hd (ay.o.trans (ijn (by rw[a8.o];exact ax)));have hb0':(be==0)=false:=by simpa using ax
  go_wp2_with fail
  go_ret
  exact⟨Ae (by rw[ad.o,a8.o]),ap.o⟩
def prX (h:EH):Nat:=if h.k=2\/h.k=5 then 1 else if h.k=3 then 2 else if h.k=4 then 4 else 0
mutual
def prE:Ex->Nat|.mk h ks=>prX h+prL ks
def prL:List Ex->Nat | []=>0|e :: r=>prE e+prL r
end
theorem Sq (a b:List Ex):prL (a ++ b)=prL a+prL b:=by
 induction a with
 | nil=>simp[prL]
 | cons e a ih=>simp only[List.cons_append,prL,ih];omega
theorem Yz {l:List Ex}{j:Nat}{e:Ex}(h:l[j]? = some e):prL (l.take (j+1))=prL (l.take j)+prE e:=by
 rw[List.take_add_one,h,Sq];simp[prL]
theorem Ags {l:List Ex}{j:Nat}:prL (l.take j)<=prL l:=by
 have:=Sq (l.take j) (l.drop j);rw[List.take_append_drop] at this;omega
theorem Akj (h:EH):prX h<=4:=by unfold prX;split;omega;split;omega;split<;>omega
mutual
theorem Ph:∀e:Ex,prE e<=4*Al e
 | .mk h ks=>by
  have h1:=Agt ks;have h2:=Akj h;simp only[prE,Al];omega
theorem Agt:∀l:List Ex,prL l<=4*Ap l
 | []=>by simp[prL]
 | e :: l=>by
  have h1:=Ph e;have h2:=Agt l;simp only[prL,Ap];omega
end
set_option maxRecDepth 100000 in
theorem Aed (names:List ByteArray)(nb:Nat):∀e:Ex,Bs names nb e=0->Al e<=1000000->∀(cn:List ByteArray) (g n:Nat) (T:List Nat) (w:World),CEx w n T cn g e->
  Calls prog 159 #[ptV g] w fun r w'=>r=.returned (.int .i64 (prE e:Nat))/\Ext [] w w':=by
 refine Gs fun h ks ih=>?_
 intro hx hp cn g n T w hC;have HI:=hd ih;have HO:=hd (Tv.of hx);have a6:=Ph (.mk h ks);have al:prE (.mk h ks)<=262144000000:=by omega
 have aa:Hd (prE (.mk h ks)=prX h+prL ks):=hd (by rw[prE]);have aC:Ap ks<=1000000:=by rw[Al] at hp;omega
 have am:=hd (fun j e (hj:ks[j]? = some e)=>(show Al e<=1000000 by
  have h1:=Dl hj;have h2:Ap (ks.take (j+1))<=Ap ks:=Gw;omega))
 obtain⟨pb,po,A,cap,gs,hg,af,hk,ag,hs⟩:∃(pb po:Nat) (A:Option Addr) (cap:Nat) (gs:List Nat),Blk w g 271 (Jy pb po h.at_.base (Bq cn h.at_.ts) (.slice A ks.length cap))/\(∀(j:Nat) (v:Value),(exH h ks.length)[j]? = some v->w.cell? ⟨pb,po+j,none⟩=some v)/\Ak w A 1 ptC gs/\gs.length=ks.length/\∀(i g':Nat) (e':Ex),gs[i]? = some g'->ks[i]? = some e'->CEx w n T cn g' e':=by
  cases hC
  exact⟨_,_,_,_,_,by assumption,by assumption,by assumption,by assumption,by assumption⟩
 have HG:=hd hg;have HP:=hd af;have HK:=hd hk;have ab:=hd ag;have HS:=hd hs;have an:w.cell? ⟨g,0,none⟩=some (.pointer (some ⟨pb,po,none⟩)):=HG.o.cell 0;have a8:w.cell? ⟨g,10,none⟩=some (.slice A ks.length cap):=HG.o.cell 10;have ao:=HG.o.lt;have qk:w.cell? ⟨pb,po,none⟩=some (.int .i64 h.k):=HP.o 0 _ rfl;have ac:=jB w _ qk;simp only at ac;have aD:gs.length<=1000000:=HK.o.1;have ap:Hd ((h.k=2\/h.k=5->prX h=1)/\(h.k=3->prX h=2)/\(h.k=4->prX h=4)/\(h.k=1->prX h=0)):=hd (by unfold prX;refine⟨fun h=>ijp h,fun h=>?_,fun h=>?_,fun h=>?_⟩<;>simp[h]);have aq:=hd HO.o.kind;clear ih hx hC hg af hk ag hs hp a6;unfold ptV;have au:=hd (HO.o.kids);generalize hR:prE (.mk h ks)=R at *;clear hR;generalize hX:prX h=X at *;clear hX;generalize aj:ks.length=m at *;have a7:=hd aj;clear aj;go_enter func159,ntmps159
 generalize h.k=hk at *;go_upto_block 0 with fail
 go_cut [3] (fun s wx=>s=.int .i64 (X:Nat)/\wx=w)
 case first=>
  have a2:=ap.o;have aw:=aq.o;rcases aw with rfl|rfl|rfl|rfl|rfl
  ·have hx:=a2.2.2.2 rfl;go_wp2_with fail
   go_meet
   exact⟨by rw[hx];rfl,rfl⟩
  ·have hx:=a2.1 (.inl rfl);go_wp2_with fail
   go_meet
   exact⟨by rw[hx];rfl,rfl⟩
  ·have hx:=a2.2.1 rfl;go_wp2_with fail
   go_meet
   exact⟨by rw[hx];rfl,rfl⟩
  ·have hx:=a2.2.2.1 rfl;go_wp2_with fail
   go_meet
   exact⟨by rw[hx];rfl,rfl⟩
  ·have hx:=a2.1 (.inr rfl);go_wp2_with fail
   go_meet
   exact⟨by rw[hx];rfl,rfl⟩
 case rest=>
  obtain⟨rfl,hw⟩:=hcut;have hw':=hw.symm;subst hw';have ax:=hd (fun j=>@Ags ks j);have aE:X+prL ks<=262144000000:=by have:=aa.o;omega
  generalize ak:prL ks=RL at *;have ay:=hd ak;clear ak al;go_wp2_with fail
  clear an a8 ao qk ac;have aF:m<=1000000:=by have h1:=ab.o;have h2:=a7.o;omega
  go_loopw [3,25] (fun z i wr=>∃k:Nat,i=.int .i64 k/\z=.int .i64 (X+prL (ks.take k):Nat)/\k<=m/\Hd (Ext [] w wr)) (fun _ i _=>(m-intOf i).toNat)
  case atStart=>exact⟨0,rfl,by simp[prL],jQ _,hd (jF _ _)⟩
  case round=>
   obtain⟨k,rfl,rfl,hk,HE⟩:=hrel;rename World=>wq
   by_cases aH:k<m
   ·obtain⟨bb,g',rfl,ah,ai⟩:=(HK.o.keep HE.o).at (i:=k) (by have:=ab.o;have:=a7.o;omega);have qa:wq.cell? ⟨bb,k,none⟩=some (.pointer (some g')):=by have:=ai 0 _ rfl;rw[Nat.mul_one,Nat.add_zero] at this;exact this
    have az:=jB wq _ qa;simp only at az;obtain⟨x,hx⟩:∃x,ks[k]? = some x:=⟨_,jJ (show k<ks.length by have:=a7.o;omega)⟩;have a1:=ilm hx;have ad:=hd (Yz hx);have a6:prL (ks.take (k+1))<=RL:=ax.o (k+1);rw[ad.o] at a6;have ae:=hd (HI.o _ a1 (au.o _ a1) (am.o k _ hx) cn g' n T wq ((HS.o k g' _ ah hx).step HE.o (by simp) (jD n) fun y hy=>.inl hy));generalize prL (ks.take k)=P at *;generalize prE x=Y at *;have aG:=hd a6;unfold ptV at ae;clear ah ai hx a1;go_wp2_with fail
    refine ae.o.mono ?_
    rintro r w2 ⟨rfl,hE⟩;have aA:=hd (HE.o.trans hE);clear hE;go_wp2_with fail
    go_roundw
    case rel=>exact⟨k+1,by go_num,by rw[ad.o];first|rfl|(congr 1;push_cast;omega),by omega,aA⟩
    case measure=>simp[intOf];omega
   ·have aB:k=m:=by omega
    subst aB;have HT:Hd (ks.take k=ks):=hd (List.take_of_length_le (by have:=a7.o;omega));go_wp2_with fail
    go_ret
    exact⟨Ae (by rw[HT.o,aa.o,ay.o]),HE.o⟩
set_option maxRecDepth 100000 in
theorem Abd (names:List ByteArray)(nb:Nat):∀e:Ex,Bs names nb e=0->Al e<=1000000->∀w:World,Gu w e->
  Calls prog 108 #[exV e] w fun r w'=>r=.returned (.int .i64 (prE e:Nat))/\Ext [] w w':=by
 refine Gs fun h ks ih=>?_
 intro hx hp w hX;have HI:=hd ih;have HO:=hd (Tv.of hx);have a7:=Ph (.mk h ks);have an:prE (.mk h ks)<=262144000000:=by omega
 have ac:Hd (prE (.mk h ks)=prX h+prL ks):=hd (by rw[prE])
 have ao:=hd (fun j e (hj:ks[j]? = some e)=>(show Al e<=1000000 by
  have h1:=Dl hj;have h2:Ap (ks.take (j+1))<=Ap ks:=Gw;rw[Al] at hp;omega))
 have a8:Hd (Ak w h.A 10 exC ks/\∀e∈ks,Gu w e):=hd (by cases hX;exact⟨by assumption,by assumption⟩);have ad:Hd ((h.k=2\/h.k=5->prX h=1)/\(h.k=3->prX h=2)/\(h.k=4->prX h=4)/\(h.k=1->prX h=0)):=hd (by unfold prX;refine⟨fun h=>ijp h,fun h=>?_,fun h=>?_,fun h=>?_⟩<;>simp[h]);have ae:=HO.o.kind;have ap:=hd (HO.o.kids);have aA:ks.length<=1000000:=a8.o.1.1;clear ih hx hX hp a7;generalize hR:prE (.mk h ks)=R at *;clear hR;generalize hX:prX h=X at *;clear hX;have af:exV (.mk h ks)=.agg #[.int .i64 h.k,.int .i64 h.op,.int .i64 h.lo,.int .i64 h.hi,.int .i64 h.n,.int .i64 h.m,.int .i64 h.buf,.int .i64 h.at_.base,.slice h.at_.A h.at_.ts.length h.at_.cap,.slice h.A ks.length h.cap]:=rfl;rw[af];clear af;generalize al:ks.length=m at *;have ag:=hd al;clear al HO;have a2:=ad.o;clear ad;generalize h.k=hk at *;generalize h.A=cA at *;have ah:=hd ((jF [] w).alloc (.cells #[hk,.int .i64 h.op,.int .i64 h.lo,.int .i64 h.hi,.int .i64 h.n,.int .i64 h.m,.int .i64 h.buf,.int .i64 h.at_.base,.slice h.at_.A h.at_.ts.length h.at_.cap,.slice cA m h.cap] 41));have a6:=hd (jK w 41 #[hk,.int .i64 h.op,.int .i64 h.lo,.int .i64 h.hi,.int .i64 h.n,.int .i64 h.m,.int .i64 h.buf,.int .i64 h.at_.base,.slice h.at_.A h.at_.ts.length h.at_.cap,.slice cA m h.cap]);go_enter func108,ntmps108
 go_upto_region 1 with fail
 generalize World.alloc w _=w1 at *;generalize w.heap.size=s at *;go_cut [3] (fun z wx=>z=.int .i64 (X:Nat)/\Hd (Ext [] w1 wx))
 case first=>
  have q:=a6.o.cell;have ql:=a6.o.lt;rcases ae with rfl|rfl|rfl|rfl|rfl
  ·have hx:=a2.2.2.2 rfl;go_wp2_with fail
   go_meet
   exact⟨by rw[hx];rfl,hd (by repeat(first|exact jF _ _|refine Ext.alloc ?_ _))⟩
  ·have hx:=a2.1 (.inl rfl);go_wp2_with fail
   go_meet
   exact⟨by rw[hx];rfl,hd (by repeat(first|exact jF _ _|refine Ext.alloc ?_ _))⟩
  ·have hx:=a2.2.1 rfl;go_wp2_with fail
   go_meet
   exact⟨by rw[hx];rfl,hd (by repeat(first|exact jF _ _|refine Ext.alloc ?_ _))⟩
  ·have hx:=a2.2.2.1 rfl;go_wp2_with fail
   go_meet
   exact⟨by rw[hx];rfl,hd (by repeat(first|exact jF _ _|refine Ext.alloc ?_ _))⟩
  ·have hx:=a2.1 (.inr rfl);go_wp2_with fail
   go_meet
   exact⟨by rw[hx];rfl,hd (by repeat(first|exact jF _ _|refine Ext.alloc ?_ _))⟩
 case rest=>
  obtain⟨rfl,ab⟩:=hcut;have ai:=hd (a6.o.ext ab.o (by simp));have aq:=hd (ah.o.trans ab.o);have aB:X+prL ks<=262144000000:=by have:=ac.o;omega
  have au:=hd (fun j=>@Ags ks j);generalize am:prL ks=RL at *;have aw:=hd am;clear am an ae a2 ah a6 ab;have q:=ai.o.cell;have ql:=ai.o.lt;go_wp2_with fail
  clear q ql;go_loopw [3,14] (fun z i wr=>∃k:Nat,i=.int .i64 k/\z=.int .i64 (X+prL (ks.take k):Nat)/\k<=m/\Hd (Ext [] w wr)) (fun _ i _=>(m-intOf i).toNat)
  case atStart=>exact⟨0,rfl,by simp[prL],jQ _,aq⟩
  case round=>
   obtain⟨k,rfl,rfl,aD,HE⟩:=hrel;rename World=>wq
   by_cases aE:k<m
   ·have aC:(k:Int)<m:=by omega
    obtain⟨b,x,rfl,hx,hc⟩:=(a8.o.1.keep HE.o).at (i:=k) (by have:=ag.o;omega);have a1:=ilm hx;have aj:=hd (Yz hx);have a7:prL (ks.take (k+1))<=RL:=au.o (k+1);rw[aj.o] at a7;have ak:=hd (HE.o.alloc (.cells (An x) 41));have aa:=hd (HI.o x a1 (ap.o x a1) (ao.o k x hx) (wq.alloc (.cells (An x) 41)) ((a8.o.2 x a1).keep ak.o));have HW:=hd (fun j v hv=>hc j v (by rw[Ey];exact hv):∀(j:Nat) (v:Value),(An x).toList[j]? = some v->wq.cell? ⟨b,k*10+j,none⟩=some v);have ax:=hd (jK wq 41 (An x)).wide;rw[Cq] at aa;generalize prL (ks.take k)=P at *;generalize prE x=Y at *;clear hx hc a1
    go_wp2_with (first
     | refine Ac rfl 41 _ rfl b (k*10) rfl (An x) HW.o _ underlying41 rfl Ch ?_
     | refine Ax rfl rfl 41 _ _ rfl rfl zEx (Kj _) (An x) rfl rfl Ch rfl (Fu x) ?_
     | refine Ac rfl 41 _ rfl wq.heap.size 0 rfl (An x) ax.o _ underlying41 rfl Ch ?_)
    refine aa.o.mono ?_
    rintro r w' ⟨rfl,hE⟩;have ay:=hd (ak.o.trans hE);clear hE aa;go_wp2_with fail
    go_roundw
    case rel=>exact⟨k+1,by go_num,by rw[aj.o];first|rfl|(congr 1;push_cast;omega),by omega,ay⟩
    case measure=>simp[intOf];omega
   ·have az:k=m:=by omega
    subst az;have HT:Hd (ks.take k=ks):=hd (List.take_of_length_le (by have:=ag.o;omega));go_wp2_with fail
    go_ret
    exact⟨Ae (by rw[HT.o,ac.o,aw.o]),HE.o⟩
section
mutual
def Pi (ln:Nat)(env:Env):St->Nat
 | .mk h b=>if h.k=3 then 1+prE h.val else if h.k=2 then h.conds.length+(if Ec env h then Ca ln env b else 0)
   else if h.vec then(Ar h+ln-1) / ln*(1+Ca ln env b) else((List.range (Ar h)).map fun k=>1+Ca ln (Bh env h k) b).sum
def Ca (ln:Nat)(env:Env):List St->Nat
 | []=>0
 | s :: r=>Pi ln env s+Ca ln env r
end
inductive Lj:St->Prop
 | mk (h:SH) (b:List St) (hp:Al h.val<=1000000) (hs:∀s∈b,Lj s):Lj (.mk h b)
theorem Lj.of {w:World}{s:St}(h:Gc w s):Lj s:=by
 induction h with
 | mk h b hc hcs ha hv hp hz hb hs ih=>exact .mk h b hp ih
section
variable {ln:Nat} {env:Env}
theorem Pv (a b:List St):Ca ln env (a ++ b)=Ca ln env a+Ca ln env b:=by
 induction a with
 | nil=>simp[Ca]
 | cons e a ih=>simp only[List.cons_append,Ca,ih];omega
theorem Vg {l:List St}{j:Nat}{s:St}(h:l[j]? = some s):Ca ln env (l.take (j+1))=Ca ln env (l.take j)+Pi ln env s:=by
 rw[List.take_add_one,h,Pv];simp[Ca]
theorem Acx {l:List St}{j:Nat}:Ca ln env (l.take j)<=Ca ln env l:=by
 have:=Pv (ln:=ln) (env:=env) (l.take j) (l.drop j);rw[List.take_append_drop] at this;omega
theorem He {h:SH}{b:List St}(hk:h.k=3):Pi ln env (.mk h b)=1+prE h.val:=by rw[Pi,ijp hk]
theorem Pj {h:SH}{b:List St}(hk:h.k=2):Pi ln env (.mk h b)=h.conds.length+(if Ec env h then Ca ln env b else 0):=by rw[Pi,ijn (by omega),ijp hk]
theorem Sr {h:SH}{b:List St}(hk:h.k=1)(hv:h.vec=true):Pi ln env (.mk h b)=(Ar h+ln-1) / ln*(1+Ca ln env b):=by rw[Pi,ijn (by omega),ijn (by omega),ijp hv]
theorem Ss {h:SH}{b:List St}(hk:h.k=1)(hv:h.vec=false):Pi ln env (.mk h b)=Gp (Ar h) fun k=>1+Ca ln (Bh env h k) b:=by rw[Pi,ijn (by omega),ijn (by omega),ijn (by simp[hv])];rfl
theorem Pw {env':Env}:∀{l:List St},(∀s∈l,s.h.k=3)->Ca ln env l=Ca ln env' l
 | [],_=>by simp[Ca]
 | .mk h b :: l,hl=>by
  have h3:h.k=3:=hl _ (jO ..);rw[Ca,Ca,He h3,He h3,Pw (env':=env') fun s hs=>hl s (jI _ hs)]
theorem Mu:∀{l:List St},(∀s∈l,s.h.k=3)->(∀s∈l,Lj s)->Ca ln env l<=4000001*l.length
 | [],_,_=>by simp[Ca]
 | .mk h b :: l,hl,hp=>by
  have h3:h.k=3:=hl _ (jO ..);have h4:=hp _ (jO ..);have h5:Al h.val<=1000000:=by cases h4;assumption
  have h6:=Ph h.val;have h7:=Mu (fun s hs=>hl s (jI _ hs)) (fun s hs=>hp s (jI _ hs));rw[Ca,He h3,List.length_cons];omega
end
theorem Aee {n:Nat}{f g:Nat->Nat}(h:∀k,k<n->f k<=g k):Gp n f<=Gp n g:=by
 induction n with
 | zero=>simp[Ib]
 | succ n ih=>
  rw[Da,Da];have:=ih fun k hk=>h k (by omega)
  have:=h n (by omega);omega
theorem Agu (n c:Nat)(f:Nat->Nat):Gp n (fun k=>c*f k)=c*Gp n f:=by
 induction n with
 | zero=>simp[Ib]
 | succ n ih=>rw[Da,Da,ih,Nat.mul_add]
theorem Akk (ln nb:Nat)(hln:1<=ln):∀s:St,∀(vars:List ByteArray) (env:Env),Fd nb vars s->Lj s->Pi ln env s<=4000001*Jd env s:=by
 refine Dn fun h b ih=>?_
 intro vars env hF hP
 have a1:∀(vars:List ByteArray) (env:Env),(∀s∈b,Fd nb vars s)->Ca ln env b<=4000001*Av env b:=by
  intro vars env hs;have hb:∀s∈b,Lj s:=by cases hP;assumption
  clear hF hP
  induction b with
  | nil=>simp[Ca,Av]
  | cons x l ih2=>
   have h1:=ih x (jO ..) vars env (hs x (jO ..)) (hb x (jO ..));have h2:=ih2 (fun s hs'=>ih s (jI _ hs')) (fun s hs'=>hs s (jI _ hs')) (fun s hs'=>hb s (jI _ hs'));rw[Ca,Av];omega
 have a6:Al h.val<=1000000:=by cases hP;assumption
 have a2:∀s∈b,Lj s:=by cases hP;assumption
 cases hF with
 | loop _ _ _ hk hn hv hl h1 h2 h3 h4 hs=>
  cases hvec:h.vec with
  | true=>
   rw[Sr hk hvec,Rm hk hvec];have hc:=Mu (ln:=ln) (env:=env) (h4 hvec) a2
   have hd:(Ar h+ln-1) / ln<=Ar h:=by
    rcases Nat.eq_zero_or_pos (Ar h) with h0|h0
    ·rw[h0];have:(0+ln-1) / ln=0:=Nat.div_eq_of_lt (by omega);omega
    ·refine Nat.div_le_of_le_mul ?_
     have:ln*Ar h ≥ Ar h+ln-1:=by
      obtain⟨m,hm⟩:∃m,Ar h=m+1:=⟨Ar h-1,by omega⟩;rw[hm,Nat.mul_succ];have:m<=ln*m:=Nat.le_mul_of_pos_left m hln;omega
     exact this
   have hm:=Nat.mul_le_mul hd (show 1+Ca ln env b<=4000001*(1+b.length) by omega);have e:Ar h*(4000001*(1+b.length))=4000001*(Ar h*(1+b.length)):=by rw[Nat.mul_left_comm]
   omega
  | false=>
   rw[Ss hk hvec,Lm hk hvec,Js]
   have hm:=Aee (n:=Ar h) (f:=fun k=>1+Ca ln (Bh env h k) b) (g:=fun k=>4000001*(1+Av (Bh env h k) b)) fun k hk'=>by
    have:=a1 _ (Bh env h k) hs;omega
   rw[Agu,Js,Js] at hm;omega
 | when _ _ _ hk hv hc hl hs=>
  rw[Pj hk,Gx hk];have:=a1 _ env hs;split<;>omega
 | store _ _ hk hv hb ha hx hf=>
  rw[He hk,Kl hk];have:=Ph h.val;omega
theorem Qw (ln nb:Nat)(hln:1<=ln){vars:List ByteArray}{env:Env}:∀{l:List St},(∀s∈l,Fd nb vars s)->(∀s∈l,Lj s)->Ca ln env l<=4000001*Av env l
 | [],_,_=>by simp[Ca,Av]
 | x :: l,h1,h2=>by
  have h3:=Akk ln nb hln x vars env (h1 x (jO ..)) (h2 x (jO ..));have h4:=Qw ln nb hln (env:=env) (fun s hs=>h1 s (jI _ hs)) (fun s hs=>h2 s (jI _ hs));rw[Ca,Av];omega
end
section
theorem Kw {env:Env}:∀{l:List St},(∀s∈l,s.h.k=3)->Av env l=l.length
 | [],_=>by simp[Av]
 | .mk h b :: l,hl=>by
  have h3:h.k=3:=hl _ (jO ..);rw[Av,Kl h3,Kw fun s hs=>hl s (jI _ hs),List.length_cons];omega
def JV (eb:Nat)(vs:List Int)(w0:World)(_:Nat)(w:World):Prop:=Ext [eb] w0 w/\Bn w eb vs
def JQ (w0:World)(eb ka:Nat)(r:Nat->Bool)(w:World):Prop:=(r ka=true->Ext [] w0 w)/\Ext [eb] w0 w
def RQ (eb ka kc:Nat)(us:List Int)(j:Nat)(w w':World):Prop:=Ext [eb] w w'/\(j≠ka->Bn w eb us->Bn w' eb us)/\(j≠ka->j≠kc->Ext [] w w')
theorem Fp.doneC {ops:Array Oper}{i:Nat}{r:Nat->Bool}(h:Fp ops i r)(j:Nat)(hj:(ops[i]?.map fun oi=>oi.after.any fun e=>Region.binds .any e&&e.on==j)=some true):r j=false:=by
 cases ho:ops[i]? with
 | none=>rw[ho] at hj;cases hj
 | some oi=>
  rw[ho] at hj;simp only[Option.map_some,Option.some.injEq] at hj;obtain⟨e,he,hb⟩:=Array.any_eq_true'.1 hj;simp only[Bool.and_eq_true,beq_iff_eq] at hb;rw[<-hb.2];exact h.ready oi ho e he hb.1
theorem Agv {r:Nat->Bool}{i j:Nat}(h:off r i j=true):r j=true:=by
 unfold off at h;simp at h;exact h.1
theorem Ai0 (r:Nat->Bool)(i:Nat):off r i i=false:=by unfold off;simp
section
variable {w0 w w':World} {eb ka kc i:Nat} {us:List Int} {r:Nat->Bool}
theorem JQ.grow (h:JQ w0 eb ka r w)(hE:Ext [] w w'):JQ w0 eb ka (off r i) w':=⟨fun hr=>(h.1 (Agv hr)).trans hE,h.2.trans hE.nil⟩
theorem RQ.grow (hE:Ext [] w w'):RQ eb ka kc us i w w':=⟨hE.nil,fun _ h=>h.keep hE (by simp),fun _ _=>hE⟩
end
theorem rgQ {id:Nat}{Q:Exit->Act->World->Prop}{a:Act}{w:World}{l:List Oper}(p eb ka kc:Nat)(us:List Int)(ks:List (Nat×Ba))
  (hs:∀i s j,Bi ks i=some s->j≠i->∀x w w',RQ eb ka kc us j w w'->s.V x w->s.V x w')
  (h:Bb prog l.toArray p (JQ w eb ka) (RQ eb ka kc us) (Bi ks) (fun a w=>wpList prog l.toArray Q (l.drop p) a w) 0 (l.take p) a (fun _ _=>True)) (hm:(prog).follows .mixedOrders=true:=by kernel_rfl) (hB:Ir l.toArray p=true:=by kernel_rfl):(Code.region id l.toArray true).wp prog Q a w:=
 De p (JQ w eb ka) (RQ eb ka kc us) (Bi ks) hm hB (fun i r w _ _ h=>h.grow (jF _ _)) hs ⟨fun _=>(jF _ _).drew,(jF _ _).drew⟩ h
theorem Aef {P:Program}{o:Oper}{s x:Operand}{t:TypeId}(ho:o.op=.call {callee:=.builtin .append,args:=#[s,x],argTypes:=#[t,t] })(ev:Operand->Value)(w w':World)(v y u:Value)(hs:ev s=v)(hx:ev x=y)
  (h:(Builtin.append_ #[t,t] o.type #[v,y]).run P w=.ok u w'):(execOp ev o).run P w=.ok (.value u) w':=by
 unfold execOp;simp only[ho,resolve,invoke,builtin,Sem.run_bind,Sem.run_pure,Result.andThen_ok,List.map_toArray,List.map_cons,List.map_nil,hs,hx,h]
def Akl (eb:Nat)(vs:List Int)(v:Nat)(w:World)(e:Ending)(w':World):Prop:=e=.returned (.int .i64 v)/\Ext [eb] w w'/\Bn w' eb vs
def Agw (l:List St):Prop:=∀(n nb eb ln:Nat) (A:Option Addr) (cap:Nat) (gs:List Nat) (names:List ByteArray) (vs:List Int) (no:Nat) (xs:List Int) (gl L:List Nat) (AL:List Value) (w:World),
 Dh w n nb L AL names xs gl no A gs l->Bn w eb vs->(vs.length=names.length\/∀s∈l,s.h.k=3)->n<=eb->1<=ln->ln<=16->(∀s∈l,Lj s)->Av (names.zip vs) l<=2500000->
  Calls prog 107 #[.slice A l.length cap,.slice (some eb) vs.length 8,ln] w (Akl eb vs (Ca ln (names.zip vs) l) w)
attribute [local irreducible] Bj Bb
set_option maxRecDepth 100000 in
theorem Vh (l:List St)(ih:∀s∈l,Agw s.body):Agw l:=by
 intro n nb eb ln A cap gs names vs no xs gl L AL w hA hV hl hne hln hln2 hpa ac;have HI:=hd ih;have HA:=hd hA;have HV:=hd hV;have HL:=hd hl;have bi:=hd hpa;have c0:gs.length<=1000000:=hA.row.1;have c1:=hV.1;have bj:=Qw ln nb hln (env:=names.zip vs) hA.fd hpa;have bk:=hd (fun j=>@Acx ln (names.zip vs) l j);have bm:=hd (fun j=>@Oc (names.zip vs) l j);clear ih hA hV hl hpa;generalize hn:l.length=m at *;have HN:=hd hn;generalize be:vs.length=d at *;have HD:=hd be;have c2:m<=1000000:=by have:=HA.o.len;omega
 clear hn be;generalize ap:names.zip vs=env at *;have a8:=hd ap;clear ap;generalize bf:Ca ln env l=CT at *;have bn:=hd bf;have bo:CT<=10000002500000:=by omega
 clear bf bj;go_enter func107,ntmps107
 go_wp2_with fail
 go_loopw [7,13] (fun z i wr=>∃k:Nat,i=.int .i64 k/\z=.int .i64 (Ca ln env (l.take k):Nat)/\k<=m/\Hd (Ext [eb] w wr)/\Hd (Bn wr eb vs)) (fun _ i _=>(m-intOf i).toNat)
 case atStart=>exact⟨0,rfl,by simp[Ca],jQ _,hd (jF _ _),HV⟩
 case round=>
  obtain⟨k,rfl,rfl,hk,HE,ah⟩:=hrel;rename World=>wq
  by_cases c9:k<m
  ·have aW:(k:Int)<(m:Int):=by omega
   have hS:∀x∈[eb],n<=x:=fun x hx=>by rw[jA.1 hx];exact hne
   have aX:=hd (HA.o.step HE.o hS);obtain⟨bA,g,rfl,hg,ba⟩:=aX.o.row.at (i:=k) (by have:=HA.o.len;have:=HN.o;omega);have aF:wq.cell? ⟨bA,k,none⟩=some (.pointer (some g)):=by have:=ba 0 _ rfl;rw[Nat.mul_one,Nat.add_zero] at this;exact this
   have ag:=jB wq _ aF;simp only at ag;obtain⟨s,hs⟩:∃s,l[k]? = some s:=⟨_,jJ (by have:=HN.o;omega)⟩;obtain⟨h,bs⟩:=s;have a6:=ilm hs;obtain⟨pb,po,CA,cc,BA,bcap,aU,PA,pc,vv,hC⟩:=(aX.o.at_ k g _ hg hs).open_;have HC:=hd hC;have ae:=hd (HA.o.fd _ a6);have al:=hd (HI.o _ a6);have aq:=hd (bi.o _ a6);have bp:=hd (HL.o.imp id fun h3=>h3 _ a6);have aY:=hd (Vg (ln:=ln) (env:=env) hs);have bq:Ca ln env (l.take (k+1))<=CT:=bk.o (k+1);rw[aY.o] at bq;have aZ:Av env (l.take (k+1))<=2500000:=nt (bm.o (k+1)) ac;rw[Dp hs] at aZ;have b0:=hd (show Jd env (.mk h bs)<=2500000 by omega);clear hg ba hs a6 hC aZ;generalize hP:Ca ln env (l.take k)=P at *;clear hP;generalize hY:Pi ln env (.mk h bs)=Y at *;have HY:=hd hY;clear hY;go_upto_block 1 with fail
   have au:=HC.o.gn;have b1:=HC.o.pn;go_cut [7] (fun z wx=>z=.int .i64 (P+Y:Nat)/\Hd (Ext [eb] wq wx)/\Hd (Bn wx eb vs))
   case first=>
    have b2:wq.cell? ⟨g,0,none⟩=some (.pointer (some ⟨pb,po,none⟩)):=HC.o.blk.cell 0;have aw:=HC.o.blk.lt;have qk:wq.cell? ⟨pb,po,none⟩=some (.int .i64 h.k):=HC.o.src 0 _ rfl;have ax:=jB wq _ qk;simp only at ax;by_cases af:h.k=3
    ·
     have e3:(h.k==3)=true:=by simpa using af
     obtain⟨vb,LA,lc,bO,bb,-⟩:=HC.o.val af;have b3:Al h.val<=1000000:=by have:=aq.o;cases this;assumption
     have b4:Bs names nb h.val=0:=by
      have:=ae.o;cases this with
      | loop _ _ _ h1=>omega
      | when _ _ _ h1=>omega
      | store _ _ _ _ _ _ hx=>exact hx
     have aG:=hd (Aed names nb h.val b4 b3 names vb n [] wq bb);have a2:=hd (HY.o.symm.trans (He af));have qv:wq.cell? ⟨g,16,none⟩=some vv:=HC.o.blk.cell 16;subst bO;unfold ptV at qv aG;generalize prE h.val=PV at *;generalize h.k=hk at qk e3;clear af bb b4 b3;go_wp2_with fail
     refine aG.o.mono ?_
     rintro e w2 ⟨rfl,hE⟩;have a7:=hd hE;clear hE aG;have ai:=a2.o;go_wp2_with fail
     go_meet
     exact⟨by rw[a2.o];first|rfl|(congr 1;push_cast;first|done|omega),hd a7.o.nil,hd (ah.o.keep a7.o (by simp))⟩
    ·have e3:(h.k==3)=false:=by simpa using af
     have am:Hd (d=names.length):=hd (bp.o.resolve_right af);by_cases ad:h.k=2
     ·skip
      have e2:(h.k==2)=true:=by simpa using ad
      have br:Hd (Aw names h=names):=hd (ijn (by omega))
      have aH:=hd (Ms g CA h.conds.length cc h names eb vs wq (by have:=HC.o.blk.cell 3;rw[this];simp[Ck,ad]) rfl (HC.o.cond ad).1 (by
        have:=ae.o;cases this with
        | loop _ _ _ h1=>omega
        | when _ _ _ _ _ h1 h2=>exact h1
        | store _ _ h1=>omega) ah.o (by rw[HD.o];exact am.o))
      rw[HD.o,a8.o] at aH;have a2:=hd (HY.o.symm.trans (Pj ad));have ay:=hd (Gx (env:=env) (b:=bs) ad);have qc:wq.cell? ⟨g,3,none⟩=some (.slice CA h.conds.length cc):=by have:=HC.o.blk.cell 3;rw[this];simp[Ck,ad]
      have c3:h.conds.length<=4:=by
       have:=ae.o;cases this with
       | loop _ _ _ h1=>omega
       | when _ _ _ _ _ h1 h2=>exact h2.2
       | store _ _ h1=>omega
      generalize bT:h.conds.length=cn at *;generalize h.k=hk at qk e2 e3;clear ad af bT;go_wp2_with fail
      refine aH.o.mono ?_
      rintro e w2 ⟨rfl,hE⟩;have a7:=hd hE;clear hE aH;have az:w2.cell? ⟨g,4,none⟩=some (.slice BA bs.length bcap):=(HC.o.blk.ext a7.o (by simp)).cell 4;have bt:=(HC.o.blk.ext a7.o (by simp)).lt;cases hh:Ec env h
      ·have aA:=hd hh;clear hh;have ai:Y=cn:=by rw[a2.o,aA.o];simp
       go_wp2_with fail
       go_meet
       exact⟨by rw[ai];congr 1,hd a7.o.nil,hd (ah.o.keep a7.o (by simp))⟩
      ·have aA:=hd hh;clear hh;have ai:Y=cn+Ca ln env bs:=by rw[a2.o,aA.o];simp
       have aI:1+Av env bs<=2500000:=by have h1:=ay.o;rw[aA.o,ijp rfl] at h1;have:=b0.o;omega
       have HQ:=hd (al.o n nb eb ln BA bcap aU names vs (no+Ab (l.take k)) (xs ++ [(k:Int)]) (Co gl h g) L AL w2 (by
         have:=(Dh.body HC.o ae.o).step a7.o (by simp);rw[br.o] at this;exact this) (ah.o.keep a7.o (by simp)) (.inl (by rw[HD.o];exact am.o)) hne hln hln2 (by have:=aq.o;cases this;assumption) (by simp only[St.body];rw[a8.o];omega))
       simp only[St.body] at HQ;rw[HD.o,a8.o] at HQ;have b5:=hd ai;generalize Ca ln env bs=CB at *;clear ai;go_wp2_with fail
       refine HQ.o.mono ?_
       rintro e w3 ⟨rfl,bc,bd⟩;have bu:=hd bc;have bv:=hd bd;have ai:=b5.o;clear bc bd HQ;go_wp2_with fail
       go_meet
       exact⟨by rw[b5.o];first|rfl|(congr 1;push_cast;first|done|omega),hd (a7.o.nil.trans bu.o),bv⟩
     ·have e2:(h.k==2)=false:=by simpa using ad
      have aJ:h.k=1:=by
       have:=ae.o;cases this with
       | loop _ _ _ h1=>exact h1
       | when _ _ _ h1=>omega
       | store _ _ h1=>omega
      have aK:wq.cell? ⟨g,2,none⟩=some (.int .i64 (Ar h:Int)):=by have:=HC.o.blk.cell 2;rw[this];simp[Ck,aJ]
      have az:wq.cell? ⟨g,4,none⟩=some (.slice BA bs.length bcap):=HC.o.blk.cell 4;have qv:wq.cell? ⟨pb,po+5,none⟩=some (.bool h.vec):=HC.o.src 5 _ rfl;have an:=hd aJ
      have aa:Hd ((-100000<=h.lo/\h.lo<=100000)/\(-100000<=h.hi/\h.hi<=100000)/\(1<=h.step/\h.step<=100000)/\names.length<8/\(h.vec=true->∀s∈bs,s.h.k=3)):=hd (by
       have:=ae.o;cases this with
       | loop _ _ _ _ _ _ h0 h1 h2 h3 h4=>exact⟨h1,h2,h3,h0,h4⟩
       | when _ _ _ h1=>omega
       | store _ _ h1=>omega)
      have c4:Ar h<=200000:=Fl aa.o.1 aa.o.2.1 aa.o.2.2.1;generalize h.k=hk at qk e2 e3;clear aJ ad af;generalize bh:Ar h=mn at *;have aB:=hd bh;clear bh;cases hvec:h.vec
      ·skip
       rw[hvec] at qv;have ab:=hd hvec;clear hvec;have a2:=hd (HY.o.symm.trans (Ss an.o ab.o));rw[aB.o] at a2;have ay:=hd (Lm (env:=env) (b:=bs) an.o ab.o);rw[aB.o] at ay;have aj:∀s∈bs,Lj s:=by have:=aq.o;cases this;assumption
       have bx:=hd aj;clear aj;have bz:=hd (fun j (hj:j<=mn)=>Mn (fun k=>1+Ca ln (Bh env h k) bs) hj);have bB:=hd (fun j (hj:j<=mn)=>Mn (fun k=>Av (Bh env h k) bs) hj);go_wp2_with fail
       clear b2 aw qk ax aK az qv aF ag;go_loopw [7,21] (fun z i wx=>∃j:Nat,i=.int .i64 j/\z=.int .i64 (P+Gp j (fun k=>1+Ca ln (Bh env h k) bs):Nat)/\j<=mn/\Hd (Ext [eb] wq wx)/\Hd (Bn wx eb vs)) (fun _ i _=>(mn-intOf i).toNat)
       case atStart=>exact⟨0,rfl,by simp[Ib],jQ _,hd (jF _ _),ah⟩
       case round=>
        obtain⟨j,rfl,rfl,hj,aE,aV⟩:=hrel;rename World=>wj
        by_cases bZ:j<mn
        ·have b6:(j:Int)<(mn:Int):=by omega
         have a1:∀b,b<n->b∉[eb]:=fun b hb hm=>by rw[jA] at hm;omega
         have aL:Hd (∀W,Ext [eb] wj W->W.cell? ⟨g,0,none⟩=some (.pointer (some ⟨pb,po,none⟩))/\W.cell? ⟨g,4,none⟩=some (.slice BA bs.length bcap)/\g<W.heap.size/\W.cell? ⟨pb,po+2,none⟩=some (.int .i64 h.lo)/\W.cell? ⟨pb,po+4,none⟩=some (.int .i64 h.step)/\pb<W.heap.size):=hd fun W hW=>by
          have hX:=aE.o.trans hW;have aM:=(HC.o.blk.ext hX (a1 g au));have aN:=hX.held (HC.o.src 2 _ rfl) (a1 pb b1);exact⟨aM.cell 0,aM.cell 4,aM.lt,aN,hX.held (HC.o.src 4 _ rfl) (a1 pb b1),jB W _ aN⟩
         have ak:=hd (Es aa.o.1 aa.o.2.1 aa.o.2.2.1 (by rw[aB.o];exact bZ):Bdd (Dj h j));have bC:d<8:=by have:=aa.o.2.2.2.1;have:=am.o;omega
         have aO:=hd (Da j fun k=>1+Ca ln (Bh env h k) bs);have bD:=hd (Da j fun k=>Av (Bh env h k) bs);have aP:=hd (Kd (by rw[HD.o];exact am.o) h j:Bh (names.zip vs) h j=_);rw[a8.o] at aP;have aQ:Aw names h=names ++ [h.var]:=ijp an.o;have bE:=bz.o (j+1) (by omega);rw[aO.o,<-a2.o] at bE;have b7:=bB.o (j+1) (by omega);rw[bD.o] at b7;have aI:Av (Bh env h j) bs<=2500000:=by have:=ay.o;have:=b0.o;omega
         have aC:Hd (∀W,Ext [eb] wj W->Bn W eb (vs ++ [Dj h j])->Calls prog 107 #[.slice BA bs.length bcap,.slice (some eb) (d+1:Nat) 8,ln] W (Akl eb (vs ++ [Dj h j]) (Ca ln (Bh env h j) bs) W)):=hd fun W hW hv=>by
          have ao:=(Dh.body HC.o ae.o).step (aE.o.trans hW) hS;rw[aQ] at ao;have hq:=al.o n nb eb ln BA bcap aU (names ++ [h.var]) (vs ++ [Dj h j]) (no+Ab (l.take k)) (xs ++ [(k:Int)]) (Co gl h g) L AL W ao hv (.inl (by simp;have:=am.o;have:=HD.o;omega)) hne hln hln2 bx.o (by simp only[St.body];rw[<-aP.o];exact aI);simp only[St.body] at hq;rw[<-aP.o,jG,jS,HD.o] at hq;exact hq
         generalize b8:Ca ln (Bh env h j) bs=CB at *;generalize bU:Gp j (fun k=>1+Ca ln (Bh env h k) bs)=SJ at *;have bF:=aO;clear b8 bU b7 aI al;have bG:=aa.o.1;unfold Dj at ak aC;generalize bV:h.lo=lo at *;generalize bW:h.step=st at *;have m1 : -9223372036854775808<=(j:Int)*st:=by have:=ak.o.1;omega
         have m2:(j:Int)*st<=9223372036854775807:=by have:=ak.o.2;omega
         have m3 : -9223372036854775808<=lo+(j:Int)*st:=by have:=ak.o.1;omega
         have m4:lo+(j:Int)*st<=9223372036854775807:=by have:=ak.o.2;omega
         clear bV bW;go_upto_region 8 with fail
         have bH:eb<wj.heap.size:=aV.o.lt;refine rgQ 29 eb 24 26 (vs ++ [lo+(j:Int)*st]) [(23,Aq wj.heap.size [.int .i64 (lo+(j:Int)*st)]),(24,Is eb (d+1) (vs ++ [lo+(j:Int)*st])),(26,Cx (.int .i64 CB))] ?_ ?_
         ·refine Lt ?_ ?_ ?_
          ·intro i hi b W W' hR hv;exact⟨hv.1,fun a u ha=>hR.1.held (hv.2 a u ha) (fun hm=>by have h1:wj.heap.size<=b:=hv.1;rw[jA] at hm;simp only at hm;omega)⟩
          ·intro i hi b W W' hR hv;exact hR.2.1 hi hv
          ·intro i hi b W W' hR hv;trivial
         simp only[TK]
         repeat(refine dEU (fun wr nr hg hJ=>by(obtain⟨q0,q4,aw,ql,qs,ax⟩:=aL.o wr hJ.2;clear hg);clear hJ;exact CL) ?_;simp only[PT])
         refine Bv (Aq wj.heap.size [.int .i64 (lo+(j:Int)*st)]) rfl rfl (fun wr nr hg hJ hf=>?_) ?_
         ·have hE:Ext [] wr (wr.alloc (.cells #[.int .i64 (lo+(j:Int)*st)] 3)):=(jF _ _).alloc _;refine⟨wr.heap.size,wr.alloc (.cells #[.int .i64 (lo+(j:Int)*st)] 3),?_,⟨Ext.size hJ.2,Cs _ _ _ ((jK wr 3 #[.int .i64 (lo+(j:Int)*st)]).cell 0)⟩,hJ.grow hE,RQ.grow hE⟩
          clear hg hJ hf hE;(go_simp;try go_bits)
          first|rfl|exact⟨rfl,rfl⟩
         intro (b23:Nat);simp only[PT];dsimp only[Aq];refine Bv (Is eb (d+1) (vs ++ [lo+(j:Int)*st])) rfl rfl (fun wr nr hg hJ hf=>?_) ?_
         ·have bI:(Aq wj.heap.size [.int .i64 (lo+(j:Int)*st)]).V b23 wr:=Bd hf 23 (by kernel_rfl);have hv:=aV.o.keep (hJ.1 hg.mine) (by simp);obtain⟨w',ac,hE,hX,-⟩:=hv.push (by rw[HD.o];exact bC) ak.o b23 1 (bI.2 0 _ rfl) _;rw[HD.o] at ac;refine⟨(),w',Aef rfl _ wr w' _ _ _ rfl rfl ac,hE,⟨fun hr=>absurd hr (by rw[Ai0];decide),hJ.2.trans hX⟩,hX,fun h=>absurd rfl h,fun h=>absurd rfl h⟩
         rintro⟨⟩;simp only[PT];dsimp only[Is];refine dEU (fun wr nr hg hJ=>by(clear hg);clear hJ;exact CL) ?_
         simp only[PT];refine Fw (Cx (.int .i64 CB)) rfl rfl ?_ ?_
         ·refine EC fun wr nr hg hJ hf=>?_
          have bJ:Bn wr eb (vs ++ [lo+(j:Int)*st]):=Bd hf 24 (by kernel_rfl);refine(aC.o wr hJ.2 bJ).mono ?_
          rintro e w' ⟨rfl,hE,hv⟩;exact⟨(),rfl,trivial,⟨fun hr=>absurd (Agv hr) (by rw[hg.doneC 24 (by kernel_rfl)];decide),hJ.2.trans hE⟩,hE,fun _ _=>hv,fun _ h=>absurd rfl h⟩
         rintro⟨⟩;simp only[PT];dsimp only[Cx]
         repeat(refine dEU (fun wr nr hg hJ=>by(clear hg);clear hJ;exact CL) ?_;simp only[PT])
         refine Ci (fun w8 r hr hJ hF=>?_)
         have aR:=hd hJ.2;have aS:Hd (Bn w8 eb vs):=hd (Bn.pop (hF 24));clear hF hJ hr;go_wp2_with fail
         go_roundw
         case rel=>exact⟨j+1,by go_num,by rw[aO.o];first|rfl|(congr 1;push_cast;first|done|omega),by omega,hd (aE.o.trans aR.o),aS⟩
         case measure=>simp[intOf];omega
        ·have b6:j=mn:=by omega
         subst b6;go_wp2_with fail
         go_meet
         exact⟨by rw[a2.o],aE,aV⟩
      ·skip
       rw[hvec] at qv;have ab:=hd hvec;have aD:=hd (aa.o.2.2.2.2 hvec);clear hvec;have aj:∀s∈bs,Lj s:=by have:=aq.o;cases this;assumption
       have bK:bs.length<=1000000:=by have:=HC.o.row.1.1;have:=HC.o.len;omega
       have a2:=hd (HY.o.symm.trans (Sr an.o ab.o));rw[aB.o] at a2;have bL:=Mu (ln:=ln) (env:=env) aD.o aj
       have aC:Hd (∀W,Ext [eb] wq W->Bn W eb vs->Calls prog 107 #[.slice BA bs.length bcap,.slice (some eb) d 8,ln] W (Akl eb vs (Ca ln env bs) W)):=hd fun W hW hv=>by
        have aQ:Aw names h=names ++ [h.var]:=ijp an.o;have ao:=(Dh.body HC.o ae.o).step hW hS;rw[aQ] at ao;have hq:=al.o n nb eb ln BA bcap aU (names ++ [h.var]) vs (no+Ab (l.take k)) (xs ++ [(k:Int)]) (Co gl h g) L AL W ao hv (.inr aD.o) hne hln hln2 aj (by simp only[St.body];rw[Kw aD.o];omega);simp only[St.body] at hq;rw[HD.o,Pw (env':=env) aD.o] at hq;exact hq
       have a1:∀b,b<n->b∉[eb]:=fun b hb hm=>by rw[jA] at hm;omega
       have aL:Hd (∀W,Ext [eb] wq W->W.cell? ⟨g,2,none⟩=some (.int .i64 mn)/\W.cell? ⟨g,4,none⟩=some (.slice BA bs.length bcap)/\g<W.heap.size):=hd fun W hW=>⟨hW.held aK (a1 g au),hW.held az (a1 g au),(HC.o.blk.ext hW (a1 g au)).lt⟩
       generalize Ca ln env bs=CB at *;generalize bs.length=bl at *;have b8:CB<=4000001000000:=by omega
       have bM:(mn+ln-1) / ln<=200020:=by
        refine nt (Nat.div_le_self _ _) (by omega)
       have c5:((mn:Int)+ln-1).tdiv ln=((mn+ln-1) / ln:Nat):=by
        have e:(mn:Int)+ln-1=((mn+ln-1:Nat):Int):=by omega
        rw[e];rfl
       generalize bX:(mn+ln-1) / ln=q at *;clear bX;have c6:q*(1+CB)<=200020*4000001000001:=Nat.mul_le_mul bM (by omega);have bN:((q:Int)*(1+(CB:Int)))=((q*(1+CB):Nat):Int):=by push_cast;rfl
       generalize bY:q*(1+CB)=PR at *;clear bY;clear bL aj al;have c7:((ln:Int)==0)=false:=by simp;omega
       have c8:¬(ln:Int)=0:=by omega
       have aN:¬ln=0:=by omega
       have aT : -9223372036854775808<=(q:Int)*(1+(CB:Int))/\(q:Int)*(1+(CB:Int))<=9223372036854775807:=by rw[bN];omega
       obtain⟨bP,bQ⟩:=aT;go_upto_region 17 with fail
       clear b2 aw ax aK az aF ag;refine Cu 20 (JV eb vs wq) (Ext [eb]) (Bi [(16,Cx (.int .i64 CB))]) (by kernel_rfl) (by kernel_rfl) (fun _ _ h=>h) (Am.cons Cx.stays Am.nil) ⟨(jF _ _).drew,ah.o.keep (S:=[]) (jF _ _).drew (by simp)⟩ ?_
       simp only[TK]
       repeat(refine dE (fun wr nr hJ=>by(obtain⟨q2,q4,aw⟩:=aL.o wr hJ.1);clear hJ;exact CL) ?_;simp only[PT])
       refine Fq (Cx (.int .i64 CB)) rfl rfl ?_ ?_
       ·refine EC fun wr nr hJ hf=>?_
        refine(aC.o wr hJ.1 hJ.2).mono ?_
        rintro e w' ⟨rfl,hE,hv⟩;exact⟨(),rfl,trivial,⟨hJ.1.trans hE,hv⟩,hE⟩
       rintro⟨⟩;simp only[PT];dsimp only[Cx]
       repeat(refine dE (fun wr nr hJ=>by clear hJ;exact CL) ?_;simp only[PT])
       refine Aj (fun w8 hJ hF=>?_)
       have aR:=hd hJ.1;have aS:=hd hJ.2;clear hF hJ;go_wp2_with fail
       go_meet
       exact⟨by rw[a2.o];first|rfl|(congr 1;push_cast;first|done|omega),aR,aS⟩
   case rest=>
    obtain⟨rfl,bR,bS⟩:=hcut;go_wp2_with fail
    go_roundw
    case rel=>exact⟨k+1,by go_num,by rw[aY.o],by omega,hd (HE.o.trans bR.o),bS⟩
    case measure=>simp[intOf];omega
  ·have aW:k=m:=by omega
   subst aW;have HT:Hd (l.take k=l):=hd (List.take_of_length_le (by have:=HN.o;omega));go_wp2_with fail
   go_ret
   exact⟨Ae (by rw[HT.o,bn.o]),HE.o,ah.o⟩
theorem Ai1 (l:List St):Agw l:=by
 have h:∀s:St,Agw s.body:=Dn (P:=fun s=>Agw s.body) fun h ks ih=>Vh ks ih
 exact Vh l fun s _=>h s
end
section
attribute [local irreducible] Bj
set_option maxRecDepth 100000 in
theorem Xc (body:List St)(cb nb n ln:Nat)(bA:Option Addr)(nbb bc:Nat)(gs:List Nat)(gA:Option Addr)(gc:Nat)(L:List Nat)(AL:List Value)(sA:Option Addr)(sc:Nat)(v1 av:Value)(w:World)
  (hC:Hp w n cb bA nbb bc body gs gA gc L AL sA sc v1 av) (hF:∀s∈body,Fd nb [] s) (hn:n<=w.heap.size) (hln:1<=ln) (hln2:ln<=16) (hpa:∀s∈body,Lj s) (hrun:Av [] body<=2500000) :
  Calls prog 51 #[.pointer (some cb),ln] w fun e w'=>e=.returned (.int .i64 (Ca ln [] body:Nat))/\Ext [] w w':=by
 have HC:=hd hC;have HF:=hd hF;have a7:=hd hpa;clear hC hF hpa;have HQ:Hd (∀W,Ext [] w W->W.cell? ⟨cb,2,none⟩=some (.slice gA body.length gc)/\cb<W.heap.size):=hd fun W hW=>⟨(HC.o.blk.ext hW (by simp)).cell 2,(HC.o.blk.ext hW (by simp)).lt⟩
 go_enter func51,ntmps51
 go_upto_region 1 with fail
 refine rgH 6 [(4,Et w.heap.size)] ?_ ?_
 ·refine Am.cons Et.stays Am.nil
 simp only[TK]
 repeat(refine dE (fun wr nr hJ=>by(obtain⟨q2,ql⟩:=HQ.o wr hJ.1);clear hJ;exact CL) ?_;simp only[PT])
 refine Gi (Et w.heap.size) rfl rfl (fun wr nr hJ hf=>?_) ?_
 ·refine⟨wr.heap.size,.cells (Array.replicate 8 (.int .i64 0)) 3,?_,hJ.1.size,Bn.made wr⟩
  have aa:=Ma wr;(go_simp;try go_bits)
  rfl
 intro (eb:Nat);simp only[PT]
 repeat(refine dE (fun wr nr hJ=>by clear hJ;exact CL) ?_;simp only[PT])
 refine Aj (fun w1 hJ hF=>?_)
 have a1:Hd (w.heap.size<=eb/\Bn w1 eb []):=hd (hF 4);have a6:=hd hJ.1;clear hF hJ;dsimp only[Et];have a2:=hd (Ai1 body n nb eb ln gA gc gs [] [] 0 [] [] L AL w1 ((⟨HC.o.row.1,fun b o hA=>(HC.o.row.2 b o hA).1,HC.o.len,fun i g s hg hs=>by have:=HC.o.cst i g s hg hs;rw[Nat.zero_add];exact this,HF.o⟩:Dh w n nb L AL [] [] [] 0 gA gs body).step a6.o (by simp)) a1.o.2 (.inl rfl) (nt hn a1.o.1) hln hln2 a7.o hrun);simp only[List.length_nil,List.zip_nil_left] at a2;go_wp2_with fail
 refine a2.o.mono ?_
 rintro e w2 ⟨rfl,hE,-⟩;have a8:=hd (a6.o.step hE fun x hx=>.inr (by rw[jA.1 hx];exact a1.o.1));clear hE a2;go_wp2_with fail
 go_ret
 exact⟨rfl,a8.o⟩
def Px (p:Pg)(lanes:Int):Int:=if Cd p.bs p.body≠0 then Cd p.bs p.body else if lanes<1\/16<lanes then 9 else 0
def Za (p:Pg)(lanes:Int):Nat:=if Px p lanes=0 then Ca lanes.toNat [] p.body else 0
theorem Su {bs:List Bf}{body:List St}(h:Cd bs body=0):Jg bs body/\Av [] body<=2500000:=by
 unfold Cd at h;split at h
 ·rename_i h1
  refine⟨Jg.of h1,?_⟩
  split at h
  ·omega
  ·rename_i h2;omega
 ·rename_i h1;exact absurd h h1
set_option maxRecDepth 100000 in
theorem Agx (p:Pg)(lanes:Int)(w:World)(hP:Lz w p)(hl : -1000000<=lanes/\lanes<=1000000):Calls prog 23 #[pgV p,lanes] w fun e w'=>e=.returned (.tuple #[(Za p lanes:Nat),(Px p lanes:Int)])/\Ext [] w w':=by
 have HC:=hd (fun W (hW:Ext [] w W)=>Iz p W (hP.keep hW));have af:=hd (fun s (hs:s∈p.body)=>Lj.of (hP.stmt s hs));unfold Ok at HC;have a6:Hd (Px p lanes=if Cd p.bs p.body≠0 then Cd p.bs p.body else if lanes<1\/16<lanes then 9 else 0):=hd rfl;have a7:Hd (Za p lanes=if Px p lanes=0 then Ca lanes.toNat [] p.body else 0):=hd rfl;have ag:=hd (@Su p.bs p.body);clear hP;generalize al:Cd p.bs p.body=ce at *;generalize Px p lanes=E at *;generalize Za p lanes=V at *;clear al;obtain⟨A,cap,bs,B,bcap,body⟩:=p;dsimp only[pgV] at *;have ad:=hd ((jF [] w).alloc (.cells #[.slice A bs.length cap,.slice B body.length bcap] 29));go_enter func23,ntmps23
 go_wp2_with fail
 refine(HC.o _ ad.o).mono ?_
 rintro e w2 ⟨hE,ak⟩;have a8:=hd (ad.o.trans hE);clear hE HC;rcases ak with⟨h0,rfl⟩|⟨rfl,n,cb,gs,gA,gc,L,AL,sA,sc,av,rfl,-,hn,ae⟩
 ·have hq:(ce==0)=false:=by simpa using h0
  have a1:E=ce:=by rw[a6.o,ijp h0]
  have a2:V=0:=by rw[a7.o,ijn (by rw[a1];exact h0)]
  subst a1;subst a2;go_wp2_with fail
  go_ret2
  exact⟨rfl,a8.o⟩
 ·by_cases ab:lanes<1
  ·have a1:E=9:=by rw[a6.o,ijn (by simp),ijp (.inl ab)]
   have a2:V=0:=by rw[a7.o,ijn (by rw[a1];decide)]
   have ah:decide (lanes<1)=true:=decide_eq_true ab;subst a1;subst a2;go_wp2_with fail
   go_ret2
   exact⟨rfl,a8.o⟩
  ·have ah:decide (lanes<1)=false:=decide_eq_false ab;by_cases ac:16<lanes
   ·have a1:E=9:=by rw[a6.o,ijn (by simp),ijp (.inr ac)]
    have a2:V=0:=by rw[a7.o,ijn (by rw[a1];decide)]
    have ai:decide (16<lanes)=true:=decide_eq_true ac;subst a1;subst a2;go_wp2_with fail
    go_ret2
    exact⟨rfl,a8.o⟩
   ·have ai:decide (16<lanes)=false:=decide_eq_false ac;have a1:E=0:=by rw[a6.o,ijn (by simp),ijn (by omega)]
    have a2:V=Ca lanes.toNat [] body:=by rw[a7.o,ijp a1]
    subst a1;obtain⟨ln,rfl⟩:∃ln:Nat,lanes=ln:=⟨lanes.toNat,by omega⟩;have HF:=ag.o rfl;have aa:=hd (Xc body cb bs.length n ln A bs.length cap gs gA gc L AL sA sc (.slice B body.length bcap) av w2 ae HF.1.fd hn (by omega) (by omega) af.o HF.2);rw[Int.toNat_natCast] at a2;rw[<-a2] at aa;clear a2 ae HF;go_wp2_with fail
    refine aa.o.mono ?_
    rintro e w3 ⟨rfl,hE⟩;have aj:=hd (a8.o.trans hE);clear hE aa;go_wp2_with fail
    go_ret2
    exact⟨rfl,aj.o⟩
end
theorem Agy (w:World)(B:Nat)(e:TypeId)(s:Nat):w.ownsRow B e s (.slice none 0 0) 0 []:=⟨by simp,.inl ⟨rfl,rfl⟩⟩
theorem Agz {w:World}{B C e s n:Nat}{v:Value}{xs:List Value}(h:w.ownsRow B e s v n xs)(hC:C<=B):w.ownsRow C e s v n xs:=
 ⟨h.1,h.2.imp id fun⟨g,cap,cur,h1,h2,h3⟩=>⟨g,cap,cur,h1,nt hC h2,h3⟩⟩
def Sv (V:Nat->Int)(n:Nat):List Value:=(List.range n).map fun k=>.int .i64 (V k)
theorem Abe (V:Nat->Int)(n:Nat):Sv V (n+1)=Sv V n ++ [.int .i64 (V n)]:=by unfold Sv;rw[List.range_succ,List.map_append];rfl
set_option maxRecDepth 100000 in
theorem Zb (h:SH)(n:Nat)(w:World)(h1 : -100000<=h.lo/\h.lo<=100000)(h2 : -100000<=h.hi/\h.hi<=100000)(h3:1<=h.step/\h.step<=100000) :
  Calls prog 110 #[Ez h n] w fun e w'=>∃v,e=.returned v/\w'.ownsRow w.heap.size 3 1 v (Ar h) (Sv (Dj h) (Ar h))/\Ext [] w w':=by
 have ac:=hd (fun k=>@Od h k h3.1);have ai:=hd (fun k=>Oz h k);have aC:=Fl h1 h2 h3;have aj:Hd (Dj h 0=h.lo):=hd (by simp[Dj])
 have ak:Hd (∀k,-100000<=Dj h k):=hd fun k=>by
  have h5:0<=(k:Int)*h.step:=Int.mul_nonneg (by omega) (by omega);unfold Dj;omega
 obtain⟨a0,a1,a2,a3,a4,a5,a6,a7,-⟩:=Cf h n h.val.h h.val.ks.length;unfold Ez;generalize Ai h n h.val.h h.val.ks.length=arr at *;generalize Dj h=V at *;generalize Ar h=N at *;generalize h.lo=lo at *;generalize h.hi=hi at *;generalize h.step=st at *;clear a0 a1 a5 a6 a7;go_enter func110,ntmps110
 go_upto_region 1 with fail
 have al:=hd ((jF [] w).alloc (.cells arr 43));have a8:=hd (jK w 43 arr);generalize hH:w.heap.size=H at *;have am:(w.alloc (.cells arr 43)).heap.size=H+1:=by rw[Ag,hH]
 generalize World.alloc w _=w1 at *;have q2:w1.cell? ⟨H,2,none⟩=some (.int .i64 lo):=by rw[a8.o.cell];exact a2
 have ql:=a8.o.lt;go_wp2_with fail
 clear q2 ql;go_loopw [3,4] (fun z i wr=>∃(k:Nat) (v:Value),v=z/\i=.int .i64 (V k)/\k<=N/\Hd (Ext [] w1 wr)/\Hd (wr.ownsRow (H+1) 3 1 v k (Sv V k))) (fun _ i _=>(hi-intOf i).toNat)
 case atStart=>exact⟨0,_,rfl,by rw[aj.o],jQ _,hd (jF _ _),hd (Agy _ _ _ _)⟩
 case round=>
  obtain⟨k,v,rfl,rfl,hk,HE,HO⟩:=hrel;rename World=>wq
  have aa:=hd (a8.o.ext HE.o (by simp));have q3:wq.cell? ⟨H,3,none⟩=some (.int .i64 hi):=by rw[aa.o.cell];exact a3
  have q4:wq.cell? ⟨H,4,none⟩=some (.int .i64 st):=by rw[aa.o.cell];exact a4
  have ql:=aa.o.lt;have an:H+1<=wq.heap.size:=by have:=HE.o.size;omega
  by_cases ah:k<N
  ·have ab:V k<hi:=(ac.o k).2 ah;have aD:=ak.o k;have ao:=hd (ai.o k);generalize aB:V k=vk at *;have ad:=hd (Ah HO.o ((jF [] wq).alloc (.cells #[vk] 3)) (by simp));have ap:=hd (jK wq 3 #[vk]);have ae:=hd ((jF [] wq).alloc (.cells #[vk] 3));have aq:Hd (H+1<=(wq.alloc (.cells #[vk] 3)).heap.size):=hd (nt an ae.o.size);obtain⟨i0,ax,ay,az,aA⟩:=Ht
   go_wp2_with (
    refine wpList_append_lies _ rfl _ _ 22 rfl (H+1) 3 i0 _ 1 8 underlying22 ax ay az aA rfl (by decide) v k (Sv V k) rfl ad.o ⟨wq.heap.size,0,none⟩ 1 1 [.int .i64 vk] rfl rfl ?c1 (by intro u hu;rw[jA.1 hu];rfl) (by omega) ?c3 ?c4 aq.o _ rfl ?_
    case c1=>intro i u hu;rw[Addr.add_mk,Nat.zero_add,ap.o.cell,<-Array.getElem?_toList];exact hu
    case c3=>unfold maxLen;omega
    case c4=>omega
    intro g8 c8 w8 ho8 hg8 hi8 ha8;have au:=hd ho8;have af:Hd (Ext [] w1 w8):=hd ((HE.o.trans ae.o).step ((jF _ _).grown hg8 fun q hq=>.inl (jC.2 hq)) fun q hq=>.inr (by rw[am];exact Ad ad.o q (jC.1 hq)));have ag:=hd (a8.o.ext af.o (by simp));have q4:w8.cell? ⟨H,4,none⟩=some (.int .i64 st):=by rw[ag.o.cell];exact a4
    have ql:=ag.o.lt;clear ho8 hg8 hi8 ha8)
   go_roundw
   case rel=>exact⟨k+1,_,rfl,by rw[<-ao.o],by omega,af,hd (by rw[Abe,aB];exact au.o)⟩
   case measure=>simp[intOf];omega
  ·have ab:¬V k<hi:=fun h=>ah ((ac.o k).1 h)
   have aw:k=N:=by omega
   subst aw;go_wp2_with fail
   go_ret
   exact⟨_,rfl,Agz HO.o (by omega),al.o.trans HE.o⟩
end Go.Proofs.YtfppibmloloakaaGreatDoor
