import Derived.Test.YtfppibmloloakaaGreatDoorI30
import Derived.Laws.EntriesVeiled
namespace Go.Proofs.YtfppibmloloakaaGreatDoor
open Go.RowKit Go.Proofs.Tryz
set_option linter.all false
set_option maxHeartbeats 64000000
theorem Acv:∀args w,(callFunc 36 args).run prog w=.ok (.enter 36 args) w:=by
 obtain⟨c,hc⟩:∃c,Tryz.f36.body=some c:=⟨_,rfl⟩;exact fun args w=>enters_of func36 (by kernel_rfl) hc args w
def Ami (w0:World)(bs:List Bf)(v1:Value)(bA:Option Addr)(bc pb bb:Nat)(d:List Az)(w:World):Prop:=
 Blk w bb 4 #[.bool (d.any fun i=>!inI bs i)]/\Blk w pb 29 #[.slice bA bs.length bc,v1]/\Ext [] w0 w
set_option maxRecDepth 100000 in
theorem Akq (bs:List Bf)(v1:Value)(bA:Option Addr)(bc pb bb mb:Nat)(h:SH)(no:Nat)(names:List ByteArray)(env:Env)(t:Bool)(w:World)(hbp:bb≠pb)(h1:Blk w bb 4 #[.bool t])(h2:Blk w pb 29 #[.slice bA bs.length bc,v1])(hB:Acr w bA bs)
  (hX:Gb w (.mk h [])) (hF:Fd bs.length names (.mk h [])) (hk:h.k=3) (hM:Ci w mb env) (hG:Qd env names) :
  Calls prog 36 (#[Et h 0,.int .i64 no,.map (some mb)] ++ #[.pointer (some bb),.pointer (some pb)]) w fun e w'=>
   e=.returned (.tuple #[])/\Ext [bb] w w'/\Blk w' bb 4 #[.bool (t || !inI bs ⟨no,h,env⟩)]:=by
 have a1:=hd (fun W (hW:Ext [] w W)=>Aim h no names env bA bs.length bc v1 bs mb W (hX.keep hW) hF hk (hB.keep hW) rfl (hM.ext hW jH) hG);have ae:=hd h1;have af:=hd h2;generalize inI bs ⟨no,h,env⟩=II at *;generalize bs.length=nb at *;clear hB hX hF hk hM hG h1 h2;unfold Et at a1⊢;have a2:=hd ((jF [] w).alloc (.cells (Ai h 0 h.val.h h.val.ks.length) 43));have ag:=hd (jK w 43 (Ai h 0 h.val.h h.val.ks.length));have ah:=hd (show(prog.info? 43).map (·.size)=some (Ai h 0 h.val.h h.val.ks.length).size from Dx);generalize Ai h 0 h.val.h h.val.ks.length=arr at *;go_enter func36,ntmps36
 go_upto_region 1 with fail
 have a6:=hd (ae.o.ext a2.o (by simp));have ab:=hd (af.o.ext a2.o (by simp));generalize World.alloc w _=w1 at *;generalize w.heap.size=s0 at *;have qb:=a6.o.cell;have ac:=a6.o.frozen;have ad:=a6.o.lt;cases t
 ·have qp:=ab.o.cell;have ai:=ab.o.lt
  go_wp2_with (
   refine Gr rfl 43 _ rfl s0 0 rfl arr ag.o.wide _ underlying43 rfl ah.o ?_)
  refine(a1.o _ a2.o).mono ?_
  rintro e w2 ⟨rfl,hE⟩;have aj:=hd (a2.o.trans hE);have a7:=hd (a6.o.ext hE (by simp));clear hE qb ac ad qp ai;have qb:=a7.o.cell;have ac:=a7.o.frozen;have ad:=a7.o.lt;have a8:=hd (a7.o.set_' 0 (.bool (!II)) #[.bool (false || !II)] rfl);have aa:=hd (jL (b:=bb) (i:=0) (u:=.bool (!II)) (.inl (by simp)) (aj.o.nil:Ext [bb] w w2));go_wp2_with fail
  exact bodyPost_end (results_none rfl _ _ _) rfl ⟨rfl,aa.o,a8.o⟩
 ·have a8:=hd (a6.o.set_' 0 (.bool true) #[.bool (true || !II)] rfl);have aa:=hd (jL (b:=bb) (i:=0) (u:=.bool true) (.inl (by simp)) (a2.o.nil:Ext [bb] w w1));go_wp2_with fail
  exact bodyPost_end (results_none rfl _ _ _) rfl ⟨rfl,aa.o,a8.o⟩
theorem Akr (w0:World)(bs:List Bf)(v1:Value)(bA:Option Addr)(bc pb bb wb mb:Nat)(hB:Acr w0 bA bs)(h1:w0.heap.size<=bb)(h2:w0.heap.size<=wb)(h3:w0.heap.size<=mb)(h4:wb≠mb)(h5:bb≠wb)(h6:bb≠mb)(h7:pb≠wb)(h8:pb≠mb)(h9:bb≠pb) :
  Tr 36 #[.pointer (some bb),.pointer (some pb)] [bb] w0.heap.size wb mb bs.length (Ami w0 bs v1 bA bc pb bb):=by
 refine⟨Acv,fun x hx=>?_,h2,h3,h4,?_,?_⟩
 ·rw[jA.1 hx];exact⟨h1,h5,h6⟩
 ·rintro d w w' hE ⟨k1,k2,k3⟩;refine⟨k1.ext hE (by simp;exact⟨h5,h6⟩),k2.ext hE (by simp;exact⟨h7,h8⟩),Cx k3 hE fun x hx=>?_⟩
  rcases jE.1 hx with rfl|hx
  ·exact h2
  ·rw[jA.1 hx];exact h3
 ·rintro d h no a1 env w ⟨k1,k2,k3⟩ hX hF hk hM hG a2;refine(Akq bs v1 bA bc pb bb mb h no a1 env _ w h9 k1 k2 (hB.keep k3) hX hF hk hM hG).mono ?_
  rintro e w' ⟨rfl,hE,hb⟩;refine⟨rfl,hE,?_,k2.ext hE (by rw[jA];exact Ne.symm h9),Cx k3 hE fun x hx=>by rw[jA.1 hx];exact h1⟩
  rw[List.any_append];simpa using hb
theorem Aan {α:Type}(p:α->Bool)(l:List α):(l.any fun a=>!p a) = !(l.all p):=by
 induction l with
 | nil=>rfl
 | cons a l ih=>simp only[List.any_cons,List.all_cons,ih,Bool.not_and]
theorem Amj {w:World}:∀{l:List St},(∀s∈l,Gb w s)->ptL l:=by
 have key:∀s:St,Gb w s->ptS s:=Dr fun h b ih=>fun k=>by
  unfold ptS;refine⟨k.all.2.2.2.2.1,?_⟩
  have hb:=k.all.2.2.2.2.2.2.2;clear k
  induction b with
  | nil=>unfold ptL;trivial
  | cons s b ihb=>unfold ptL;exact⟨ih s (jO ..) (hb s (jO ..)),ihb (fun s hs=>ih s (jI _ hs)) fun s hs=>hb s (jI _ hs)⟩
 intro l
 induction l with
 | nil=>intro _;unfold ptL;trivial
 | cons s l ih=>intro h;unfold ptL;exact⟨key s (h s (jO ..)),ih fun s hs=>h s (jI _ hs)⟩
set_option maxRecDepth 100000 in
theorem Mt (p:Pg)(w:World)(hP:Mo w p):Calls prog 14 #[pgV p] w (Ob (Cg p.bs p.body) w):=by
 have HP:=hd hP;obtain⟨A,cap,bs,B,bcap,body⟩:=p;have ay:Hd (Cg bs body=if Du bs body=0 then(if 2500000<Ax [] body then 2 else if(Aj [] 0 body).all (inI bs) then 0 else 9) else Du bs body):=hd rfl;have aK:Hd (Du bs body=if Eg bs=0 then Fc bs.length [] 0 body else Eg bs):=hd rfl;unfold pgV;dsimp only;have aZ:bs.length<=1000000:=hP.bufs.1;have b0:=hd (fun h=>Kf.of (bs:=bs) (body:=body) h);clear hP;generalize hn:bs.length=n at *;have HN:=hd hn;clear hn;generalize hm:body.length=m at *;have HM:=hd hm;clear hm;have aL:=hd ((jF [] w).alloc (.cells #[.slice A n cap,.slice B m bcap] 29));have aM:=hd (jK w 29 #[.slice A n cap,.slice B m bcap]);have an:=hd (aL.o.alloc (.cells #[.slice A n cap,.slice B m bcap,(0:Int)] 78));have ae:=hd (aM.o.alloc (.cells #[.slice A n cap,.slice B m bcap,(0:Int)] 78));have ao:=hd (jK (w.alloc (.cells #[.slice A n cap,.slice B m bcap] 29)) 78 #[.slice A n cap,.slice B m bcap,(0:Int)]);rw[Bo] at ao;go_enter func14,ntmps14
 go_upto_region 2 with fail
 generalize World.alloc (World.alloc w _) _=w1 at *;generalize bb:w.heap.size=s0 at *;clear aL aM;have ap:=hd an.o;go_wp2_with fail
 refine(Xu (s0+1) (.slice B m bcap) 0 A n cap bs w1 ao.o (HP.o.keep an.o).bufs (HP.o.keep an.o).each HN.o (by have:=HP.o.cap;have:=HN.o;simp only at *;omega)).mono ?_
 rintro r w2 ⟨rfl,hE⟩;have ap:=hd (an.o.trans hE);have a6:=hd (ae.o.ext hE (by simp));have a7:=hd (ao.o.ext hE (by simp));have b4:=hE.size;clear hE ae ao;generalize bc:Eg bs=be at *;by_cases ax:be=0
 ·subst ax;have a8:=hd (aK.o.trans (ijp rfl));have qp:=a6.o.cell;have az:=a6.o.lt;go_wp2_with fail
  have b5:=a7.o.lt;have aN:=hd (Wf body (fun s _=>Aft s):Aeb body);refine(aN.o B m bcap [] none 0 0 w w2 (s0+1) A n cap (.slice B m bcap) 0 HP.o.body HP.o.stmt (Amj HP.o.stmt) HM.o ap.o (by omega) (Al.nil _ _ _ _) rfl ⟨fun _=>⟨rfl,rfl⟩,jD _,fun a ha=>by cases ha⟩ a7.o aZ (by omega)).mono ?_
  rintro r w3 ⟨bf,rfl,hE,-,-,-⟩;have aq:=hd (Cx ap.o hE fun x hx=>by rw[jA.1 hx];omega);have aa:=hd (a6.o.ext hE (by simp));have aA:=hE.size;clear hE qp az;generalize bd:Fc n [] 0 body=fe at *;by_cases aJ:fe=0
  ·subst aJ;have au:=hd (b0.o a8.o);have ad:=hd (ay.o.trans (ijp a8.o));clear bc bd;go_upto_region 9 with fail
   have aO:=hd (jK w3 84 #[(2500000:Int),(0:Int),(0:Int),.nilFunc]);have aP:=hd (aq.o.alloc (.cells #[(2500000:Int),(0:Int),(0:Int),.nilFunc] 84));have af:=hd (aa.o.alloc (.cells #[(2500000:Int),(0:Int),(0:Int),.nilFunc] 84));have aQ:=Bo w3 (.cells #[(2500000:Int),(0:Int),(0:Int),.nilFunc] 84);generalize World.alloc w3 _=w4 at *;generalize bh:w3.heap.size=wb at *;have aB:=aa.o.lt;have aC:=aq.o.size;rw[bh] at aB aC;clear aq aa a7 aN aA;have aD:=hd (jK w4 4 #[.bool false]);have aR:=hd (aP.o.alloc (.cells #[.bool false] 4));have ag:=hd (af.o.alloc (.cells #[.bool false] 4));have a1:=hd (aO.o.alloc (.cells #[.bool false] 4));have bi:=Bo w4 (.cells #[.bool false] 4);rw[aQ] at aD;go_upto_region 10 with fail
   generalize World.alloc w4 _=w5 at *;have qw:=a1.o.cell;have qf:=a1.o.frozen;have aS:=a1.o.lt;have ah:=hd (a1.o.set_' 3 (fnV 36 #[.pointer (some ⟨wb+1,0,none⟩),.pointer (some s0)]) (wkA (2500000:Nat) (0:Nat) (0:Nat) (fnV 36 #[.pointer (some ⟨wb+1,0,none⟩),.pointer (some s0)])) rfl);have ai:=hd (jL (b:=wb) (i:=3) (u:=fnV 36 #[.pointer (some ⟨wb+1,0,none⟩),.pointer (some s0)]) (.inl (by simp)) (jF [wb] w5));rw[aQ] at *;unfold fnV at ah ai;go_upto_region 11 with fail
   have ab:=hd (ag.o.ext ai.o (by rw[jA];omega));have aE:=hd (aD.o.ext ai.o (by rw[jA];omega));have aF:=hd (Cx aR.o ai.o fun x hx=>by rw[jA.1 hx];omega);have bj:(w5.setCell ⟨wb,3,none⟩ (.func (.func 36) #[] #[.pointer (some ⟨wb+1,0,none⟩),.pointer (some s0)])).heap.size=w5.heap.size:=World.size_setCell ..;generalize World.setCell _ _ _=w6 at *;clear qw qf aS aO a1 ai af ag aP aR aD;have qp:=ab.o.cell;have az:=ab.o.lt;have aT:=hd (aF.o.alloc (.map #[] 0));have aj:=hd (ab.o.alloc (.map #[] 0));have ak:=hd (aE.o.alloc (.map #[] 0));have al:=hd (ah.o.alloc (.map #[] 0));have aG:=hd (Ci.made w6);have bk:=Bo w6 (.map #[] 0);have hw6':w6.heap.size=wb+2:=by omega
   rw[hw6'] at aG;have bl:w.heap.size=s0:=bb;have am:=hd (Akr w bs (.slice B m bcap) A cap s0 (wb+1) wb (wb+2) ⟨HP.o.bufs,au.o.siz⟩ (by omega) (by omega) (by omega) (by omega) (by omega) (by omega) (by omega) (by omega) (by omega));have aU:Hd (Ami w bs (.slice B m bcap) A cap s0 (wb+1) [] (w6.alloc (.map #[] 0))):=hd ⟨ak.o,by rw[HN.o];exact aj.o,aT.o⟩;have a2:=hd (Ts body (fun s _=>Af0 s) 36 #[.pointer (some ⟨wb+1,0,none⟩),.pointer (some s0)] [wb+1] wb (wb+2) bs.length 2500000 (Ami w bs (.slice B m bcap) A cap s0 (wb+1)) w (w6.alloc (.map #[] 0)) B bcap [] [] 0 0 [] am.o (fun x hx=>by rw[jA.1 hx];omega) HP.o.body HP.o.stmt au.o.fd ⟨by simp,by simp,rfl,by simp⟩ aT.o al.o aG.o aU.o (by omega) (by omega) (by have:=au.o.sto;omega) au.o.cnt);rw[HM.o] at a2;have bm:=@run_makeMap prog;go_wp2_with fail
   refine a2.o.mono ?_
   rintro e w8 ⟨rfl,s',bo,d',ba,-,aX,-,-,hI,-,-,aY⟩;have aV:=hd aX;have aW:=hd hI.1;have aH:=hd hI.2.2;have b6:=hd aY;clear aX hI aY a2 am aU aG al ak aj qp az;have qw:=aV.o.cell;unfold wkA at qw;have aS:=aV.o.lt;have qb:=aW.o.cell;have bn:=aW.o.lt;rcases b6.o with⟨b1,b2,b3⟩|⟨b1,b2,b3⟩
   ·have aw:=hd (ad.o.trans (ijn (by omega)));have b7:¬(2500000:Int)<(s':Int):=by omega
    have ac:(d'.any fun i=>!inI bs i) = !((Aj [] 0 body).all (inI bs)):=by rw[b3,List.nil_append];exact Aan _ _
    have b8:=hd ac;rw[ac] at qb;clear b1 b2 b3 ac;cases hal:(Aj [] 0 body).all (inI bs)
    ·have aI:=hd (aw.o.trans (ijn (by rw[hal];simp)));rw[hal] at qb;clear hal;go_wp2_with fail
     go_ret
     exact⟨Ag aI.o.symm,aH.o⟩
    ·have aI:=hd (aw.o.trans (ijp hal));rw[hal] at qb;clear hal;go_wp2_with fail
     go_ret
     exact⟨Ag aI.o.symm,aH.o⟩
   ·have aw:=hd (ad.o.trans (ijp (by omega)));have b7:(2500000:Int)<(s':Int):=by omega
    clear b1 b2 b3;go_wp2_with fail
    go_ret
    exact⟨Ag aw.o.symm,aH.o⟩
  ·have ad:=hd (ay.o.trans (ijn (by rw[a8.o];exact aJ)));have hf0':(fe==0)=false:=by simpa using aJ
   go_wp2_with fail
   go_ret
   exact⟨Ag (by rw[ad.o,a8.o]),aq.o⟩
 ·have a8:=hd (aK.o.trans (ijn ax));have ad:=hd (ay.o.trans (ijn (by rw[a8.o];exact ax)));have hb0':(be==0)=false:=by simpa using ax
  go_wp2_with fail
  go_ret
  exact⟨Ag (by rw[ad.o,a8.o]),ap.o⟩
end Go.Proofs.YtfppibmloloakaaGreatDoor
