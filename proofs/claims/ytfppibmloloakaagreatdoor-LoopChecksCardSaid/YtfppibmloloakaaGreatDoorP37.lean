import Derived.Test.YtfppibmloloakaaGreatDoorP35
import Derived.Test.YtfppibmloloakaaGreatDoorP36
import Derived.Laws.EntriesVeiled
namespace Go.Proofs.YtfppibmloloakaaGreatDoor
open Go.RowKit Go.Proofs.Tryz
set_option linter.all false
theorem enters_bad:∀args w,(callFunc 36 args).run Tryz.prog w=.ok (.enter 36 args) w:=by
 obtain⟨c,hc⟩:∃c,Tryz.f36.body=some c:=⟨_,rfl⟩;exact fun args w=>enters_of Tryz.func36 (by kernel_rfl) hc args w
def BadI (w0:World)(bs:List Bf)(v1:Value)(bA:Option Addr)(bc pb bb:Nat)(d:List Inst)(w:World):Prop:=
 Blk w bb 4 #[.bool (d.any fun i=>!inI bs i)]/\Blk w pb 29 #[.slice bA bs.length bc,v1]/\Ext [] w0 w
set_option maxHeartbeats 8000000 in
set_option maxRecDepth 100000 in
theorem bad_any (bs:List Bf)(v1:Value)(bA:Option Addr)(bc pb bb mb:Nat)(h:SH)(no:Nat)(names:List ByteArray)(env:Env)(t:Bool)(w:World)(hbp:bb≠pb)(h1:Blk w bb 4 #[.bool t])(h2:Blk w pb 29 #[.slice bA bs.length bc,v1])(hB:BufG w bA bs)
  (hX:StIn w (.mk h [])) (hF:Fd bs.length names (.mk h [])) (hk:h.k=3) (hM:SMap w mb env) (hG:EnvG env names) :
  Calls Tryz.prog 36 (#[stHV h 0,.int .i64 no,.map (some mb)] ++ #[.pointer (some ⟨bb,0,none⟩),.pointer (some ⟨pb,0,none⟩)]) w fun e w'=>
   e=.returned (.tuple #[])/\Ext [bb] w w'/\Blk w' bb 4 #[.bool (t || !inI bs ⟨no,h,env⟩)]:=by
 have HOUT:=hd (fun W (hW:Ext [] w W)=>outS_any h no names env bA bs.length bc v1 bs mb W (hX.keep hW) hF hk (hB.keep hW) rfl (hM.ext hW List.not_mem_nil) hG);have HP1:=hd h1;have HP2:=hd h2;generalize inI bs ⟨no,h,env⟩=II at *;generalize bs.length=nb at *;clear hB hX hF hk hM hG h1 h2;unfold stHV at HOUT⊢;have HE0:=hd ((Ext.refl [] w).alloc (.cells (stArr h 0 h.val.h h.val.ks.length) 43));have HB0:=hd (Blk.new w 43 (stArr h 0 h.val.h h.val.ks.length));have HSZ:=hd (show(Tryz.prog.info? 43).map (·.size)=some (stArr h 0 h.val.h h.val.ks.length).size from infoSt);generalize stArr h 0 h.val.h h.val.ks.length=arr at *;go_enter Tryz.func36,Tryz.ntmps36
 go_upto_region 1 with fail
 have HB1:=hd (HP1.o.ext HE0.o (by simp));have HB2:=hd (HP2.o.ext HE0.o (by simp));generalize World.alloc w _=w1 at *;generalize w.heap.size=s0 at *;have qb:=HB1.o.cell;have qbf:=HB1.o.frozen;have qbl:=HB1.o.lt;cases t
 ·have qp:=HB2.o.cell;have qpl:=HB2.o.lt
  go_wp2_with (
   refine wpList_load_wideG rfl 43 _ rfl s0 0 rfl arr HB0.o.wide _ Tryz.underlying43 rfl HSZ.o ?_)
  refine(HOUT.o _ HE0.o).mono ?_
  rintro e w2 ⟨rfl,hE⟩;have HE2:=hd (HE0.o.trans hE);have HB3:=hd (HB1.o.ext hE (by simp));clear hE qb qbf qbl qp qpl;have qb:=HB3.o.cell;have qbf:=HB3.o.frozen;have qbl:=HB3.o.lt;have HB4:=hd (HB3.o.set_' 0 (.bool (!II)) #[.bool (false || !II)] rfl);have HE4:=hd (Ext.setAt (b:=bb) (i:=0) (u:=.bool (!II)) (.inl (by simp)) (HE2.o.nil:Ext [bb] w w2));go_wp2_with fail
  exact bodyPost_end (results_none rfl _ _ _) rfl ⟨rfl,HE4.o,HB4.o⟩
 ·have HB4:=hd (HB1.o.set_' 0 (.bool true) #[.bool (true || !II)] rfl);have HE4:=hd (Ext.setAt (b:=bb) (i:=0) (u:=.bool true) (.inl (by simp)) (HE0.o.nil:Ext [bb] w w1));go_wp2_with fail
  exact bodyPost_end (results_none rfl _ _ _) rfl ⟨rfl,HE4.o,HB4.o⟩
theorem bad_see (w0:World)(bs:List Bf)(v1:Value)(bA:Option Addr)(bc pb bb wb mb:Nat)(hB:BufG w0 bA bs)(h1:w0.heap.size<=bb)(h2:w0.heap.size<=wb)(h3:w0.heap.size<=mb)(h4:wb≠mb)(h5:bb≠wb)(h6:bb≠mb)(h7:pb≠wb)(h8:pb≠mb)(h9:bb≠pb) :
  SeeC 36 #[.pointer (some ⟨bb,0,none⟩),.pointer (some ⟨pb,0,none⟩)] [bb] w0.heap.size wb mb bs.length (BadI w0 bs v1 bA bc pb bb):=by
 refine⟨enters_bad,fun x hx=>?_,h2,h3,h4,?_,?_⟩
 ·rw[List.mem_singleton.1 hx];exact⟨h1,h5,h6⟩
 ·rintro d w w' hE ⟨k1,k2,k3⟩;refine⟨k1.ext hE (by simp;exact⟨h5,h6⟩),k2.ext hE (by simp;exact⟨h7,h8⟩),keep0 k3 hE fun x hx=>?_⟩
  rcases List.mem_cons.1 hx with rfl|hx
  ·exact h2
  ·rw[List.mem_singleton.1 hx];exact h3
 ·rintro d h no names env w ⟨k1,k2,k3⟩ hX hF hk hM hG hno;refine(bad_any bs v1 bA bc pb bb mb h no names env _ w h9 k1 k2 (hB.keep k3) hX hF hk hM hG).mono ?_
  rintro e w' ⟨rfl,hE,hb⟩;refine⟨rfl,hE,?_,k2.ext hE (by rw[List.mem_singleton];exact Ne.symm h9),keep0 k3 hE fun x hx=>by rw[List.mem_singleton.1 hx];exact h1⟩
  rw[List.any_append];simpa using hb
theorem any_not_all {α:Type}(p:α->Bool)(l:List α):(l.any fun a=>!p a) = !(l.all p):=by
 induction l with
 | nil=>rfl
 | cons a l ih=>simp only[List.any_cons,List.all_cons,ih,Bool.not_and]
theorem ptL_in {w:World}:∀{l:List St},(∀s∈l,StIn w s)->ptL l:=by
 have key:∀s:St,StIn w s->ptS s:=st_ind fun h b ih=>fun k=>by
  unfold ptS;refine⟨k.all.2.2.2.2.1,?_⟩
  have hb:=k.all.2.2.2.2.2.2.2;clear k
  induction b with
  | nil=>unfold ptL;trivial
  | cons s b ihb=>unfold ptL;exact⟨ih s (List.mem_cons_self ..) (hb s (List.mem_cons_self ..)),ihb (fun s hs=>ih s (List.mem_cons_of_mem _ hs)) fun s hs=>hb s (List.mem_cons_of_mem _ hs)⟩
 intro l
 induction l with
 | nil=>intro _;unfold ptL;trivial
 | cons s l ih=>intro h;unfold ptL;exact⟨key s (h s (List.mem_cons_self ..)),ih fun s hs=>h s (List.mem_cons_of_mem _ hs)⟩
set_option maxHeartbeats 8000000 in
set_option maxRecDepth 100000 in
theorem loopFaultR_any (p:Pg)(w:World)(hP:PgIn w p):Calls Tryz.prog 14 #[pgV p] w (ErrP (checkE p.bs p.body) w):=by
 have HP:=hd hP;obtain⟨A,cap,bs,B,bcap,body⟩:=p;have HCH:Hd (checkE bs body=if formedE bs body=0 then(if 2500000<runNL [] body then 2 else if(instL [] 0 body).all (inI bs) then 0 else 9) else formedE bs body):=hd rfl;have HFE:Hd (formedE bs body=if bufsE bs=0 then stEL bs.length [] 0 body else bufsE bs):=hd rfl;unfold pgV;dsimp only;have hn9:bs.length<=1000000:=hP.bufs.1;have HFO:=hd (fun h=>FormOk.of (bs:=bs) (body:=body) h);clear hP;generalize hn:bs.length=n at *;have HN:=hd hn;clear hn;generalize hm:body.length=m at *;have HM:=hd hm;clear hm;have HE0:=hd ((Ext.refl [] w).alloc (.cells #[.slice A n cap,.slice B m bcap] 29));have HBP:=hd (Blk.new w 29 #[.slice A n cap,.slice B m bcap]);have HE1:=hd (HE0.o.alloc (.cells #[.slice A n cap,.slice B m bcap,.int .i64 0] 78));have HBP1:=hd (HBP.o.alloc (.cells #[.slice A n cap,.slice B m bcap,.int .i64 0] 78));have HBC:=hd (Blk.new (w.alloc (.cells #[.slice A n cap,.slice B m bcap] 29)) 78 #[.slice A n cap,.slice B m bcap,.int .i64 0]);rw[alloc_sizeR] at HBC;go_enter Tryz.func14,Tryz.ntmps14
 go_upto_region 2 with fail
 generalize World.alloc (World.alloc w _) _=w1 at *;generalize hs0:w.heap.size=s0 at *;clear HE0 HBP;have HE2:=hd HE1.o;go_wp2_with fail
 refine(buffersR_any (s0+1) (.slice B m bcap) 0 A n cap bs w1 HBC.o (HP.o.keep HE1.o).bufs (HP.o.keep HE1.o).each HN.o (by have:=HP.o.cap;have:=HN.o;simp only at *;omega)).mono ?_
 rintro r w2 ⟨rfl,hE⟩;have HE2:=hd (HE1.o.trans hE);have HBP2:=hd (HBP1.o.ext hE (by simp));have HBC2:=hd (HBC.o.ext hE (by simp));have hws2:=hE.size;clear hE HBP1 HBC;generalize hbe:bufsE bs=be at *;by_cases hb0:be=0
 ·subst hb0;have HF1:=hd (HFE.o.trans (if_pos rfl));have qp:=HBP2.o.cell;have qpl:=HBP2.o.lt;go_wp2_with fail
  have hw2s:=HBC2.o.lt;have HBD:=hd (body_list body (fun s _=>bodyR_any s):BodyC body);refine(HBD.o B m bcap [] none 0 0 w w2 (s0+1) A n cap (.slice B m bcap) 0 HP.o.body HP.o.stmt (ptL_in HP.o.stmt) HM.o HE2.o (by omega) (SeqIn.nil _ _ _ _) rfl ⟨fun _=>⟨rfl,rfl⟩,Nat.le_refl _,fun a ha=>by cases ha⟩ HBC2.o hn9 (by omega)).mono ?_
  rintro r w3 ⟨bf,rfl,hE,-,-,-⟩;have HE3:=hd (keep0 HE2.o hE fun x hx=>by rw[List.mem_singleton.1 hx];omega);have HBP3:=hd (HBP2.o.ext hE (by simp));have hw3s:=hE.size;clear hE qp qpl;generalize hfe:stEL n [] 0 body=fe at *;by_cases hf0:fe=0
  ·subst hf0;have HFK:=hd (HFO.o HF1.o);have HC1:=hd (HCH.o.trans (if_pos HF1.o));clear hbe hfe;go_upto_region 9 with fail
   have HBW:=hd (Blk.new w3 84 #[.int .i64 2500000,.int .i64 0,.int .i64 0,.nilFunc]);have HE4:=hd (HE3.o.alloc (.cells #[.int .i64 2500000,.int .i64 0,.int .i64 0,.nilFunc] 84));have HBP4:=hd (HBP3.o.alloc (.cells #[.int .i64 2500000,.int .i64 0,.int .i64 0,.nilFunc] 84));have hw4:=alloc_sizeR w3 (.cells #[.int .i64 2500000,.int .i64 0,.int .i64 0,.nilFunc] 84);generalize World.alloc w3 _=w4 at *;generalize hwb:w3.heap.size=wb at *;have hs0l:=HBP3.o.lt;have hws0:=HE3.o.size;rw[hwb] at hs0l hws0;clear HE3 HBP3 HBC2 HBD hw3s;have HBB:=hd (Blk.new w4 4 #[.bool false]);have HE5:=hd (HE4.o.alloc (.cells #[.bool false] 4));have HBP5:=hd (HBP4.o.alloc (.cells #[.bool false] 4));have HBW5:=hd (HBW.o.alloc (.cells #[.bool false] 4));have hw5:=alloc_sizeR w4 (.cells #[.bool false] 4);rw[hw4] at HBB;go_upto_region 10 with fail
   generalize World.alloc w4 _=w5 at *;have qw:=HBW5.o.cell;have qf:=HBW5.o.frozen;have qwl:=HBW5.o.lt;have HBW6:=hd (HBW5.o.set_' 3 (fnV 36 #[.pointer (some ⟨wb+1,0,none⟩),.pointer (some ⟨s0,0,none⟩)]) (wkA (2500000:Nat) (0:Nat) (0:Nat) (fnV 36 #[.pointer (some ⟨wb+1,0,none⟩),.pointer (some ⟨s0,0,none⟩)])) rfl);have HE6:=hd (Ext.setAt (b:=wb) (i:=3) (u:=fnV 36 #[.pointer (some ⟨wb+1,0,none⟩),.pointer (some ⟨s0,0,none⟩)]) (.inl (by simp)) (Ext.refl [wb] w5));rw[hw4] at *;unfold fnV at HBW6 HE6;go_upto_region 11 with fail
   have HBP6:=hd (HBP5.o.ext HE6.o (by rw[List.mem_singleton];omega));have HBB6:=hd (HBB.o.ext HE6.o (by rw[List.mem_singleton];omega));have HE60:=hd (keep0 HE5.o HE6.o fun x hx=>by rw[List.mem_singleton.1 hx];omega);have hw6:(w5.setCell ⟨wb,3,none⟩ (.func (.func 36) #[] #[.pointer (some ⟨wb+1,0,none⟩),.pointer (some ⟨s0,0,none⟩)])).heap.size=w5.heap.size:=World.size_setCell ..;generalize World.setCell _ _ _=w6 at *;clear qw qf qwl HBW HBW5 HE6 HBP4 HBP5 HE4 HE5 HBB;have qp:=HBP6.o.cell;have qpl:=HBP6.o.lt;have HE7:=hd (HE60.o.alloc (.map #[] 0));have HBP7:=hd (HBP6.o.alloc (.map #[] 0));have HBB7:=hd (HBB6.o.alloc (.map #[] 0));have HBW7:=hd (HBW6.o.alloc (.map #[] 0));have HM7:=hd (SMap.made w6);have hw7:=alloc_sizeR w6 (.map #[] 0);have hw6':w6.heap.size=wb+2:=by omega
   rw[hw6'] at HM7;have hws:w.heap.size=s0:=hs0;have HSEE:=hd (bad_see w bs (.slice B m bcap) A cap s0 (wb+1) wb (wb+2) ⟨HP.o.bufs,HFK.o.siz⟩ (by omega) (by omega) (by omega) (by omega) (by omega) (by omega) (by omega) (by omega) (by omega));have HI7:Hd (BadI w bs (.slice B m bcap) A cap s0 (wb+1) [] (w6.alloc (.map #[] 0))):=hd ⟨HBB7.o,by rw[HN.o];exact HBP7.o,HE7.o⟩;have HCALL:=hd (wbody_list body (fun s _=>wbody_any s) 36 #[.pointer (some ⟨wb+1,0,none⟩),.pointer (some ⟨s0,0,none⟩)] [wb+1] wb (wb+2) bs.length 2500000 (BadI w bs (.slice B m bcap) A cap s0 (wb+1)) w (w6.alloc (.map #[] 0)) B bcap [] [] 0 0 [] HSEE.o (fun x hx=>by rw[List.mem_singleton.1 hx];omega) HP.o.body HP.o.stmt HFK.o.fd ⟨by simp,by simp,rfl,by simp⟩ HE7.o HBW7.o HM7.o HI7.o (by omega) (by omega) (by have:=HFK.o.sto;omega) HFK.o.cnt);rw[HM.o] at HCALL;have hmm:=@run_makeMap Tryz.prog;go_wp2_with fail
   refine HCALL.o.mono ?_
   rintro e w8 ⟨rfl,s',no',d',env',-,hBk,-,-,hI,-,-,hR2⟩;have HBK:=hd hBk;have HB8:=hd hI.1;have HE8:=hd hI.2.2;have HRR:=hd hR2;clear hBk hI hR2 HCALL HSEE HI7 HM7 HBW7 HBB7 HBP7 qp qpl;have qw:=HBK.o.cell;unfold wkA at qw;have qwl:=HBK.o.lt;have qb:=HB8.o.cell;have qbl:=HB8.o.lt;rcases HRR.o with⟨b1,b2,b3⟩|⟨b1,b2,b3⟩
   ·have HC2:=hd (HC1.o.trans (if_neg (by omega)));have hne:¬(2500000:Int)<(s':Int):=by omega
    have hany:(d'.any fun i=>!inI bs i) = !((instL [] 0 body).all (inI bs)):=by rw[b3,List.nil_append];exact any_not_all _ _
    have HANY:=hd hany;rw[hany] at qb;clear b1 b2 b3 hany;cases hal:(instL [] 0 body).all (inI bs)
    ·have HC3:=hd (HC2.o.trans (if_neg (by rw[hal];simp)));rw[hal] at qb;clear hal;go_wp2_with fail
     go_ret
     exact⟨ret_int HC3.o.symm,HE8.o⟩
    ·have HC3:=hd (HC2.o.trans (if_pos hal));rw[hal] at qb;clear hal;go_wp2_with fail
     go_ret
     exact⟨ret_int HC3.o.symm,HE8.o⟩
   ·have HC2:=hd (HC1.o.trans (if_pos (by omega)));have hne:(2500000:Int)<(s':Int):=by omega
    clear b1 b2 b3;go_wp2_with fail
    go_ret
    exact⟨ret_int HC2.o.symm,HE8.o⟩
  ·have HC1:=hd (HCH.o.trans (if_neg (by rw[HF1.o];exact hf0)));have hf0':(fe==0)=false:=by simpa using hf0
   go_wp2_with fail
   go_ret
   exact⟨ret_int (by rw[HC1.o,HF1.o]),HE3.o⟩
 ·have HF1:=hd (HFE.o.trans (if_neg hb0));have HC1:=hd (HCH.o.trans (if_neg (by rw[HF1.o];exact hb0)));have hb0':(be==0)=false:=by simpa using hb0
  go_wp2_with fail
  go_ret
  exact⟨ret_int (by rw[HC1.o,HF1.o]),HE2.o⟩
end Go.Proofs.YtfppibmloloakaaGreatDoor
