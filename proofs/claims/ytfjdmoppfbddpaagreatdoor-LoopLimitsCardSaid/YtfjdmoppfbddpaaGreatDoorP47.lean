import Derived.Test.YtfjdmoppfbddpaaGreatDoorP46
import Derived.Laws.Cover4
namespace Go.Proofs.YtfjdmoppfbddpaaGreatDoor
open Go.RowKit Go.Proofs.Tryz
set_option linter.all false
def nmA:ByteArray:=⟨#[97]⟩
def nmB:ByteArray:=⟨#[98]⟩
def exNum:EH:=⟨1,0,0,0,0,0,0,afZ,none,0⟩
def exP (m:Int)(kb:Nat):EH:=⟨4,0,0,0,1,m,0,afZ,some ⟨kb,0,none⟩,1⟩
def hsN (m:Int)(kb:Nat):SH:=⟨3,⟨#[]⟩,0,0,0,false,none,0,[],none,0,1,afZ,.mk (exP m kb) [.mk exNum []]⟩
def hfN (nm:ByteArray)(hi:Int)(A:Option Addr)(cap:Nat):SH:=⟨1,nm,0,hi,1,false,none,0,[],A,cap,0,afZ,.mk exZ []⟩
def bsN (m:Int):List Bf:=[⟨nmA,m,true,none,0,[]⟩,⟨nmB,1,false,none,0,[]⟩]
def bfA (m:Int):Array Value:=#[.string nmA,.int .i64 m,.bool true,.slice none 0 0,.string nmB,.int .i64 1,.bool false,.slice none 0 0]
theorem bfN_slice (w:World)(m:Int):(Instr.buildSlice 26 2 #[(0,.agg #[.string nmA,.int .i64 m,.bool true,.slice none 0 0]),(1,.agg #[.string nmB,.int .i64 1,.bool false,.slice none 0 0])]).run Tryz.prog w=.ok (.slice (some ⟨w.heap.size,0,none⟩) 2 2) (w.alloc (.cells (bfA m) 45)):=by kernel_rfl
theorem exN_slice (w:World):(Instr.buildSlice 39 1 #[(0,.agg (exHA exNum 0))]).run Tryz.prog w=.ok (.slice (some ⟨w.heap.size,0,none⟩) 1 1) (w.alloc (.cells (exHA exNum 0) 41)):=by kernel_rfl
theorem exNum_built:Tryz.prog.built 41 [(0,.int .i64 1)]=some (exHA exNum 0):=by kernel_rfl
theorem exP_built (m:Int)(kb:Nat):Tryz.prog.built 41 [(0,.int .i64 4),(4,.int .i64 1),(5,.int .i64 m),(8,.slice (some ⟨kb,0,none⟩) 1 1)]=some (exHA (exP m kb) 1):=by kernel_rfl
theorem hsN_built (m:Int)(kb:Nat):Tryz.prog.built 43 [(0,.int .i64 3),(8,.int .i64 1),(10,.agg (exHA (exP m kb) 1))]=some (stArr (hsN m kb) 0 (exP m kb) 1):=by kernel_rfl
theorem hfN_built (nm:ByteArray)(hi:Int)(g:Nat):Tryz.prog.built 43 [(0,.int .i64 1),(1,.string nm),(3,.int .i64 hi),(4,.int .i64 1),(7,.slice (some ⟨g,0,none⟩) 1 1)]=some (stArr (hfN nm hi (some ⟨g,0,none⟩) 1) 1 exZ 0):=by kernel_rfl
inductive NstC (H:Nat) (w:World):Nat->Nat->St->Prop
 | base (g kb:Nat) (m:Int) (hH:H<=g) (hg:Blk w g 43 (stArr (hsN m kb) 0 (exP m kb) 1)) (hk:Blk w kb 41 (exHA exNum 0)):NstC H w 0 g (.mk (hsN m kb) [])
 | step (d g g':Nat) (nm:ByteArray) (hi:Int) (s:St) (hH:H<=g) (h:NstC H w d g' s) (hlt:g'<g) (hn:nm.size<=1000000) (hg:Blk w g 43 (stArr (hfN nm hi (some ⟨g',0,none⟩) 1) 1 exZ 0)):NstC H w (d+1) g (.mk (hfN nm hi (some ⟨g',0,none⟩) 1) [s])
theorem NstC.keep {H:Nat}{w w':World}(hE:Ext [] w w'){d g:Nat}{s:St}(h:NstC H w d g s):NstC H w' d g s:=by
 induction h with
 | base g kb m hH hg hk=>exact .base g kb m hH (hg.ext hE (by simp)) (hk.ext hE (by simp))
 | step d g g' nm hi s hH h hlt hn hg ih=>exact .step d g g' nm hi s hH ih hlt hn (hg.ext hE (by simp))
theorem NstC.far {H:Nat}{w w':World}{S:List Nat}(hE:Ext S w w')(hS:∀x∈S,∃t C,Blk w x t C/\t≠43/\t≠41){d g:Nat}{s:St}(h:NstC H w d g s):NstC H w' d g s:=by
 induction h with
 | base g kb m hH hg hk=>exact .base g kb m hH (hg.ext hE fun hm=>by obtain⟨t,C,h1,h2,-⟩:=hS _ hm;exact h2 (h1.type hg)) (hk.ext hE fun hm=>by obtain⟨t,C,h1,-,h2⟩:=hS _ hm;exact h2 (h1.type hk))
 | step d g g' nm hi s hH h hlt hn hg ih=>exact .step d g g' nm hi s hH ih hlt hn (hg.ext hE fun hm=>by obtain⟨t,C,h1,h2,-⟩:=hS _ hm;exact h2 (h1.type hg))
theorem NstC.blk {H:Nat}{w:World}{d g:Nat}{s:St}(h:NstC H w d g s):∃n x m,Blk w g 43 (stArr s.h n x m)/\n=s.body.length/\x=s.h.val.h/\m=s.h.val.ks.length:=by
 cases h with
 | base _ kb m _ hg hk=>exact⟨_,_,_,hg,rfl,rfl,rfl⟩
 | step d _ g' nm hi s _ h hlt hn hg=>exact⟨_,_,_,hg,rfl,rfl,rfl⟩
theorem stC_stArr (h:SH)(b:List St):stC (.mk h b)=(stArr h b.length h.val.h h.val.ks.length).toList:=rfl
theorem NstC.seq {H:Nat}{w:World}{d g:Nat}{s:St}(h:NstC H w d g s):SeqIn w (some ⟨g,0,none⟩) 21 stC [s]:=by
 obtain⟨n,x,m,hB,rfl,rfl,rfl⟩:=h.blk;obtain⟨sh,sb⟩:=s
 exact seq_one fun j v hv=>by
  rw[hB.cell,<-Array.getElem?_toList];exact hv
theorem afZ_in (w:World):AfIn w afZ:=seq_nil ..
theorem stIn_for {w:World}{nm:ByteArray}{hi:Int}{A:Option Addr}{cap:Nat}{b:List St}(hn:nm.size<=1000000)(hb:SeqIn w A 21 stC b)(hs:∀s∈b,StIn w s):StIn w (.mk (hfN nm hi A cap) b):=
 .mk _ _ (seq_nil ..) (fun a h=>by simp[hfN] at h) (afZ_in w) (.mk _ _ (afZ_in w) (seq_nil ..) (fun e h=>by simp at h)) (by simp[hfN,parts,partsL]) hn hb hs
theorem NstC.inn {H:Nat}{w:World}{d g:Nat}{s:St}(h:NstC H w d g s):StIn w s:=by
 induction h with
 | base g kb m hH hg hk=>
  refine .mk _ _ (seq_nil ..) (fun a h=>by simp[hsN] at h) (afZ_in w) (.mk _ _ (afZ_in w) (seq_one fun j v hv=>?_) (fun e he=>?_)) (by simp[hsN,parts,partsL]) (by show(⟨#[]⟩:ByteArray).size<=1000000;decide) (seq_nil ..) (fun s h=>by simp at h)
  ·rw[hk.cell,<-Array.getElem?_toList];exact hv
  ·rw[List.mem_singleton.1 he];exact .mk _ _ (afZ_in w) (seq_nil ..) (fun e h=>by simp at h)
 | step d g g' nm hi s hH h hlt hn hg ih=>exact stIn_for hn h.seq fun x hx=>by rw[List.mem_singleton.1 hx];exact ih
def pgN (m:Int)(a g:Nat)(s:St):Pg:=⟨some ⟨a,0,none⟩,2,bsN m,some ⟨g,0,none⟩,1,[s]⟩
theorem pgN_in {w:World}{m:Int}{a g:Nat}{s:St}(hA:Blk w a 45 (bfA m))(hs:SeqIn w (some ⟨g,0,none⟩) 21 stC [s])(hi:StIn w s):PgIn w (pgN m a g s):=by
 refine⟨⟨by simp[pgN,bsN],.inr ⟨a,rfl,fun i x hx j v hv=>?_⟩⟩,fun x hx=>?_,⟨by simp[pgN,bsN],by simp[pgN]⟩,hs,fun x hx=>?_⟩
 ·rw[hA.cell];have hi:=(List.getElem?_eq_some_iff.1 hx).1;simp only[pgN,bsN,List.length_cons,List.length_nil] at hi;have hii:i=0\/i=1:=by omega
  have hj:=(List.getElem?_eq_some_iff.1 hv).1;simp only[bfC,List.length_cons,List.length_nil] at hj;have hjj:j=0\/j=1\/j=2\/j=3:=by omega
  rcases hii with rfl|rfl<;>cases hx<;>rcases hjj with rfl|rfl|rfl|rfl<;>exact hv
 ·simp only[pgN,bsN,List.mem_cons,List.not_mem_nil,or_false] at hx;rcases hx with rfl|rfl
  ·exact⟨seq_nil ..,by show nmA.size<=1000000;decide⟩
  ·exact⟨seq_nil ..,by show nmB.size<=1000000;decide⟩
 ·simp only[pgN,List.mem_cons,List.not_mem_nil,or_false] at hx;subst hx;exact hi
set_option maxHeartbeats 8000000 in
set_option maxRecDepth 100000 in
theorem nest_any (A:Option Addr)(c:Nat)(xs:List Int)(pick:Int)(w:World)(hx:RdI w A xs)(hl:xs.length<=100)(hp : -1000000000<=pick/\pick<=1000000000) :
  Calls Tryz.prog 11 #[.slice A xs.length c,.int .i64 pick] w fun e w'=>∃a g s m,e=.returned (.agg #[.slice (some ⟨a,0,none⟩) 2 2,.slice (some ⟨g,0,none⟩) 1 1])/\Ext [] w w'/\Blk w' a 45 (bfA m)/\NstC w.heap.size w' xs.length g s/\w.heap.size<=g/\w.heap.size<=a:=by
 obtain⟨m,hm⟩:∃m:Int,max pick 1=m:=⟨_,rfl⟩;have HX:=hd hx;clear hx;generalize hn:xs.length=n at *;have HNL:=hd hn;clear hn;go_enter Tryz.func11,Tryz.ntmps11
 go_upto_region 1 with fail
 have HE1:=hd ((Ext.refl [] w).alloc (.cells #[.slice none 0 0,.slice none 0 0] 29));have HR1:=hd (Blk.new w 29 #[.slice none 0 0,.slice none 0 0]);have hw1:(w.alloc (.cells #[.slice none 0 0,.slice none 0 0] 29)).heap.size=w.heap.size+1:=alloc_size _ _;generalize World.alloc w _=w1 at *;generalize hs0:w.heap.size=s0 at *;have HA2:=hd ((Blk.new w1 45 (bfA m)).alloc (.cells #[.slice (some ⟨s0+1,0,none⟩) 2 2,.slice none 0 0] 29));have HP2:=hd (Blk.new (w1.alloc (.cells (bfA m) 45)) 29 #[.slice (some ⟨s0+1,0,none⟩) 2 2,.slice none 0 0]);have HE2:=hd ((HE1.o.alloc (.cells (bfA m) 45)).alloc (.cells #[.slice (some ⟨s0+1,0,none⟩) 2 2,.slice none 0 0] 29));have HR2:=hd ((HR1.o.alloc (.cells (bfA m) 45)).alloc (.cells #[.slice (some ⟨s0+1,0,none⟩) 2 2,.slice none 0 0] 29));have hw2:((w1.alloc (.cells (bfA m) 45)).alloc (.cells #[.slice (some ⟨s0+1,0,none⟩) 2 2,.slice none 0 0] 29)).heap.size=s0+1+1+1:=by rw[alloc_size,alloc_size,hw1]
 rw[alloc_size] at HP2;rw[hw1] at HA2 HP2;unfold bfA nmA nmB at HA2 HP2 HE2 HR2 hw2;go_upto_region 2 with fail
 generalize World.alloc (World.alloc w1 _) _=w2 at *;clear HR1 HE1 hw1;have HXS:=hd (exN_slice w2);have HXB:=hd exNum_built;have HPB:=hd (exP_built m w2.heap.size);have HSB:=hd (hsN_built m w2.heap.size);have HK3:=hd (Blk.new w2 41 (exHA exNum 0));have HZX:=hd (show zEx.size=(exHA (exP m w2.heap.size) 1).size from rfl);have HIX:=hd (show(Tryz.prog.info? 41).map (·.size)=some (exHA (exP m w2.heap.size) 1).size from infoEx);have HOX:=hd (exArr_one (.mk (exP m w2.heap.size) [.mk exNum []]));have hxa:exArr (.mk (exP m w2.heap.size) [.mk exNum []])=exHA (exP m w2.heap.size) 1:=rfl;rw[hxa] at HOX;have HB4:=hd (Blk.new (w2.alloc (.cells (exHA exNum 0) 41)) 41 (exHA (exP m w2.heap.size) 1));have HB4s:=hd ((Blk.new (w2.alloc (.cells (exHA exNum 0) 41)) 41 (exHA (exP m w2.heap.size) 1)));have HE4:=hd (((Ext.refl [] w2).alloc (.cells (exHA exNum 0) 41)).alloc (.cells (exHA (exP m w2.heap.size) 1) 41));have HK4:=hd (HK3.o.alloc (.cells (exHA (exP m w2.heap.size) 1) 41));have HBB:=hd (show Blk w2 (s0+1+1+1) 41 #[]->True from fun _=>trivial);have hw4:((w2.alloc (.cells (exHA exNum 0) 41)).alloc (.cells (exHA (exP m w2.heap.size) 1) 41)).heap.size=w2.heap.size+1+1:=by rw[alloc_size,alloc_size]
 rw[alloc_size] at HB4;clear hxa HBB HB4s HK3;generalize hxp:exHA (exP m w2.heap.size) 1=xp at *;have HXP:=hd hxp;clear hxp;dsimp only[exHA,exNum,afZ,List.length_nil] at HK4 HE4 hw4 HB4
 go_upto_region 3 with(first
  | (refine wpList_built rfl 41 _ rfl xp ?cc ?_;case cc=>refine Eq.trans (congrArg (Tryz.prog.built 41) (?_:_=[(0,Value.int .i64 4),(4,.int .i64 1),(5,.int .i64 m),(8,.slice (some ⟨w2.heap.size,0,none⟩) 1 1)])) HPB.o;simp[Act.eval,hw2])
  | refine wpList_make_wide rfl rfl 41 _ _ rfl rfl zEx (zEx_run _) xp rfl rfl HIX.o HZX.o HOX.o ?_)
 simp only[Act.put,List.setIfInBounds_toArray,List.set_cons_succ,List.set_cons_zero];generalize World.alloc (World.alloc w2 _) _=w4 at *;rw[alloc_size];have HE04:=hd (HE2.o.trans HE4.o);have HR4:=hd (HR2.o.ext HE4.o (by simp));have HP4:=hd (HP2.o.ext HE4.o (by simp));have HA4:=hd (HA2.o.ext HE4.o (by simp));have HSL:=hd (st_slice w4 (hsN m w2.heap.size) 0 (exP m w2.heap.size) 1);have HBS:=hd (Blk.new w4 43 (stArr (hsN m w2.heap.size) 0 (exP m w2.heap.size) 1));have HEx5:=hd ((Ext.refl [] w4).alloc (.cells (stArr (hsN m w2.heap.size) 0 (exP m w2.heap.size) 1) 43));have HH5:Hd (s0<=w4.heap.size):=hd (by omega);have HN5:=hd (NstC.base (H:=s0) w4.heap.size w2.heap.size m HH5.o HBS.o (HK4.o.ext HEx5.o (by simp)));have HE5:=hd (HE04.o.trans HEx5.o);have HR5:=hd (HR4.o.ext HEx5.o (by simp));have HP5:=hd (HP4.o.ext HEx5.o (by simp));have HA5:=hd (HA4.o.ext HEx5.o (by simp));have hs04:s0<=w4.heap.size:=by omega
 clear HR4 HP4 HA4 HR2 HP2 HA2 HE2 HE4 HEx5 HBS HK4 HXS HXB HPB;clear HXP;generalize stArr (hsN m w2.heap.size) 0 (exP m w2.heap.size) 1=arrS at *
 go_wp2_with (first
  | refine wpList_load_wide rfl 41 _ rfl (w2.heap.size+1) 0 rfl xp HB4.o.wide _ Tryz.underlying41 rfl HIX.o ?_
  | (refine wpList_built rfl 43 _ rfl arrS ?cc ?_;case cc=>refine Eq.trans (congrArg (Tryz.prog.built 43) (?_:_=[(0,Value.int .i64 3),(8,.int .i64 1),(10,.agg xp)])) HSB.o;simp[Act.eval,Act.put])
  | refine wpList_op_run rfl (.slice (some ⟨w4.heap.size,0,none⟩) 1 1) _ (exec_buildSlice rfl _ _ _ _ (.agg arrS) rfl HSL.o) ?_)
 generalize World.alloc w4 _=w5 at *;have hw4':w4.heap.size=s0+1+1+1+1+1:=by omega
 rw[hw4'] at HN5;have HX5:=hd (show ∀W,Ext [] w5 W->RdI W A xs from fun W hW=>(HX.o.ext HE5.o (by simp)).ext hW (by simp));go_loopw [7,26] (fun q i wr=>∃(k gk:Nat) (sk:St),q=.slice (some ⟨gk,0,none⟩) 1 1/\i=.int .i64 k/\k<=n/\s0<=gk/\Hd (Ext [] w5 wr)/\Hd (NstC s0 wr k gk sk)) (fun _ i _=>(n-intOf i).toNat)
 case atStart=>exact⟨0,s0+1+1+1+1+1,_,rfl,rfl,Nat.zero_le _,by omega,hd (Ext.refl _ _),HN5⟩
 case round=>
  obtain⟨k,gk,sk,rfl,rfl,hk,hgk,HE,HN⟩:=hrel;rename World=>wq
  by_cases hlt:k<n
  ·obtain⟨x,hxk⟩:∃x,xs[k]? = some x:=⟨_,List.getElem?_eq_getElem (by have:=HNL.o;omega)⟩
   obtain⟨b,o,hA,hc⟩:∃b o,A=some ⟨b,o,none⟩/\wq.cell? ⟨b,o+k,none⟩=some (.int .i64 x):=by
    rcases HX5.o wq HE.o with h1|⟨b,o,h1,h2⟩
    ·rw[h1] at hxk;simp at hxk
    ·exact⟨b,o,h1,h2 k x hxk⟩
   subst hA;have hbl:=World.block_lt_of_cell? wq _ hc;simp only at hbl;clear hxk;go_upto_region 7 with fail
   have HGL:=hd (show gk<wq.heap.size by obtain⟨_,_,_,hB,-⟩:=HN.o.blk;exact hB.lt);have HZ:=hd (encode_size_le (105+(k:Int)));have HEn:=hd (HE.o.alloc (.cells (stArr (hfN (Utf8.encode (105+(k:Int))) x (some ⟨gk,0,none⟩) 1) 1 exZ 0) 43));have HHq:Hd (s0<=wq.heap.size):=hd (by have:=HGL.o;omega);have HNn:=hd (NstC.step k wq.heap.size gk (Utf8.encode (105+(k:Int))) x sk HHq.o (HN.o.keep ((Ext.refl [] wq).alloc (.cells (stArr (hfN (Utf8.encode (105+(k:Int))) x (some ⟨gk,0,none⟩) 1) 1 exZ 0) 43))) HGL.o (Nat.le_trans HZ.o (by omega)) (Blk.new wq _ _));have hq5:s0<=wq.heap.size:=by have:=HGL.o;omega
   dsimp only[stArr,hfN,exZ,afZ,List.length_nil] at HEn HNn;go_wp2_with fail
   go_roundw
   case rel=>exact⟨k+1,wq.heap.size,_,rfl,by go_num,by omega,hq5,HEn,HNn⟩
   case measure=>simp[intOf];omega
  ·have hkn:k=n:=by omega
   subst hkn;have HRq:=hd (HR5.o.ext HE.o (by simp));have HPq:=hd (HP5.o.ext HE.o (by simp));have HAq:=hd (HA5.o.ext HE.o (by simp));have HEq:=hd (HE5.o.trans HE.o);have HGL:=hd (show gk<wq.heap.size by obtain⟨_,_,_,hB,-⟩:=HN.o.blk;exact hB.lt);have qp:=HPq.o.cell;have qpf:=HPq.o.frozen;have qpl:=HPq.o.lt;have HEs:=hd (Ext.setAt (b:=s0+1+1) (i:=1) (u:=.slice (some ⟨gk,0,none⟩) 1 1) (.inl (by simp)) (Ext.refl [s0+1+1] wq));have HPs:=hd (HPq.o.set_' 1 (.slice (some ⟨gk,0,none⟩) 1 1) #[.slice (some ⟨s0+1,0,none⟩) 2 2,.slice (some ⟨gk,0,none⟩) 1 1] rfl);have HRs:=hd (HRq.o.ext HEs.o (by rw[List.mem_singleton];omega));go_upto_region 10 with fail
   generalize World.setCell wq _ _=wf at *;clear qp qpf qpl;have qp:=HPs.o.cell;have qpl:=HPs.o.lt;have qr:=HRs.o.cell;have qrf:=HRs.o.frozen;have qrl:=HRs.o.lt;have HRf:=hd ((HRs.o.set_' 0 (.slice (some ⟨s0+1,0,none⟩) 2 2) #[.slice (some ⟨s0+1,0,none⟩) 2 2,.slice none 0 0] rfl).set_' 1 (.slice (some ⟨gk,0,none⟩) 1 1) #[.slice (some ⟨s0+1,0,none⟩) 2 2,.slice (some ⟨gk,0,none⟩) 1 1] rfl);have HEf:=hd ((Ext.setAt (b:=s0) (i:=0) (u:=.slice (some ⟨s0+1,0,none⟩) 2 2) (.inl (by simp)) (Ext.refl [s0] wf)).trans (Ext.setAt (b:=s0) (i:=1) (u:=.slice (some ⟨gk,0,none⟩) 1 1) (.inl (by simp)) (Ext.refl [s0] _)));go_wp2_with fail
   have HNf:=hd ((HN.o.far HEs.o fun x hx=>by rw[List.mem_singleton.1 hx];exact⟨_,_,HPq.o,by decide,by decide⟩).far HEf.o fun x hx=>by rw[List.mem_singleton.1 hx];exact⟨_,_,HRs.o,by decide,by decide⟩);have HAf:=hd ((HAq.o.ext HEs.o (by rw[List.mem_singleton];omega)).ext HEf.o (by rw[List.mem_singleton];omega));have HXf:=hd ((HEq.o.step HEs.o fun x hx=>.inr (by rw[List.mem_singleton.1 hx];omega)).step HEf.o fun x hx=>.inr (by rw[List.mem_singleton.1 hx];omega));generalize World.setCell (World.setCell wf _ _) _ _=wg at *;exact bodyPost_ret (results_cell_row rfl _ _ s0 29 _ (0,0) _ rfl HRf.o Tryz.underlying29 rfl (by kernel_rfl)) rfl ⟨s0+1,gk,sk,m,rfl,HXf.o,HAf.o,by rw[hs0];exact HNf.o,by omega,by omega⟩
end Go.Proofs.YtfjdmoppfbddpaaGreatDoor
