import Derived.Test.YtfppibmloloakaaGreatDoorP24
namespace Go.Proofs.YtfppibmloloakaaGreatDoor
open Go.RowKit Go.Proofs.Tryz
set_option linter.all false
theorem enters_begOne:∀args w,(callFunc 140 args).run Tryz.prog w=.ok (.enter 140 args) w:=by
 obtain⟨c,hc⟩:∃c,Tryz.f140.body=some c:=⟨_,rfl⟩;exact fun args w=>enters_of Tryz.func140 (by kernel_rfl) hc args w
set_option maxRecDepth 100000 in
theorem begOne_any (x:Int)(w:World):Calls Tryz.prog 140 (#[.int .i64 x] ++ #[]) w (HasP (!isWd x) w):=by
 go_enter Tryz.func140,Tryz.ntmps140
 go_wp2_with fail
 refine(isWord_any x _).mono ?_
 rintro e w5 ⟨rfl,rfl⟩;go_wp2_with fail
 go_ret
 exact⟨rfl,Ext.refl _ _⟩
theorem irwInfo:∃i,Tryz.prog.info? 22=some i/\i.zero=some (.slice none 0 0)/\i.size=1/\i.bytes=24:=info_parts (show((Tryz.prog).info? 22).map (fun i=>(i.zero,i.size,i.bytes))=some (some (.slice none 0 0),1,24) by kernel_rfl)
theorem brwInfo:∃i,Tryz.prog.info? 232=some i/\i.zero=some (.slice none 0 0)/\i.size=1/\i.bytes=24:=info_parts (show((Tryz.prog).info? 232).map (fun i=>(i.zero,i.size,i.bytes))=some (some (.slice none 0 0),1,24) by kernel_rfl)
structure BegI (w:World)(ab ib vb:Nat):Prop where
 bufs:Blk w ab 45 #[.string ⟨#[97]⟩,.int .i64 2,.bool true,.slice none 0 0,.string ⟨#[98]⟩,.int .i64 2,.bool false,.slice none 0 0]
 ins:Blk w ib 22 #[.slice (some ⟨vb,0,none⟩) 2 2,.slice none 0 0]
 wds:Blk w vb 3 #[.int .i64 4,.int .i64 5]
theorem BegI.ext {w w':World}{ab ib vb:Nat}(h:BegI w ab ib vb){S:List Nat}(hE:Ext S w w')(hS:ab∉S/\ib∉S/\vb∉S):BegI w' ab ib vb:=⟨h.bufs.ext hE hS.1,h.ins.ext hE hS.2.1,h.wds.ext hE hS.2.2⟩
def wq (i:Nat):Array Value:=if i=0 then #[.int .i64 4,.int .i64 5] else #[.int .i64 0,.int .i64 0]
def sq (f:Bool)(j:Nat):Array Value:=#[.bool (f&&decide (0<j)),.bool (f&&decide (1<j))]
def slV (b:Nat):Value:=.slice (some ⟨b,0,none⟩) 2 2
structure BegR (H mb k:Nat)(w:World)(wv sv:Value)(R:List (Nat×Nat)):Prop where
 len:R.length=k
 blk:Blk w mb 176 #[wv,sv]
 wr:w.ownsRow H 22 1 wv k (R.map fun x=>slV x.1)
 sr:w.ownsRow H 232 1 sv k (R.map fun x=>slV x.2)
 row:∀(i:Nat) (x:Nat×Nat),R[i]? = some x->H<=x.1/\H<=x.2/\Blk w x.1 3 (wq i)/\Blk w x.2 4 (sq (decide (i=0)) 2)
 apart:∀(x y:Nat×Nat),R[0]? = some x->R[1]? = some y->x.1≠y.1/\x.2≠y.2
theorem BegR.ext {H mb k:Nat}{w w':World}{wv sv:Value}{R:List (Nat×Nat)}(h:BegR H mb k w wv sv R){S:List Nat}(hE:Ext S w w')(hm:mb∉S)(hb:∀x∈S,H<=x->(∃C,Blk w x 3 C\/Blk w x 4 C)/\∀y∈R,x≠y.1/\x≠y.2)(hH:∀x∈S,H<=x):BegR H mb k w' wv sv R:=by
 refine⟨h.len,h.blk.ext hE hm,own_ext h.wr hE fun q hq hx=>?_,own_ext h.sr hE fun q hq hx=>?_,fun i x hx=>?_,h.apart⟩
 ·obtain⟨C,hC⟩:=own_blk h.wr hq;obtain⟨⟨D,hD|hD⟩,-⟩:=hb q hx (hH q hx)
  ·exact absurd (hC.type hD) (by decide)
  ·exact absurd (hC.type hD) (by decide)
 ·obtain⟨C,hC⟩:=own_blk h.sr hq;obtain⟨⟨D,hD|hD⟩,-⟩:=hb q hx (hH q hx)
  ·exact absurd (hC.type hD) (by decide)
  ·exact absurd (hC.type hD) (by decide)
 ·obtain⟨h1,h2,h3,h4⟩:=h.row i x hx;have hm:=List.mem_of_getElem? hx;exact⟨h1,h2,h3.ext hE fun hs=>((hb _ hs (hH _ hs)).2 x hm).1 rfl,h4.ext hE fun hs=>((hb _ hs (hH _ hs)).2 x hm).2 rfl⟩
theorem BegR.far {H mb k:Nat}{w w':World}{wv sv:Value}{R:List (Nat×Nat)}(h:BegR H mb k w wv sv R)(hE:Ext [] w w'):BegR H mb k w' wv sv R:=h.ext hE (by simp) (by simp) (by simp)
theorem sq_set (f:Bool){j:Nat}(h:j<2):(sq f j).setIfInBounds j (.bool f)=sq f (j+1):=by
 have:j=0\/j=1:=by omega
 rcases this with rfl|rfl<;>cases f<;>rfl
def sMkI (H:Nat):Spec:=⟨Nat,0,fun b=>slV b,fun b w=>H<=b/\Blk w b 3 #[.int .i64 0,.int .i64 0]⟩
def sMkB (H:Nat):Spec:=⟨Nat,0,fun b=>slV b,fun b w=>H<=b/\Blk w b 4 #[.bool false,.bool false]⟩
theorem sMkI.stays {H:Nat}:∀y w w',RH [] w w'->(sMkI H).V y w->(sMkI H).V y w':=fun _ w w' h k=>⟨k.1,Blk.ext k.2 h.1 List.not_mem_nil⟩
theorem sMkB.stays {H:Nat}:∀y w w',RH [] w w'->(sMkB H).V y w->(sMkB H).V y w':=fun _ w w' h k=>⟨k.1,Blk.ext k.2 h.1 List.not_mem_nil⟩
theorem mk_ints (w:World):(Instr.makeSlice 22 (.int .i64 2) (.int .i64 2)).run Tryz.prog w=.ok (slV w.heap.size) (w.alloc (.cells #[.int .i64 0,.int .i64 0] 3)):=by kernel_rfl
theorem mk_bools (w:World):(Instr.makeSlice 232 (.int .i64 2) (.int .i64 2)).run Tryz.prog w=.ok (slV w.heap.size) (w.alloc (.cells #[.bool false,.bool false] 4)):=by kernel_rfl
theorem seq45 {w:World}{vb:Nat}(h:Blk w vb 3 #[.int .i64 4,.int .i64 5]):SeqIn w (some ⟨vb,0,none⟩) 1 inC [4,5]:=⟨by simp,.inr ⟨vb,rfl,fun i x hx j v hv=>by
 have h1:=(List.getElem?_eq_some_iff.1 hx).1
 have h2:j=0:=by
  have:=(List.getElem?_eq_some_iff.1 hv).1;simp[inC] at this;exact this
 subst h2;rw[h.cell];simp only[List.length_cons,List.length_nil] at h1;have:i=0\/i=1:=by omega
 rcases this with rfl|rfl<;>(cases hx;cases hv;rfl)⟩⟩
attribute [local irreducible] relAt
set_option maxHeartbeats 16000000 in
set_option maxRecDepth 100000 in
theorem begun_copy (ab ib vb:Nat)(w:World)(hB:BegI w ab ib vb) :
  Calls Tryz.prog 94 #[.slice (some ⟨ab,0,none⟩) 2 2,.slice (some ⟨ib,0,none⟩) 2 2] w fun e w'=>∃(mb H:Nat) (wv sv:Value) (R:List (Nat×Nat)),e=.returned (.tuple #[.pointer (some ⟨mb,0,none⟩),.int .i64 0])/\Ext [] w w'/\w.heap.size<=mb/\mb<H/\BegR H mb 2 w' wv sv R:=by
 have HBI:=hd hB;have hab:=hB.bufs.lt;have hib:=hB.ins.lt;have hvb:=hB.wds.lt;clear hB;have HE0:=hd ((Ext.refl [] w).alloc (.cells #[.slice none 0 0,.slice none 0 0] 176));go_enter Tryz.func94,Tryz.ntmps94
 go_upto_region 4 with fail
 generalize hW:World.alloc w _=w1;have HE1:Hd (Ext [] w w1):=hd (by rw[<-hW];exact(Ext.refl [] w).alloc _);have HM1:Hd (Blk w1 w.heap.size 176 #[.slice none 0 0,.slice none 0 0]):=hd (by rw[<-hW];exact Blk.new w _ _);have hw1:w1.heap.size=w.heap.size+1:=by rw[<-hW];exact alloc_size _ _
 clear hW HE0;generalize hmb:w.heap.size=mb at *;go_wp2_with fail
 go_loopw [24] (fun i wr=>∃k:Nat,i=.int .i64 k/\k<=2/\Hd (Ext [] w1 wr)) (fun i _=>(2-intOf i).toNat)
 case atStart=>exact⟨0,rfl,by omega,hd (Ext.refl _ _)⟩
 case round=>
  obtain⟨k,rfl,hk,HE⟩:=hrel;rename World=>wq1
  have HIq:=hd (HBI.o.ext (HE1.o.trans HE.o) (by simp));have qa:=HIq.o.bufs.cell;have qal:=HIq.o.bufs.lt;have qi:=HIq.o.ins.cell;have qil:=HIq.o.ins.lt;have hk3:k=0\/k=1\/k=2:=by omega
  rcases hk3 with rfl|rfl|rfl
  ·skip
   go_upto_region 8 with fail
   generalize hW:World.alloc wq1 _=w4;have HE4:Hd (Ext [] wq1 w4):=hd (by rw[<-hW];exact(Ext.refl [] wq1).alloc _);have HC4:Hd (Blk w4 wq1.heap.size 45 #[.string ⟨#[97]⟩,.int .i64 2,.bool true,.slice none 0 0]):=hd (by rw[<-hW];exact Blk.new wq1 _ _);clear hW qa qal qi qil;have HI4:=hd (HIq.o.ext HE4.o (by simp));have qi:=HI4.o.ins.cell;have qil:=HI4.o.ins.lt;have qb:=HC4.o.cell;have qbl:=HC4.o.lt;have HX4:Hd (∀n,Ext [] w1 (w4.drewN n)):=hd fun n=>(HE.o.trans HE4.o).drewN n
   go_quiet (fail)
   go_wp2_with fail
   go_roundw
   case rel=>exact⟨1,by go_num,by omega,hd (HX4.o _)⟩
   case measure=>simp[intOf]
  ·skip
   go_upto_region 8 with fail
   generalize hW:World.alloc wq1 _=w4;have HE4:Hd (Ext [] wq1 w4):=hd (by rw[<-hW];exact(Ext.refl [] wq1).alloc _);have HC4:Hd (Blk w4 wq1.heap.size 45 #[.string ⟨#[98]⟩,.int .i64 2,.bool false,.slice none 0 0]):=hd (by rw[<-hW];exact Blk.new wq1 _ _);clear hW qa qal qi qil;have HI4:=hd (HIq.o.ext HE4.o (by simp));have qi:=HI4.o.ins.cell;have qil:=HI4.o.ins.lt;have qb:=HC4.o.cell;have qbl:=HC4.o.lt;have HX4:Hd (∀n,Ext [] w1 (w4.drewN n)):=hd fun n=>(HE.o.trans HE4.o).drewN n
   go_quiet (fail)
   go_wp2_with fail
   go_roundw
   case rel=>exact⟨2,by go_num,by omega,hd (HX4.o _)⟩
   case measure=>simp[intOf]
  ·go_wp2_with fail
   clear qa qal qi qil hk;have HXQ:=hd (HE1.o.trans HE.o);have HMQ:=hd (HM1.o.ext HE.o (by simp));have hwq:mb+1<=wq1.heap.size:=by have:=HE.o.size;omega
   clear HE HIq;rename World=>w2
   generalize hH2:w2.heap.size=H2 at *;have HR0:=hd (show BegR H2 mb 0 w2 (.slice none 0 0) (.slice none 0 0) [] from⟨rfl,HMQ.o,own_none _ _ _ _,own_none _ _ _ _,fun i x hx=>by simp at hx,fun x y hx=>by simp at hx⟩);go_loopw [63] (fun i wr=>∃(k:Nat) (wv sv:Value) (R:List (Nat×Nat)),i=.int .i64 k/\k<=2/\Hd (Ext [mb] w2 wr)/\Hd (BegR H2 mb k wr wv sv R)) (fun i _=>(2-intOf i).toNat)
   case atStart=>exact⟨0,_,_,_,rfl,by omega,hd (Ext.refl _ _),HR0⟩
   case round=>
    obtain⟨k,wv,sv,R,rfl,hk,HE,HR⟩:=hrel;rename World=>w3
    have HXB:Hd (Ext [] w w3):=hd (keep0 HXQ.o HE.o fun x hx=>by rw[List.mem_singleton.1 hx];omega);have HIq:=hd (HBI.o.ext HXB.o (by simp));have hk3:k=0\/k=1\/k=2:=by omega
    rcases hk3 with rfl|rfl|rfl
    ·skip
     have qa:=HIq.o.bufs.cell;have qal:=HIq.o.bufs.lt;go_upto_region 14 with fail
     generalize hW:World.alloc w3 _=w4;have HE4:Hd (Ext [] w3 w4):=hd (by rw[<-hW];exact(Ext.refl [] w3).alloc _);have HC4:Hd (Blk w4 w3.heap.size 45 #[.string ⟨#[97]⟩,.int .i64 2,.bool true,.slice none 0 0]):=hd (by rw[<-hW];exact Blk.new w3 _ _);have hw4:w4.heap.size=w3.heap.size+1:=by rw[<-hW];exact alloc_size _ _
     clear hW qa qal;generalize hfb:w3.heap.size=fb at *;have hfm:H2<=fb:=by have:=HE.o.size;omega
     have HI4:=hd (HIq.o.ext HE4.o (by simp));have qi:=HI4.o.ins.cell;have qil:=HI4.o.ins.lt;go_wp2_with fail
     have HIV:=hd (iv_has (some ⟨vb,0,none⟩) 2 2 [4,5] 140 #[] (fun x=>!isWd x) w4 (seq45 HI4.o.wds) rfl ⟨enters_begOne,fun i y hy w' hw'=>begOne_any y w'⟩);rw[show([4,5]:List Int).any (fun x=>!isWd x)=false by decide] at HIV;refine HIV.o.mono ?_
     rintro e w5 ⟨rfl,hE⟩;have HE5:=hd (HE4.o.trans hE);have HC5:=hd (HC4.o.ext hE (by simp));have hw5:=hE.size;clear hE HIV qi qil;have qb:=HC5.o.cell;have qbl:=HC5.o.lt;go_upto_region 16 with fail
     clear qb qbl;refine rgH 7 [(2,sMkI w5.heap.size),(5,sMkB w5.heap.size)] ?_ ?_
     ·refine Stays.cons sMkI.stays (Stays.cons sMkB.stays Stays.nil)
     simp only[List.take_succ_cons,List.take_zero,List.drop_succ_cons,List.drop_zero]
     repeat
      refine relAt_det rfl rfl ?_
      apply Exists.intro
      refine⟨fun wr nr hJ=>?_,?_⟩
      ·have qb:=(HC5.o.ext hJ.1 (by simp)).cell;have qbl:=(HC5.o.ext hJ.1 (by simp)).lt;clear hJ;(go_simp;try go_bits)
       first|rfl|exact⟨rfl,rfl⟩
      simp only[Act.put,List.setIfInBounds_toArray,List.set_cons_succ,List.set_cons_zero]
     refine rel_new (sMkI w5.heap.size) rfl rfl (fun wr nr hJ hf=>?_) ?_
     ·refine⟨wr.heap.size,.cells #[.int .i64 0,.int .i64 0] 3,?_,hJ.1.size,Blk.new _ _ _⟩
      have hmk:=mk_ints wr;(go_simp;try go_bits)
      rfl
     intro (bw:Nat);simp only[Act.put,List.setIfInBounds_toArray,List.set_cons_succ,List.set_cons_zero]
     repeat
      refine relAt_det rfl rfl ?_
      apply Exists.intro
      refine⟨fun wr nr hJ=>?_,?_⟩
      ·have qb:=(HC5.o.ext hJ.1 (by simp)).cell;have qbl:=(HC5.o.ext hJ.1 (by simp)).lt;clear hJ;(go_simp;try go_bits)
       first|rfl|exact⟨rfl,rfl⟩
      simp only[Act.put,List.setIfInBounds_toArray,List.set_cons_succ,List.set_cons_zero]
     refine rel_new (sMkB w5.heap.size) rfl rfl (fun wr nr hJ hf=>?_) ?_
     ·refine⟨wr.heap.size,.cells #[.bool false,.bool false] 4,?_,hJ.1.size,Blk.new _ _ _⟩
      have hmk:=mk_bools wr;(go_simp;try go_bits)
      rfl
     intro (bs:Nat);simp only[Act.put,List.setIfInBounds_toArray,List.set_cons_succ,List.set_cons_zero]
     repeat
      refine relAt_det rfl rfl ?_
      apply Exists.intro
      refine⟨fun wr nr hJ=>?_,?_⟩
      ·skip
       clear hJ;(go_simp;try go_bits)
       first|rfl|exact⟨rfl,rfl⟩
      simp only[Act.put,List.setIfInBounds_toArray,List.set_cons_succ,List.set_cons_zero]
     refine relAt_nil (fun w6 hJ hF=>?_)
     have HW6:Hd (w5.heap.size<=bw/\Blk w6 bw 3 #[.int .i64 0,.int .i64 0]):=hd (hF 2);have HS6:Hd (w5.heap.size<=bs/\Blk w6 bs 4 #[.bool false,.bool false]):=hd (hF 5);have HE6:=hd (HE5.o.trans hJ.1);have HC6:=hd (HC5.o.ext hJ.1 (by simp));clear hF hJ;dsimp only[sMkI,sMkB,slV];have HI6:=hd (HIq.o.ext HE6.o (by simp));have qb:=HC6.o.cell;have qbl:=HC6.o.lt;have qi:=HI6.o.ins.cell;have qil:=HI6.o.ins.lt;have hbw:=HW6.o.1;have hbs:=HS6.o.1;have hbb:bw≠bs:=HW6.o.2.apart HS6.o.2 (by decide);go_upto_region 18 with(refine wpList_copy_nothing rfl _ _ _ _ rfl 3 Tryz.underlying22 (by kernel_rfl) (some ⟨bw,0,none⟩) none 2 2 0 0 rfl rfl rfl ?_)
     go_upto_region 19 with(
      refine wpList_copy_own rfl _ _ _ _ rfl 3 Tryz.underlying22 (by kernel_rfl) bw 0 2 2 ⟨vb,0,none⟩ 2 2 rfl rfl #[.int .i64 0,.int .i64 0] 3 HW6.o.2 [.int .i64 4,.int .i64 5] rfl ?c1 (by decide) ?c2 ?_
      case c1=>
       intro j v hv;rw[Addr.add_lit,Nat.zero_add,HI6.o.wds.cell];simpa using hv
      case c2=>intro v hv;simp only[List.mem_cons,List.not_mem_nil,or_false] at hv;rcases hv with rfl|rfl<;>rfl)
     generalize hW:World.setRow w6 bw _=w7;have HW7:Hd (Blk w7 bw 3 (wq 0)):=hd (by rw[<-hW];exact setRow_heap w6 bw _ _ _ (0,0) HW6.o.2);have HE67:Hd (Ext [bw] w6 w7):=hd (by rw[<-hW];exact⟨rfl,rfl,rfl,by simp[World.setRow],fun i _ hi=>setRow_other _ _ i _ (by simpa using hi)⟩);clear hW;have HE7:Hd (Ext [] w3 w7):=hd (HE6.o.step HE67.o fun x hx=>.inr (by rw[List.mem_singleton.1 hx];omega));clear qb qbl qi qil;have HRO:=hd HR.o;have hww:w3.heap.size<=w7.heap.size:=HE7.o.size;have HR7:Hd (BegR H2 mb 0 w7 wv sv R):=hd (HRO.o.far HE7.o);have HC7:Hd (Blk w7 fb 45 #[.string ⟨#[97]⟩,.int .i64 2,.bool true,.slice none 0 0]):=hd (HC6.o.ext HE67.o (by simp only[List.mem_singleton];omega));have HS7:Hd (Blk w7 bs 4 #[.bool false,.bool false]):=hd (HS6.o.2.ext HE67.o (by simp only[List.mem_singleton];exact Ne.symm hbb))
     have HRL:Hd (∀y∈R,y.1<fb/\y.2<fb):=hd fun y hy=>by
      obtain⟨i,hi⟩:=List.getElem?_of_mem hy;obtain⟨-,-,h3,h4⟩:=HR.o.row i y hi;have h5:=h3.lt;have h6:=h4.lt;exact⟨by omega,by omega⟩
     clear HC6 HE6 HW6 HI6 HRO HR;go_wp2_with fail
     go_loopw [91] (fun i wr=>∃j:Nat,i=.int .i64 j/\j<=2/\Hd (Ext [bs] w7 wr)/\Hd (Blk wr bs 4 (sq true j))) (fun i _=>(2-intOf i).toNat)
     case atStart=>exact⟨0,rfl,by omega,hd (Ext.refl _ _),hd (by simpa[sq] using HS7.o)⟩
     case round=>
      obtain⟨j,rfl,hj,HEJ,HSJ⟩:=hrel;rename World=>wj
      by_cases hjl:j<2
      ·have hj2:(j:Int)<2:=by omega
       have HCJ:=hd (HC7.o.ext HEJ.o (by simp only[List.mem_singleton];omega));have qb:=HCJ.o.cell 2;have qbl:=HCJ.o.lt;have qs:=HSJ.o.cell j;obtain⟨y0,hy0⟩:∃x,(sq true j)[j]? = some x:=⟨_,Array.getElem?_eq_getElem (show j<2 from hjl)⟩;rw[hy0] at qs;have qf:=HSJ.o.frozen;have qsl:=HSJ.o.lt;have HS8:Hd (Blk (wj.setCell ⟨bs,j,none⟩ (.bool true)) bs 4 (sq true (j+1))):=hd (HSJ.o.set_' j _ _ (sq_set true hjl));have HE8:=hd (Ext.setAt (b:=bs) (i:=j) (u:=.bool true) (.inl (by simp)) HEJ.o);clear hy0;go_wp2_with fail
       go_roundw
       case rel=>exact⟨j+1,by go_num,by omega,HE8,HS8⟩
       case measure=>simp[intOf];omega
      ·have hjm:j=2:=by omega
       subst hjm;have HMB:Hd (mb≠bs):=hd (by omega)
       have HB9:Hd (BegR H2 mb 0 wj wv sv R):=hd (HR7.o.ext HEJ.o (by rw[List.mem_singleton];exact HMB.o) (fun x hx h=>by
        rw[List.mem_singleton.1 hx];exact⟨⟨_,.inr HS7.o⟩,fun y hy=>by have:=HRL.o y hy;omega⟩) fun x hx=>by rw[List.mem_singleton.1 hx];omega)
       have HWJ:=hd (HW7.o.ext HEJ.o (by rw[List.mem_singleton];exact hbb));have HEW:Hd (Ext [] w3 wj):=hd (HE7.o.step HEJ.o fun x hx=>.inr (by rw[List.mem_singleton.1 hx];omega));have HWR:=hd HB9.o.wr;have HSR:=hd HB9.o.sr;have HLW:Hd ((R.map fun x=>slV x.1).length=0):=hd (by rw[List.length_map,HB9.o.len]);have HLS:Hd ((R.map fun x=>slV x.2).length=0):=hd (by rw[List.length_map,HB9.o.len]);have HLWE:Hd ((R.map fun(x:Nat×Nat)=>slV x.1) ++ [slV bw]=(R ++ [(bw,bs)]).map fun(x:Nat×Nat)=>slV x.1):=hd (by rw[List.map_append];rfl);have HLSE:Hd ((R.map fun(x:Nat×Nat)=>slV x.2) ++ [slV bs]=(R ++ [(bw,bs)]).map fun(x:Nat×Nat)=>slV x.2):=hd (by rw[List.map_append];rfl);generalize (R.map fun x=>slV x.1)=lw at *;generalize (R.map fun x=>slV x.2)=ls at *;have hmbj:mb<wj.heap.size:=HB9.o.blk.lt;have HBw:Hd (H2<=wj.heap.size):=hd (by have:=HEW.o.size;omega)
       have HNS:Hd (∀g,wv.ownBlock=some g->H2<=g/\g<wj.heap.size/\g≠mb/\True/\sv.ownBlock≠some g):=hd fun g hg=>by
        obtain⟨C,hC⟩:=own_blk HWR.o hg;have h1:=own_base HWR.o g hg;refine⟨h1,hC.lt,by omega,trivial,fun e=>?_⟩
        obtain⟨D,hD⟩:=own_blk HSR.o e;exact absurd (hC.type hD) (by decide)
       have HNA:Hd (∀g,sv.ownBlock=some g->H2<=g/\g<wj.heap.size/\g≠mb/\True):=hd fun g hg=>by
        obtain⟨C,hC⟩:=own_blk HSR.o hg;have h1:=own_base HSR.o g hg;exact⟨h1,hC.lt,by omega,trivial⟩
       obtain⟨i0,hi0,hz0,hz1,hz2⟩:=irwInfo;obtain⟨i1,hi1,hy0,hy1,hy2⟩:=brwInfo
       have HFT:Hd (∀i y,¬((Addr.mk mb i none).off=0/\((wv.ownBlock=some (Addr.mk mb i none).block/\y=slV bw)\/(sv.ownBlock=some (Addr.mk mb i none).block/\y=slV bs)))):=hd fun i y h=>by
        rcases h.2 with h1|h1
        ·exact(HNS.o mb h1.1).2.2.1 rfl
        ·exact(HNA.o mb h1.1).2.2.1 rfl
       have HCT:Hd (mb∉wv.ownBlock.toList ++ sv.ownBlock.toList):=hd fun h=>by
        rcases List.mem_append.1 h with h1|h1
        ·exact(HNS.o mb (Option.mem_toList.1 h1)).2.2.1 rfl
        ·exact(HNA.o mb (Option.mem_toList.1 h1)).2.2.1 rfl
       go_upto_region 24 with fail
       refine rgK 19 18 mb (wv.ownBlock.toList ++ sv.ownBlock.toList) (fun p y=>p.off=0/\((wv.ownBlock=some p.block/\y=slV bw)\/(sv.ownBlock=some p.block/\y=slV bs)))
        [(7,sCells wj.heap.size [slV bw]),(8,sRowA H2 22 1 0 (lw ++ [slV bw]) (fun g=>wv.ownBlock=some g\/wj.heap.size<=g)),
         (14,sCells wj.heap.size [slV bs]),(15,sRowA H2 232 1 0 (ls ++ [slV bs]) (fun g=>sv.ownBlock=some g\/wj.heap.size<=g)),
         (18,⟨Nat×Nat,(0,0),fun _=>undef,fun u w=>Blk w mb 176 #[.slice (some ⟨u.1,0,none⟩) (0+1:Nat) u.2,sv]/\(sRowA H2 22 1 0 (lw ++ [slV bw]) (fun g=>wv.ownBlock=some g\/wj.heap.size<=g)).V u w⟩)] rfl (by simp[kinds]) (fun oi h=>by cases h;rfl) ?_ ?_
       ·refine StaysK.done (StaysK.cons (sCells.staysK hmbj fun b j u y hb hu hf=>?_) (StaysK.cons (sRowA.staysK (fun h=>?_) fun g i x y hg hx hf=>?_) (StaysK.cons (sCells.staysK hmbj fun b j u y hb hu hf=>?_) (StaysK.cons (sRowA.staysK (fun h=>?_) fun g i x y hg hx hf=>?_) (StaysK.cons (fun j hj x w w' hR hV=>⟨hV.1.rw (hR.rw hj) HFT.o,sRowA.staysK (fun h=>?_) (fun g i x y hg hx hf=>?_) j hj x w w' hR hV.2⟩) StaysK.nil)))))
        ·rcases hf.2 with h1|h1
         ·have:=(HNS.o b h1.1).2.1;omega
         ·have:=(HNA.o b h1.1).2.1;omega
        ·rcases h with h1|h1
         ·exact(HNS.o mb h1).2.2.1 rfl
         ·omega
        ·obtain⟨h1,h2⟩:=hf;simp only at h1;subst h1;rcases h2 with h2|h2
         ·rw[List.getElem?_append_right (by rw[HLW.o];exact Nat.le_refl _),HLW.o,Nat.sub_self] at hx;cases hx
          exact h2.2
         ·rcases hg with h3|h3
          ·exact absurd h2.1 (HNS.o g h3).2.2.2.2
          ·have:=(HNA.o g h2.1).2.1;omega
        ·rcases hf.2 with h1|h1
         ·have:=(HNS.o b h1.1).2.1;omega
         ·have:=(HNA.o b h1.1).2.1;omega
        ·rcases h with h1|h1
         ·exact(HNA.o mb h1).2.2.1 rfl
         ·omega
        ·obtain⟨h1,h2⟩:=hf;simp only at h1;subst h1;rcases h2 with h2|h2
         ·rcases hg with h3|h3
          ·exact absurd h3 (HNS.o g h2.1).2.2.2.2
          ·have:=(HNS.o g h2.1).2.1;omega
         ·rw[List.getElem?_append_right (by rw[HLS.o];exact Nat.le_refl _),HLS.o,Nat.sub_self] at hx;cases hx
          exact h2.2
        ·rcases h with h1|h1
         ·exact(HNS.o mb h1).2.2.1 rfl
         ·omega
        ·obtain⟨h1,h2⟩:=hf;simp only at h1;subst h1;rcases h2 with h2|h2
         ·rw[List.getElem?_append_right (by rw[HLW.o];exact Nat.le_refl _),HLW.o,Nat.sub_self] at hx;cases hx
          exact h2.2
         ·rcases hg with h3|h3
          ·exact absurd h2.1 (HNS.o g h3).2.2.2.2
          ·have:=(HNA.o g h2.1).2.1;omega
       simp only[List.take_succ_cons,List.take_zero,List.drop_succ_cons,List.drop_zero]
       repeat
        refine relAt_detU rfl rfl ?_
        apply Exists.intro
        refine⟨fun wr nr hg hJ=>?_,?_⟩
        ·clear hg;clear hJ;(go_simp;try go_bits)
         first|rfl|exact⟨rfl,rfl⟩
        simp only[Act.put,List.setIfInBounds_toArray,List.set_cons_succ,List.set_cons_zero]
       refine relAt_detU rfl rfl ?_
       apply Exists.intro
       refine⟨fun wr nr hg hJ=>?_,?_⟩
       ·have hA:=hJ.pre (hg.later 18 (by kernel_rfl));have qc:=(HB9.o.blk.ext hA.1 HCT.o).cell;have qcl:=(HB9.o.blk.ext hA.1 HCT.o).lt;clear hA hg;clear hJ;(go_simp;try go_bits)
        first|rfl|exact⟨rfl,rfl⟩
       simp only[Act.put,List.setIfInBounds_toArray,List.set_cons_succ,List.set_cons_zero]
       repeat
        refine relAt_detU rfl rfl ?_
        apply Exists.intro
        refine⟨fun wr nr hg hJ=>?_,?_⟩
        ·clear hg;clear hJ;(go_simp;try go_bits)
         first|rfl|exact⟨rfl,rfl⟩
        simp only[Act.put,List.setIfInBounds_toArray,List.set_cons_succ,List.set_cons_zero]
       refine rel_newK (sCells wj.heap.size [slV bw]) rfl rfl (by decide) (fun wr r hg hJ hf=>?_) ?_
       ·refine⟨wr.heap.size,.cells #[slV bw] 22,?_,hJ.all.size,cells_one _ _ _ ((Blk.new wr 22 #[slV bw]).cell 0)⟩
        (go_simp;try go_bits)
        first|rfl|exact⟨rfl,rfl⟩
       intro (b7:Nat);simp only[Act.put,List.setIfInBounds_toArray,List.set_cons_succ,List.set_cons_zero];refine rel_appK H2 b7 102 22 i0 _ 1 24 wv 0 1 (lw) [slV bw] (fun g=>wv.ownBlock=some g\/wj.heap.size<=g) _ _ (by decide) rfl rfl rfl (by kernel_rfl) hi0 hz0 hz1 hz2 rfl (by decide) rfl rfl rfl (fun u hu=>by rw[List.mem_singleton.1 hu];rfl) (fun w' r hg hJ hf=>?_) HBw.o (fun g hg hb=>.inl (List.mem_append.2 (.inl (Option.mem_toList.2 hg)))) (fun g hg=>hg.imp And.left id) (fun g j u hg hb hu=>?_) ?_ ?_ ?_
       ·have h18:=hg.later 18 (by kernel_rfl);have h7:(sCells wj.heap.size [slV bw]).V b7 w':=get_after hf 7 (by kernel_rfl);refine⟨h18,?_,h7.2⟩
        have h9:=own_rw HWR.o (hJ.pre h18).2 fun g i x y hg hx hy=>by
         have h1:=(List.getElem?_eq_some_iff.1 hx).1;rw[HLW.o] at h1;have h2:i=0:=hy.1;omega
        exact h9
       ·have h1:j=0:=by have:=(List.getElem?_eq_some_iff.1 hu).1;simp at this;exact this
        subst h1;cases hu
        exact⟨rfl,.inl ⟨hg,rfl⟩⟩
       ·unfold maxLen;omega
       ·omega
       intro u8;simp only[Act.put,List.setIfInBounds_toArray,List.set_cons_succ,List.set_cons_zero]
       repeat
        refine relAt_detU rfl rfl ?_
        apply Exists.intro
        refine⟨fun wr nr hg hJ=>?_,?_⟩
        ·clear hg;clear hJ;(go_simp;try go_bits)
         first|rfl|exact⟨rfl,rfl⟩
        simp only[Act.put,List.setIfInBounds_toArray,List.set_cons_succ,List.set_cons_zero]
       refine relAt_detU rfl rfl ?_
       apply Exists.intro
       refine⟨fun wr nr hg hJ=>?_,?_⟩
       ·have hA:=hJ.pre (hg.later 18 (by kernel_rfl));have qc:=(HB9.o.blk.ext hA.1 HCT.o).cell;have qcl:=(HB9.o.blk.ext hA.1 HCT.o).lt;clear hA hg;clear hJ;(go_simp;try go_bits)
        first|rfl|exact⟨rfl,rfl⟩
       simp only[Act.put,List.setIfInBounds_toArray,List.set_cons_succ,List.set_cons_zero]
       repeat
        refine relAt_detU rfl rfl ?_
        apply Exists.intro
        refine⟨fun wr nr hg hJ=>?_,?_⟩
        ·clear hg;clear hJ;(go_simp;try go_bits)
         first|rfl|exact⟨rfl,rfl⟩
        simp only[Act.put,List.setIfInBounds_toArray,List.set_cons_succ,List.set_cons_zero]
       refine rel_newK (sCells wj.heap.size [slV bs]) rfl rfl (by decide) (fun wr r hg hJ hf=>?_) ?_
       ·refine⟨wr.heap.size,.cells #[slV bs] 232,?_,hJ.all.size,cells_one _ _ _ ((Blk.new wr 232 #[slV bs]).cell 0)⟩
        (go_simp;try go_bits)
        first|rfl|exact⟨rfl,rfl⟩
       intro (b14:Nat);simp only[Act.put,List.setIfInBounds_toArray,List.set_cons_succ,List.set_cons_zero];refine rel_appK H2 b14 103 232 i1 _ 1 24 sv 0 1 ls [slV bs] (fun g=>sv.ownBlock=some g\/wj.heap.size<=g) _ _ (by decide) rfl rfl rfl (by kernel_rfl) hi1 hy0 hy1 hy2 rfl (by decide) rfl rfl rfl (fun u hu=>by rw[List.mem_singleton.1 hu];rfl) (fun w' r hg hJ hf=>?_) HBw.o (fun g hg hb=>.inl (List.mem_append.2 (.inr (Option.mem_toList.2 hg)))) (fun g hg=>hg.imp And.left id) (fun g j u hg hb hu=>?_) ?_ ?_ ?_
       ·have h18:=hg.later 18 (by kernel_rfl);have h7:(sCells wj.heap.size [slV bs]).V b14 w':=get_after hf 14 (by kernel_rfl);refine⟨h18,?_,h7.2⟩
        have h9:=own_rw HSR.o (hJ.pre h18).2 fun g i x y hg hx hy=>by
         have h1:=(List.getElem?_eq_some_iff.1 hx).1;rw[HLS.o] at h1;have h2:i=0:=hy.1;omega
        exact h9
       ·have h1:j=0:=by have:=(List.getElem?_eq_some_iff.1 hu).1;simp at this;exact this
        subst h1;cases hu
        exact⟨rfl,.inr ⟨hg,rfl⟩⟩
       ·unfold maxLen;omega
       ·omega
       intro u15;simp only[Act.put,List.setIfInBounds_toArray,List.set_cons_succ,List.set_cons_zero]
       repeat
        refine relAt_detU rfl rfl ?_
        apply Exists.intro
        refine⟨fun wr nr hg hJ=>?_,?_⟩
        ·clear hg;clear hJ;(go_simp;try go_bits)
         first|rfl|exact⟨rfl,rfl⟩
        simp only[Act.put,List.setIfInBounds_toArray,List.set_cons_succ,List.set_cons_zero]
       refine relAt_sayU _ rfl rfl (fun _=>rfl) (fun wr r hg hJ hf=>?_) ?_
       ·have hA:=hJ.pre hg.mine;have hB:=HB9.o.blk.ext hA.1 HCT.o;have h8:=get_after hf 8 (by kernel_rfl);have hE:Ext [mb] wr (wr.setCell ⟨mb,0,none⟩ (.slice (some ⟨u8.1,0,none⟩) (0+1:Nat) u8.2)):=Ext.setAt (.inl (by simp)) (Ext.refl _ _);have h9:(sRowA H2 22 1 0 (lw ++ [slV bw]) (fun g=>wv.ownBlock=some g\/wj.heap.size<=g)).V u8 wr:=h8;refine⟨u8,wr.setCell ⟨mb,0,none⟩ (.slice (some ⟨u8.1,0,none⟩) (0+1:Nat) u8.2),?_,⟨hB.set_' 0 _ _ rfl,own_ext h9.1 hE fun q hq hm=>?_,h9.2⟩,hJ.save hE,by unfold RK;rw[if_pos rfl];exact hE⟩
        ·have qc:=hB.cell;have qf:=hB.frozen;have qcl:=hB.lt;clear hJ hg hf hA hE h8 h9;(go_simp;try go_bits)
        ·cases hq
         have h1:=List.mem_singleton.1 hm;rcases h9.2 with h2|h2
         ·exact(HNS.o _ h2).2.2.1 h1
         ·have h3:u8.1=mb:=h1;have h4:wj.heap.size<=u8.1:=h2;omega
       intro (u18:Nat×Nat);simp only[Act.put,List.setIfInBounds_toArray,List.set_cons_succ,List.set_cons_zero];refine relAt_nilU (fun w15 r hr hJ hF=>?_)
       obtain⟨g8,c8⟩:=u18;obtain⟨g15,c15⟩:=u15;have h18:Blk w15 mb 176 #[.slice (some ⟨g8,0,none⟩) (0+1:Nat) c8,sv]/\(sRowA H2 22 1 0 (lw ++ [slV bw]) (fun g=>wv.ownBlock=some g\/wj.heap.size<=g)).V (g8,c8) w15:=hF 18;have h15:(sRowA H2 232 1 0 (ls ++ [slV bs]) (fun g=>sv.ownBlock=some g\/wj.heap.size<=g)).V (g15,c15) w15:=hF 15;have HB15:=hd h18.1;have HO8:Hd (w15.ownsRow H2 22 1 (.slice (some ⟨g8,0,none⟩) (0+1:Nat) c8) (0+1) (lw ++ [slV bw])):=hd h18.2.1;have HO15:Hd (w15.ownsRow H2 232 1 (.slice (some ⟨g15,0,none⟩) (0+1:Nat) c15) (0+1) (ls ++ [slV bs])):=hd h15.1;have HE15:=hd hJ.all;clear hF hJ hr h18 h15;dsimp only[sRowA];have qb:=HB15.o.cell;have qf:=HB15.o.frozen;have qbl:=HB15.o.lt;have HEF:=hd (Ext.setAt (b:=mb) (i:=1) (u:=.slice (some ⟨g15,0,none⟩) (0+1:Nat) c15) (.inl (by simp)) (Ext.refl [mb] w15));have HBF:=hd (HB15.o.set_' 1 (.slice (some ⟨g15,0,none⟩) (0+1:Nat) c15) #[.slice (some ⟨g8,0,none⟩) (0+1:Nat) c8,.slice (some ⟨g15,0,none⟩) (0+1:Nat) c15] rfl);have hg8:=own_base HO8.o g8 rfl;have hg15:=own_base HO15.o g15 rfl
       have HKEEP:Hd (∀(b:Nat) (t:TypeId) (C:Array Value),H2<=b->t=3\/t=4->Blk wj b t C->Blk (w15.setCell ⟨mb,1,none⟩ (.slice (some ⟨g15,0,none⟩) (0+1:Nat) c15)) b t C):=hd fun b t C hb ht hC=>by
        refine(hC.ext HE15.o fun hm=>?_).ext HEF.o (by rw[List.mem_singleton];omega)
        rcases List.mem_cons.1 hm with h1|h1
        ·omega
        ·rcases List.mem_append.1 h1 with h1|h1
         ·obtain⟨D,hD⟩:=own_blk HWR.o (Option.mem_toList.1 h1);have h9:=hC.type hD;rcases ht with h8|h8<;>(rw[h8] at h9;exact absurd h9 (by decide))
         ·obtain⟨D,hD⟩:=own_blk HSR.o (Option.mem_toList.1 h1);have h9:=hC.type hD;rcases ht with h8|h8<;>(rw[h8] at h9;exact absurd h9 (by decide))
       have HFIN:Hd (BegR H2 mb (0+1) (w15.setCell ⟨mb,1,none⟩ (.slice (some ⟨g15,0,none⟩) (0+1:Nat) c15)) (.slice (some ⟨g8,0,none⟩) (0+1:Nat) c8) (.slice (some ⟨g15,0,none⟩) (0+1:Nat) c15) (R ++ [(bw,bs)])):=hd (by
        refine⟨by rw[List.length_append,HB9.o.len];rfl,HBF.o,?_,?_,fun i x hx=>?_,fun x y hx hy=>?_⟩
        ·rw[<-HLWE.o];exact own_ext HO8.o HEF.o fun q hq=>by cases hq;rw[List.mem_singleton];show _≠_;simp only;omega
        ·rw[<-HLSE.o];exact own_ext HO15.o HEF.o fun q hq=>by cases hq;rw[List.mem_singleton];show _≠_;simp only;omega
        ·have hlen:=HB9.o.len;rcases Nat.lt_or_ge i 0 with h1|h1
         ·rw[List.getElem?_append_left (by omega)] at hx;obtain⟨a1,a2,a3,a4⟩:=HB9.o.row i x hx;exact⟨a1,a2,HKEEP.o _ _ _ a1 (.inl rfl) a3,HKEEP.o _ _ _ a2 (.inr rfl) a4⟩
         ·have h2:=(List.getElem?_eq_some_iff.1 hx).1;rw[List.length_append,List.length_singleton] at h2;have h3:i=0:=by omega
          subst h3;rw[List.getElem?_append_right (by omega),hlen,Nat.sub_self] at hx;cases hx
          exact⟨by omega,by omega,HKEEP.o _ _ _ (by omega) (.inl rfl) HWJ.o,HKEEP.o _ _ _ (by omega) (.inr rfl) HSJ.o⟩
        ·rw[List.getElem?_append_right (by rw[HB9.o.len];decide),HB9.o.len] at hy;cases hy)
       have HEXT:Hd (Ext [mb] w2 (w15.setCell ⟨mb,1,none⟩ (.slice (some ⟨g15,0,none⟩) (0+1:Nat) c15))):=hd (((HE.o.trans HEW.o.nil).step HE15.o fun x hx=>by
        rcases List.mem_cons.1 hx with h1|h1
        ·rw[h1];left;simp
        ·right
         rw[hH2];rcases List.mem_append.1 h1 with h1|h1
         ·exact(HNS.o x (Option.mem_toList.1 h1)).1
         ·exact(HNA.o x (Option.mem_toList.1 h1)).1).trans HEF.o)
       go_wp2_with fail
       go_roundw
       case rel=>exact⟨_,_,_,_,_,_,_,.int .i64 1,⟨1,rfl,by omega,_,_,_,HFIN⟩,rfl,rfl,rfl,rfl,rfl,rfl,rfl,rfl⟩
       case measure=>simp[intOf]<;>omega
    ·skip
     have qa:=HIq.o.bufs.cell;have qal:=HIq.o.bufs.lt;go_upto_region 14 with fail
     generalize hW:World.alloc w3 _=w4;have HE4:Hd (Ext [] w3 w4):=hd (by rw[<-hW];exact(Ext.refl [] w3).alloc _);have HC4:Hd (Blk w4 w3.heap.size 45 #[.string ⟨#[98]⟩,.int .i64 2,.bool false,.slice none 0 0]):=hd (by rw[<-hW];exact Blk.new w3 _ _);have hw4:w4.heap.size=w3.heap.size+1:=by rw[<-hW];exact alloc_size _ _
     clear hW qa qal;generalize hfb:w3.heap.size=fb at *;have hfm:H2<=fb:=by have:=HE.o.size;omega
     have HI4:=hd (HIq.o.ext HE4.o (by simp));have qi:=HI4.o.ins.cell;have qil:=HI4.o.ins.lt;go_wp2_with fail
     have HIV:=hd (iv_has none 0 0 [] 140 #[] (fun x=>!isWd x) w4 ⟨by simp,.inl rfl⟩ rfl ⟨enters_begOne,fun i y hy w' hw'=>begOne_any y w'⟩);rw[show([]:List Int).any (fun x=>!isWd x)=false by decide] at HIV;refine HIV.o.mono ?_
     rintro e w5 ⟨rfl,hE⟩;have HE5:=hd (HE4.o.trans hE);have HC5:=hd (HC4.o.ext hE (by simp));have hw5:=hE.size;clear hE HIV qi qil;have qb:=HC5.o.cell;have qbl:=HC5.o.lt;go_upto_region 16 with fail
     clear qb qbl;refine rgH 7 [(2,sMkI w5.heap.size),(5,sMkB w5.heap.size)] ?_ ?_
     ·refine Stays.cons sMkI.stays (Stays.cons sMkB.stays Stays.nil)
     simp only[List.take_succ_cons,List.take_zero,List.drop_succ_cons,List.drop_zero]
     repeat
      refine relAt_det rfl rfl ?_
      apply Exists.intro
      refine⟨fun wr nr hJ=>?_,?_⟩
      ·have qb:=(HC5.o.ext hJ.1 (by simp)).cell;have qbl:=(HC5.o.ext hJ.1 (by simp)).lt;clear hJ;(go_simp;try go_bits)
       first|rfl|exact⟨rfl,rfl⟩
      simp only[Act.put,List.setIfInBounds_toArray,List.set_cons_succ,List.set_cons_zero]
     refine rel_new (sMkI w5.heap.size) rfl rfl (fun wr nr hJ hf=>?_) ?_
     ·refine⟨wr.heap.size,.cells #[.int .i64 0,.int .i64 0] 3,?_,hJ.1.size,Blk.new _ _ _⟩
      have hmk:=mk_ints wr;(go_simp;try go_bits)
      rfl
     intro (bw:Nat);simp only[Act.put,List.setIfInBounds_toArray,List.set_cons_succ,List.set_cons_zero]
     repeat
      refine relAt_det rfl rfl ?_
      apply Exists.intro
      refine⟨fun wr nr hJ=>?_,?_⟩
      ·have qb:=(HC5.o.ext hJ.1 (by simp)).cell;have qbl:=(HC5.o.ext hJ.1 (by simp)).lt;clear hJ;(go_simp;try go_bits)
       first|rfl|exact⟨rfl,rfl⟩
      simp only[Act.put,List.setIfInBounds_toArray,List.set_cons_succ,List.set_cons_zero]
     refine rel_new (sMkB w5.heap.size) rfl rfl (fun wr nr hJ hf=>?_) ?_
     ·refine⟨wr.heap.size,.cells #[.bool false,.bool false] 4,?_,hJ.1.size,Blk.new _ _ _⟩
      have hmk:=mk_bools wr;(go_simp;try go_bits)
      rfl
     intro (bs:Nat);simp only[Act.put,List.setIfInBounds_toArray,List.set_cons_succ,List.set_cons_zero]
     repeat
      refine relAt_det rfl rfl ?_
      apply Exists.intro
      refine⟨fun wr nr hJ=>?_,?_⟩
      ·skip
       clear hJ;(go_simp;try go_bits)
       first|rfl|exact⟨rfl,rfl⟩
      simp only[Act.put,List.setIfInBounds_toArray,List.set_cons_succ,List.set_cons_zero]
     refine relAt_nil (fun w6 hJ hF=>?_)
     have HW6:Hd (w5.heap.size<=bw/\Blk w6 bw 3 #[.int .i64 0,.int .i64 0]):=hd (hF 2);have HS6:Hd (w5.heap.size<=bs/\Blk w6 bs 4 #[.bool false,.bool false]):=hd (hF 5);have HE6:=hd (HE5.o.trans hJ.1);have HC6:=hd (HC5.o.ext hJ.1 (by simp));clear hF hJ;dsimp only[sMkI,sMkB,slV];have HI6:=hd (HIq.o.ext HE6.o (by simp));have qb:=HC6.o.cell;have qbl:=HC6.o.lt;have qi:=HI6.o.ins.cell;have qil:=HI6.o.ins.lt;have hbw:=HW6.o.1;have hbs:=HS6.o.1;have hbb:bw≠bs:=HW6.o.2.apart HS6.o.2 (by decide);go_upto_region 18 with(refine wpList_copy_nothing rfl _ _ _ _ rfl 3 Tryz.underlying22 (by kernel_rfl) (some ⟨bw,0,none⟩) none 2 2 0 0 rfl rfl rfl ?_)
     go_upto_region 19 with(refine wpList_copy_nothing rfl _ _ _ _ rfl 3 Tryz.underlying22 (by kernel_rfl) (some ⟨bw,0,none⟩) none 2 2 0 0 rfl rfl rfl ?_)
     generalize hW:w6=w7 at *;have HW7:Hd (Blk w7 bw 3 (wq 1)):=hd HW6.o.2;have HE67:Hd (Ext [bw] w7 w7):=hd (Ext.refl _ _);have HE7:=hd HE6.o;clear qb qbl qi qil;have HRO:=hd HR.o;have hww:w3.heap.size<=w7.heap.size:=HE7.o.size;have HR7:Hd (BegR H2 mb 1 w7 wv sv R):=hd (HRO.o.far HE7.o);have HC7:Hd (Blk w7 fb 45 #[.string ⟨#[98]⟩,.int .i64 2,.bool false,.slice none 0 0]):=hd (HC6.o.ext HE67.o (by simp only[List.mem_singleton];omega));have HS7:Hd (Blk w7 bs 4 #[.bool false,.bool false]):=hd (HS6.o.2.ext HE67.o (by simp only[List.mem_singleton];exact Ne.symm hbb))
     have HRL:Hd (∀y∈R,y.1<fb/\y.2<fb):=hd fun y hy=>by
      obtain⟨i,hi⟩:=List.getElem?_of_mem hy;obtain⟨-,-,h3,h4⟩:=HR.o.row i y hi;have h5:=h3.lt;have h6:=h4.lt;exact⟨by omega,by omega⟩
     clear HC6 HE6 HW6 HI6 HRO HR;go_wp2_with fail
     go_loopw [91] (fun i wr=>∃j:Nat,i=.int .i64 j/\j<=2/\Hd (Ext [bs] w7 wr)/\Hd (Blk wr bs 4 (sq false j))) (fun i _=>(2-intOf i).toNat)
     case atStart=>exact⟨0,rfl,by omega,hd (Ext.refl _ _),hd (by simpa[sq] using HS7.o)⟩
     case round=>
      obtain⟨j,rfl,hj,HEJ,HSJ⟩:=hrel;rename World=>wj
      by_cases hjl:j<2
      ·have hj2:(j:Int)<2:=by omega
       have HCJ:=hd (HC7.o.ext HEJ.o (by simp only[List.mem_singleton];omega));have qb:=HCJ.o.cell 2;have qbl:=HCJ.o.lt;have qs:=HSJ.o.cell j;obtain⟨y0,hy0⟩:∃x,(sq false j)[j]? = some x:=⟨_,Array.getElem?_eq_getElem (show j<2 from hjl)⟩;rw[hy0] at qs;have qf:=HSJ.o.frozen;have qsl:=HSJ.o.lt;have HS8:Hd (Blk (wj.setCell ⟨bs,j,none⟩ (.bool false)) bs 4 (sq false (j+1))):=hd (HSJ.o.set_' j _ _ (sq_set false hjl));have HE8:=hd (Ext.setAt (b:=bs) (i:=j) (u:=.bool false) (.inl (by simp)) HEJ.o);clear hy0;go_wp2_with fail
       go_roundw
       case rel=>exact⟨j+1,by go_num,by omega,HE8,HS8⟩
       case measure=>simp[intOf];omega
      ·have hjm:j=2:=by omega
       subst hjm;have HMB:Hd (mb≠bs):=hd (by omega)
       have HB9:Hd (BegR H2 mb 1 wj wv sv R):=hd (HR7.o.ext HEJ.o (by rw[List.mem_singleton];exact HMB.o) (fun x hx h=>by
        rw[List.mem_singleton.1 hx];exact⟨⟨_,.inr HS7.o⟩,fun y hy=>by have:=HRL.o y hy;omega⟩) fun x hx=>by rw[List.mem_singleton.1 hx];omega)
       have HWJ:=hd (HW7.o.ext HEJ.o (by rw[List.mem_singleton];exact hbb));have HEW:Hd (Ext [] w3 wj):=hd (HE7.o.step HEJ.o fun x hx=>.inr (by rw[List.mem_singleton.1 hx];omega));have HWR:=hd HB9.o.wr;have HSR:=hd HB9.o.sr;have HLW:Hd ((R.map fun x=>slV x.1).length=1):=hd (by rw[List.length_map,HB9.o.len]);have HLS:Hd ((R.map fun x=>slV x.2).length=1):=hd (by rw[List.length_map,HB9.o.len]);have HLWE:Hd ((R.map fun(x:Nat×Nat)=>slV x.1) ++ [slV bw]=(R ++ [(bw,bs)]).map fun(x:Nat×Nat)=>slV x.1):=hd (by rw[List.map_append];rfl);have HLSE:Hd ((R.map fun(x:Nat×Nat)=>slV x.2) ++ [slV bs]=(R ++ [(bw,bs)]).map fun(x:Nat×Nat)=>slV x.2):=hd (by rw[List.map_append];rfl);generalize (R.map fun x=>slV x.1)=lw at *;generalize (R.map fun x=>slV x.2)=ls at *;have hmbj:mb<wj.heap.size:=HB9.o.blk.lt;have HBw:Hd (H2<=wj.heap.size):=hd (by have:=HEW.o.size;omega)
       have HNS:Hd (∀g,wv.ownBlock=some g->H2<=g/\g<wj.heap.size/\g≠mb/\True/\sv.ownBlock≠some g):=hd fun g hg=>by
        obtain⟨C,hC⟩:=own_blk HWR.o hg;have h1:=own_base HWR.o g hg;refine⟨h1,hC.lt,by omega,trivial,fun e=>?_⟩
        obtain⟨D,hD⟩:=own_blk HSR.o e;exact absurd (hC.type hD) (by decide)
       have HNA:Hd (∀g,sv.ownBlock=some g->H2<=g/\g<wj.heap.size/\g≠mb/\True):=hd fun g hg=>by
        obtain⟨C,hC⟩:=own_blk HSR.o hg;have h1:=own_base HSR.o g hg;exact⟨h1,hC.lt,by omega,trivial⟩
       obtain⟨i0,hi0,hz0,hz1,hz2⟩:=irwInfo;obtain⟨i1,hi1,hy0,hy1,hy2⟩:=brwInfo
       have HFT:Hd (∀i y,¬((Addr.mk mb i none).off=1/\((wv.ownBlock=some (Addr.mk mb i none).block/\y=slV bw)\/(sv.ownBlock=some (Addr.mk mb i none).block/\y=slV bs)))):=hd fun i y h=>by
        rcases h.2 with h1|h1
        ·exact(HNS.o mb h1.1).2.2.1 rfl
        ·exact(HNA.o mb h1.1).2.2.1 rfl
       have HCT:Hd (mb∉wv.ownBlock.toList ++ sv.ownBlock.toList):=hd fun h=>by
        rcases List.mem_append.1 h with h1|h1
        ·exact(HNS.o mb (Option.mem_toList.1 h1)).2.2.1 rfl
        ·exact(HNA.o mb (Option.mem_toList.1 h1)).2.2.1 rfl
       go_upto_region 24 with fail
       refine rgK 19 18 mb (wv.ownBlock.toList ++ sv.ownBlock.toList) (fun p y=>p.off=1/\((wv.ownBlock=some p.block/\y=slV bw)\/(sv.ownBlock=some p.block/\y=slV bs)))
        [(7,sCells wj.heap.size [slV bw]),(8,sRowA H2 22 1 1 (lw ++ [slV bw]) (fun g=>wv.ownBlock=some g\/wj.heap.size<=g)),
         (14,sCells wj.heap.size [slV bs]),(15,sRowA H2 232 1 1 (ls ++ [slV bs]) (fun g=>sv.ownBlock=some g\/wj.heap.size<=g)),
         (18,⟨Nat×Nat,(0,0),fun _=>undef,fun u w=>Blk w mb 176 #[.slice (some ⟨u.1,0,none⟩) (1+1:Nat) u.2,sv]/\(sRowA H2 22 1 1 (lw ++ [slV bw]) (fun g=>wv.ownBlock=some g\/wj.heap.size<=g)).V u w⟩)] rfl (by simp[kinds]) (fun oi h=>by cases h;rfl) ?_ ?_
       ·refine StaysK.done (StaysK.cons (sCells.staysK hmbj fun b j u y hb hu hf=>?_) (StaysK.cons (sRowA.staysK (fun h=>?_) fun g i x y hg hx hf=>?_) (StaysK.cons (sCells.staysK hmbj fun b j u y hb hu hf=>?_) (StaysK.cons (sRowA.staysK (fun h=>?_) fun g i x y hg hx hf=>?_) (StaysK.cons (fun j hj x w w' hR hV=>⟨hV.1.rw (hR.rw hj) HFT.o,sRowA.staysK (fun h=>?_) (fun g i x y hg hx hf=>?_) j hj x w w' hR hV.2⟩) StaysK.nil)))))
        ·rcases hf.2 with h1|h1
         ·have:=(HNS.o b h1.1).2.1;omega
         ·have:=(HNA.o b h1.1).2.1;omega
        ·rcases h with h1|h1
         ·exact(HNS.o mb h1).2.2.1 rfl
         ·omega
        ·obtain⟨h1,h2⟩:=hf;simp only at h1;subst h1;rcases h2 with h2|h2
         ·rw[List.getElem?_append_right (by rw[HLW.o];exact Nat.le_refl _),HLW.o,Nat.sub_self] at hx;cases hx
          exact h2.2
         ·rcases hg with h3|h3
          ·exact absurd h2.1 (HNS.o g h3).2.2.2.2
          ·have:=(HNA.o g h2.1).2.1;omega
        ·rcases hf.2 with h1|h1
         ·have:=(HNS.o b h1.1).2.1;omega
         ·have:=(HNA.o b h1.1).2.1;omega
        ·rcases h with h1|h1
         ·exact(HNA.o mb h1).2.2.1 rfl
         ·omega
        ·obtain⟨h1,h2⟩:=hf;simp only at h1;subst h1;rcases h2 with h2|h2
         ·rcases hg with h3|h3
          ·exact absurd h3 (HNS.o g h2.1).2.2.2.2
          ·have:=(HNS.o g h2.1).2.1;omega
         ·rw[List.getElem?_append_right (by rw[HLS.o];exact Nat.le_refl _),HLS.o,Nat.sub_self] at hx;cases hx
          exact h2.2
        ·rcases h with h1|h1
         ·exact(HNS.o mb h1).2.2.1 rfl
         ·omega
        ·obtain⟨h1,h2⟩:=hf;simp only at h1;subst h1;rcases h2 with h2|h2
         ·rw[List.getElem?_append_right (by rw[HLW.o];exact Nat.le_refl _),HLW.o,Nat.sub_self] at hx;cases hx
          exact h2.2
         ·rcases hg with h3|h3
          ·exact absurd h2.1 (HNS.o g h3).2.2.2.2
          ·have:=(HNA.o g h2.1).2.1;omega
       simp only[List.take_succ_cons,List.take_zero,List.drop_succ_cons,List.drop_zero]
       repeat
        refine relAt_detU rfl rfl ?_
        apply Exists.intro
        refine⟨fun wr nr hg hJ=>?_,?_⟩
        ·clear hg;clear hJ;(go_simp;try go_bits)
         first|rfl|exact⟨rfl,rfl⟩
        simp only[Act.put,List.setIfInBounds_toArray,List.set_cons_succ,List.set_cons_zero]
       refine relAt_detU rfl rfl ?_
       apply Exists.intro
       refine⟨fun wr nr hg hJ=>?_,?_⟩
       ·have hA:=hJ.pre (hg.later 18 (by kernel_rfl));have qc:=(HB9.o.blk.ext hA.1 HCT.o).cell;have qcl:=(HB9.o.blk.ext hA.1 HCT.o).lt;clear hA hg;clear hJ;(go_simp;try go_bits)
        first|rfl|exact⟨rfl,rfl⟩
       simp only[Act.put,List.setIfInBounds_toArray,List.set_cons_succ,List.set_cons_zero]
       repeat
        refine relAt_detU rfl rfl ?_
        apply Exists.intro
        refine⟨fun wr nr hg hJ=>?_,?_⟩
        ·clear hg;clear hJ;(go_simp;try go_bits)
         first|rfl|exact⟨rfl,rfl⟩
        simp only[Act.put,List.setIfInBounds_toArray,List.set_cons_succ,List.set_cons_zero]
       refine rel_newK (sCells wj.heap.size [slV bw]) rfl rfl (by decide) (fun wr r hg hJ hf=>?_) ?_
       ·refine⟨wr.heap.size,.cells #[slV bw] 22,?_,hJ.all.size,cells_one _ _ _ ((Blk.new wr 22 #[slV bw]).cell 0)⟩
        (go_simp;try go_bits)
        first|rfl|exact⟨rfl,rfl⟩
       intro (b7:Nat);simp only[Act.put,List.setIfInBounds_toArray,List.set_cons_succ,List.set_cons_zero];refine rel_appK H2 b7 102 22 i0 _ 1 24 wv 1 1 (lw) [slV bw] (fun g=>wv.ownBlock=some g\/wj.heap.size<=g) _ _ (by decide) rfl rfl rfl (by kernel_rfl) hi0 hz0 hz1 hz2 rfl (by decide) rfl rfl rfl (fun u hu=>by rw[List.mem_singleton.1 hu];rfl) (fun w' r hg hJ hf=>?_) HBw.o (fun g hg hb=>.inl (List.mem_append.2 (.inl (Option.mem_toList.2 hg)))) (fun g hg=>hg.imp And.left id) (fun g j u hg hb hu=>?_) ?_ ?_ ?_
       ·have h18:=hg.later 18 (by kernel_rfl);have h7:(sCells wj.heap.size [slV bw]).V b7 w':=get_after hf 7 (by kernel_rfl);refine⟨h18,?_,h7.2⟩
        have h9:=own_rw HWR.o (hJ.pre h18).2 fun g i x y hg hx hy=>by
         have h1:=(List.getElem?_eq_some_iff.1 hx).1;rw[HLW.o] at h1;have h2:i=1:=hy.1;omega
        exact h9
       ·have h1:j=0:=by have:=(List.getElem?_eq_some_iff.1 hu).1;simp at this;exact this
        subst h1;cases hu
        exact⟨rfl,.inl ⟨hg,rfl⟩⟩
       ·unfold maxLen;omega
       ·omega
       intro u8;simp only[Act.put,List.setIfInBounds_toArray,List.set_cons_succ,List.set_cons_zero]
       repeat
        refine relAt_detU rfl rfl ?_
        apply Exists.intro
        refine⟨fun wr nr hg hJ=>?_,?_⟩
        ·clear hg;clear hJ;(go_simp;try go_bits)
         first|rfl|exact⟨rfl,rfl⟩
        simp only[Act.put,List.setIfInBounds_toArray,List.set_cons_succ,List.set_cons_zero]
       refine relAt_detU rfl rfl ?_
       apply Exists.intro
       refine⟨fun wr nr hg hJ=>?_,?_⟩
       ·have hA:=hJ.pre (hg.later 18 (by kernel_rfl));have qc:=(HB9.o.blk.ext hA.1 HCT.o).cell;have qcl:=(HB9.o.blk.ext hA.1 HCT.o).lt;clear hA hg;clear hJ;(go_simp;try go_bits)
        first|rfl|exact⟨rfl,rfl⟩
       simp only[Act.put,List.setIfInBounds_toArray,List.set_cons_succ,List.set_cons_zero]
       repeat
        refine relAt_detU rfl rfl ?_
        apply Exists.intro
        refine⟨fun wr nr hg hJ=>?_,?_⟩
        ·clear hg;clear hJ;(go_simp;try go_bits)
         first|rfl|exact⟨rfl,rfl⟩
        simp only[Act.put,List.setIfInBounds_toArray,List.set_cons_succ,List.set_cons_zero]
       refine rel_newK (sCells wj.heap.size [slV bs]) rfl rfl (by decide) (fun wr r hg hJ hf=>?_) ?_
       ·refine⟨wr.heap.size,.cells #[slV bs] 232,?_,hJ.all.size,cells_one _ _ _ ((Blk.new wr 232 #[slV bs]).cell 0)⟩
        (go_simp;try go_bits)
        first|rfl|exact⟨rfl,rfl⟩
       intro (b14:Nat);simp only[Act.put,List.setIfInBounds_toArray,List.set_cons_succ,List.set_cons_zero];refine rel_appK H2 b14 103 232 i1 _ 1 24 sv 1 1 ls [slV bs] (fun g=>sv.ownBlock=some g\/wj.heap.size<=g) _ _ (by decide) rfl rfl rfl (by kernel_rfl) hi1 hy0 hy1 hy2 rfl (by decide) rfl rfl rfl (fun u hu=>by rw[List.mem_singleton.1 hu];rfl) (fun w' r hg hJ hf=>?_) HBw.o (fun g hg hb=>.inl (List.mem_append.2 (.inr (Option.mem_toList.2 hg)))) (fun g hg=>hg.imp And.left id) (fun g j u hg hb hu=>?_) ?_ ?_ ?_
       ·have h18:=hg.later 18 (by kernel_rfl);have h7:(sCells wj.heap.size [slV bs]).V b14 w':=get_after hf 14 (by kernel_rfl);refine⟨h18,?_,h7.2⟩
        have h9:=own_rw HSR.o (hJ.pre h18).2 fun g i x y hg hx hy=>by
         have h1:=(List.getElem?_eq_some_iff.1 hx).1;rw[HLS.o] at h1;have h2:i=1:=hy.1;omega
        exact h9
       ·have h1:j=0:=by have:=(List.getElem?_eq_some_iff.1 hu).1;simp at this;exact this
        subst h1;cases hu
        exact⟨rfl,.inr ⟨hg,rfl⟩⟩
       ·unfold maxLen;omega
       ·omega
       intro u15;simp only[Act.put,List.setIfInBounds_toArray,List.set_cons_succ,List.set_cons_zero]
       repeat
        refine relAt_detU rfl rfl ?_
        apply Exists.intro
        refine⟨fun wr nr hg hJ=>?_,?_⟩
        ·clear hg;clear hJ;(go_simp;try go_bits)
         first|rfl|exact⟨rfl,rfl⟩
        simp only[Act.put,List.setIfInBounds_toArray,List.set_cons_succ,List.set_cons_zero]
       refine relAt_sayU _ rfl rfl (fun _=>rfl) (fun wr r hg hJ hf=>?_) ?_
       ·have hA:=hJ.pre hg.mine;have hB:=HB9.o.blk.ext hA.1 HCT.o;have h8:=get_after hf 8 (by kernel_rfl);have hE:Ext [mb] wr (wr.setCell ⟨mb,0,none⟩ (.slice (some ⟨u8.1,0,none⟩) (1+1:Nat) u8.2)):=Ext.setAt (.inl (by simp)) (Ext.refl _ _);have h9:(sRowA H2 22 1 1 (lw ++ [slV bw]) (fun g=>wv.ownBlock=some g\/wj.heap.size<=g)).V u8 wr:=h8;refine⟨u8,wr.setCell ⟨mb,0,none⟩ (.slice (some ⟨u8.1,0,none⟩) (1+1:Nat) u8.2),?_,⟨hB.set_' 0 _ _ rfl,own_ext h9.1 hE fun q hq hm=>?_,h9.2⟩,hJ.save hE,by unfold RK;rw[if_pos rfl];exact hE⟩
        ·have qc:=hB.cell;have qf:=hB.frozen;have qcl:=hB.lt;clear hJ hg hf hA hE h8 h9;(go_simp;try go_bits)
        ·cases hq
         have h1:=List.mem_singleton.1 hm;rcases h9.2 with h2|h2
         ·exact(HNS.o _ h2).2.2.1 h1
         ·have h3:u8.1=mb:=h1;have h4:wj.heap.size<=u8.1:=h2;omega
       intro (u18:Nat×Nat);simp only[Act.put,List.setIfInBounds_toArray,List.set_cons_succ,List.set_cons_zero];refine relAt_nilU (fun w15 r hr hJ hF=>?_)
       obtain⟨g8,c8⟩:=u18;obtain⟨g15,c15⟩:=u15;have h18:Blk w15 mb 176 #[.slice (some ⟨g8,0,none⟩) (1+1:Nat) c8,sv]/\(sRowA H2 22 1 1 (lw ++ [slV bw]) (fun g=>wv.ownBlock=some g\/wj.heap.size<=g)).V (g8,c8) w15:=hF 18;have h15:(sRowA H2 232 1 1 (ls ++ [slV bs]) (fun g=>sv.ownBlock=some g\/wj.heap.size<=g)).V (g15,c15) w15:=hF 15;have HB15:=hd h18.1;have HO8:Hd (w15.ownsRow H2 22 1 (.slice (some ⟨g8,0,none⟩) (1+1:Nat) c8) (1+1) (lw ++ [slV bw])):=hd h18.2.1;have HO15:Hd (w15.ownsRow H2 232 1 (.slice (some ⟨g15,0,none⟩) (1+1:Nat) c15) (1+1) (ls ++ [slV bs])):=hd h15.1;have HE15:=hd hJ.all;clear hF hJ hr h18 h15;dsimp only[sRowA];have qb:=HB15.o.cell;have qf:=HB15.o.frozen;have qbl:=HB15.o.lt;have HEF:=hd (Ext.setAt (b:=mb) (i:=1) (u:=.slice (some ⟨g15,0,none⟩) (1+1:Nat) c15) (.inl (by simp)) (Ext.refl [mb] w15));have HBF:=hd (HB15.o.set_' 1 (.slice (some ⟨g15,0,none⟩) (1+1:Nat) c15) #[.slice (some ⟨g8,0,none⟩) (1+1:Nat) c8,.slice (some ⟨g15,0,none⟩) (1+1:Nat) c15] rfl);have hg8:=own_base HO8.o g8 rfl;have hg15:=own_base HO15.o g15 rfl
       have HKEEP:Hd (∀(b:Nat) (t:TypeId) (C:Array Value),H2<=b->t=3\/t=4->Blk wj b t C->Blk (w15.setCell ⟨mb,1,none⟩ (.slice (some ⟨g15,0,none⟩) (1+1:Nat) c15)) b t C):=hd fun b t C hb ht hC=>by
        refine(hC.ext HE15.o fun hm=>?_).ext HEF.o (by rw[List.mem_singleton];omega)
        rcases List.mem_cons.1 hm with h1|h1
        ·omega
        ·rcases List.mem_append.1 h1 with h1|h1
         ·obtain⟨D,hD⟩:=own_blk HWR.o (Option.mem_toList.1 h1);have h9:=hC.type hD;rcases ht with h8|h8<;>(rw[h8] at h9;exact absurd h9 (by decide))
         ·obtain⟨D,hD⟩:=own_blk HSR.o (Option.mem_toList.1 h1);have h9:=hC.type hD;rcases ht with h8|h8<;>(rw[h8] at h9;exact absurd h9 (by decide))
       have HFIN:Hd (BegR H2 mb (1+1) (w15.setCell ⟨mb,1,none⟩ (.slice (some ⟨g15,0,none⟩) (1+1:Nat) c15)) (.slice (some ⟨g8,0,none⟩) (1+1:Nat) c8) (.slice (some ⟨g15,0,none⟩) (1+1:Nat) c15) (R ++ [(bw,bs)])):=hd (by
        refine⟨by rw[List.length_append,HB9.o.len];rfl,HBF.o,?_,?_,fun i x hx=>?_,fun x y hx hy=>?_⟩
        ·rw[<-HLWE.o];exact own_ext HO8.o HEF.o fun q hq=>by cases hq;rw[List.mem_singleton];show _≠_;simp only;omega
        ·rw[<-HLSE.o];exact own_ext HO15.o HEF.o fun q hq=>by cases hq;rw[List.mem_singleton];show _≠_;simp only;omega
        ·have hlen:=HB9.o.len;rcases Nat.lt_or_ge i 1 with h1|h1
         ·rw[List.getElem?_append_left (by omega)] at hx;obtain⟨a1,a2,a3,a4⟩:=HB9.o.row i x hx;exact⟨a1,a2,HKEEP.o _ _ _ a1 (.inl rfl) a3,HKEEP.o _ _ _ a2 (.inr rfl) a4⟩
         ·have h2:=(List.getElem?_eq_some_iff.1 hx).1;rw[List.length_append,List.length_singleton] at h2;have h3:i=1:=by omega
          subst h3;rw[List.getElem?_append_right (by omega),hlen,Nat.sub_self] at hx;cases hx
          exact⟨by omega,by omega,HKEEP.o _ _ _ (by omega) (.inl rfl) HWJ.o,HKEEP.o _ _ _ (by omega) (.inr rfl) HSJ.o⟩
        ·rw[List.getElem?_append_left (by rw[HB9.o.len];decide)] at hx;rw[List.getElem?_append_right (by rw[HB9.o.len];decide),HB9.o.len] at hy;cases hy;have h9:=HRL.o x (List.mem_of_getElem? hx);exact⟨by simp only;omega,by simp only;omega⟩)
       have HEXT:Hd (Ext [mb] w2 (w15.setCell ⟨mb,1,none⟩ (.slice (some ⟨g15,0,none⟩) (1+1:Nat) c15))):=hd (((HE.o.trans HEW.o.nil).step HE15.o fun x hx=>by
        rcases List.mem_cons.1 hx with h1|h1
        ·rw[h1];left;simp
        ·right
         rw[hH2];rcases List.mem_append.1 h1 with h1|h1
         ·exact(HNS.o x (Option.mem_toList.1 h1)).1
         ·exact(HNA.o x (Option.mem_toList.1 h1)).1).trans HEF.o)
       go_wp2_with fail
       go_roundw
       case rel=>exact⟨_,_,_,_,_,_,_,.int .i64 2,⟨2,rfl,by omega,_,_,_,HFIN⟩,rfl,rfl,rfl,rfl,rfl,rfl,rfl,rfl⟩
       case measure=>simp[intOf]<;>omega
    ·go_wp2_with fail
     go_ret2
     exact⟨mb,H2,wv,sv,R,rfl,HXB.o,by omega,by omega,HR.o⟩
end Go.Proofs.YtfppibmloloakaaGreatDoor
