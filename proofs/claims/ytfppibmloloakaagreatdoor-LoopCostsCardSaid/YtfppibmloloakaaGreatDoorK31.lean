import Derived.Test.YtfppibmloloakaaGreatDoorK30
namespace Go.Proofs.YtfppibmloloakaaGreatDoor
open Go.RowKit Go.Proofs.Tryz
set_option linter.all false
set_option maxHeartbeats 64000000
theorem Nl:∀args w,(callFunc 140 args).run prog w=.ok (.enter 140 args) w:=by
 obtain⟨c,hc⟩:∃c,Tryz.f140.body=some c:=⟨_,rfl⟩;exact fun args w=>enters_of func140 (by kernel_rfl) hc args w
set_option maxRecDepth 100000 in
theorem Tf (x:Int)(w:World):Calls prog 140 (#[.int .i64 x] ++ #[]) w (Fk (!Dt x) w):=by
 go_enter func140,ntmps140
 go_wp2_with fail
 refine(Kr x _).mono ?_
 rintro e w5 ⟨rfl,rfl⟩;go_wp2_with fail
 go_ret
 exact⟨rfl,jF _ _⟩
theorem Ac8:∃i,prog.info? 22=some i/\i.zero=some (.slice none 0 0)/\i.size=1/\i.bytes=24:=info_parts (show((prog).info? 22).map (fun i=>(i.zero,i.size,i.bytes))=some (some (.slice none 0 0),1,24) by kernel_rfl)
theorem Ac9:∃i,prog.info? 232=some i/\i.zero=some (.slice none 0 0)/\i.size=1/\i.bytes=24:=info_parts (show((prog).info? 232).map (fun i=>(i.zero,i.size,i.bytes))=some (some (.slice none 0 0),1,24) by kernel_rfl)
structure Aev (w:World)(ab ib vb:Nat):Prop where
 bufs:Blk w ab 45 #[.string ⟨#[97]⟩,(2:Int),.bool true,.slice none 0 0,.string ⟨#[98]⟩,(2:Int),.bool false,.slice none 0 0]
 ins:Blk w ib 22 #[.slice (some vb) 2 2,.slice none 0 0]
 wds:Blk w vb 3 #[(4:Int),(5:Int)]
theorem Aev.ext {w w':World}{ab ib vb:Nat}(h:Aev w ab ib vb){S:List Nat}(hE:Ext S w w')(hS:ab∉S/\ib∉S/\vb∉S):Aev w' ab ib vb:=⟨h.bufs.ext hE hS.1,h.ins.ext hE hS.2.1,h.wds.ext hE hS.2.2⟩
def wq (i:Nat):Array Value:=if i=0 then #[(4:Int),(5:Int)] else #[(0:Int),(0:Int)]
def sq (f:Bool)(j:Nat):Array Value:=#[.bool (f&&decide (0<j)),.bool (f&&decide (1<j))]
def slV (b:Nat):Value:=.slice (some b) 2 2
structure Me (H mb k:Nat)(w:World)(wv sv:Value)(R:List (Nat×Nat)):Prop where
 len:R.length=k
 blk:Blk w mb 176 #[wv,sv]
 wr:w.ownsRow H 22 1 wv k (R.map fun x=>slV x.1)
 sr:w.ownsRow H 232 1 sv k (R.map fun x=>slV x.2)
 row:∀(i:Nat) (x:Nat×Nat),R[i]? = some x->H<=x.1/\H<=x.2/\Blk w x.1 3 (wq i)/\Blk w x.2 4 (sq (decide (i=0)) 2)
 apart:∀(x y:Nat×Nat),R[0]? = some x->R[1]? = some y->x.1≠y.1/\x.2≠y.2
theorem Me.ext {H mb k:Nat}{w w':World}{wv sv:Value}{R:List (Nat×Nat)}(h:Me H mb k w wv sv R){S:List Nat}(hE:Ext S w w')(hm:mb∉S)(hb:∀x∈S,H<=x->(∃C,Blk w x 3 C\/Blk w x 4 C)/\∀y∈R,x≠y.1/\x≠y.2)(hH:∀x∈S,H<=x):Me H mb k w' wv sv R:=by
 refine⟨h.len,h.blk.ext hE hm,Ah h.wr hE fun q hq hx=>?_,Ah h.sr hE fun q hq hx=>?_,fun i x hx=>?_,h.apart⟩
 ·obtain⟨C,hC⟩:=Cl h.wr hq;obtain⟨⟨D,hD|hD⟩,-⟩:=hb q hx (hH q hx)
  ·exact absurd (hC.type hD) (by decide)
  ·exact absurd (hC.type hD) (by decide)
 ·obtain⟨C,hC⟩:=Cl h.sr hq;obtain⟨⟨D,hD|hD⟩,-⟩:=hb q hx (hH q hx)
  ·exact absurd (hC.type hD) (by decide)
  ·exact absurd (hC.type hD) (by decide)
 ·obtain⟨h1,h2,h3,h4⟩:=h.row i x hx;have hm:=ilm hx;exact⟨h1,h2,h3.ext hE fun hs=>((hb _ hs (hH _ hs)).2 x hm).1 rfl,h4.ext hE fun hs=>((hb _ hs (hH _ hs)).2 x hm).2 rfl⟩
theorem Me.far {H mb k:Nat}{w w':World}{wv sv:Value}{R:List (Nat×Nat)}(h:Me H mb k w wv sv R)(hE:Ext [] w w'):Me H mb k w' wv sv R:=h.ext hE (by simp) (by simp) (by simp)
theorem Ahl (f:Bool){j:Nat}(h:j<2):(sq f j).setIfInBounds j (.bool f)=sq f (j+1):=by
 have:j=0\/j=1:=by omega
 rcases this with rfl|rfl<;>cases f<;>rfl
def Tg (H:Nat):Ba:=⟨Nat,0,fun b=>slV b,fun b w=>H<=b/\Blk w b 3 #[(0:Int),(0:Int)]⟩
def Th (H:Nat):Ba:=⟨Nat,0,fun b=>slV b,fun b w=>H<=b/\Blk w b 4 #[.bool false,.bool false]⟩
theorem Tg.stays {H:Nat}:∀y w w',RH [] w w'->(Tg H).V y w->(Tg H).V y w':=fun _ w w' h k=>⟨k.1,Blk.ext k.2 h.1 jH⟩
theorem Th.stays {H:Nat}:∀y w w',RH [] w w'->(Th H).V y w->(Th H).V y w':=fun _ w w' h k=>⟨k.1,Blk.ext k.2 h.1 jH⟩
theorem Ada (w:World):(Instr.makeSlice 22 (.int .i64 2) (.int .i64 2)).run prog w=.ok (slV w.heap.size) (w.alloc (.cells #[(0:Int),(0:Int)] 3)):=by kernel_rfl
theorem Zm (w:World):(Instr.makeSlice 232 (.int .i64 2) (.int .i64 2)).run prog w=.ok (slV w.heap.size) (w.alloc (.cells #[.bool false,.bool false] 4)):=by kernel_rfl
theorem Alb {w:World}{vb:Nat}(h:Blk w vb 3 #[(4:Int),(5:Int)]):Ak w (some vb) 1 inC [4,5]:=⟨by simp,.inr ⟨vb,rfl,fun i x hx j v hv=>by
 have h1:=(ils hx).1
 have h2:j=0:=by
  have:=(ils hv).1;simp[inC] at this;exact this
 subst h2;rw[h.cell];simp only[List.length_cons,List.length_nil] at h1;have:i=0\/i=1:=by omega
 rcases this with rfl|rfl<;>(cases hx;cases hv;rfl)⟩⟩
attribute [local irreducible] Bj
set_option maxRecDepth 100000 in
theorem Abs (ab ib vb:Nat)(w:World)(hB:Aev w ab ib vb) :
  Calls prog 94 #[.slice (some ab) 2 2,.slice (some ib) 2 2] w fun e w'=>∃(mb H:Nat) (wv sv:Value) (R:List (Nat×Nat)),e=.returned (.tuple #[.pointer (some mb),(0:Int)])/\Ext [] w w'/\w.heap.size<=mb/\mb<H/\Me H mb 2 w' wv sv R:=by
 have br:=hd hB;have bN:=hB.bufs.lt;have bO:=hB.ins.lt;have bP:=hB.wds.lt;clear hB;have bx:=hd ((jF [] w).alloc (.cells #[.slice none 0 0,.slice none 0 0] 176));go_enter func94,ntmps94
 go_upto_region 4 with fail
 generalize hW:World.alloc w _=w1;have bt:Hd (Ext [] w w1):=hd (by rw[<-hW];exact(jF [] w).alloc _);have bz:Hd (Blk w1 w.heap.size 176 #[.slice none 0 0,.slice none 0 0]):=hd (by rw[<-hW];exact jK w _ _);have bQ:w1.heap.size=w.heap.size+1:=by rw[<-hW];exact Ag _ _
 clear hW bx;generalize bS:w.heap.size=mb at *;go_wp2_with fail
 go_loopw [24] (fun i wr=>∃k:Nat,i=.int .i64 k/\k<=2/\Hd (Ext [] w1 wr)) (fun i _=>(2-intOf i).toNat)
 case atStart=>exact⟨0,rfl,by omega,hd (jF _ _)⟩
 case round=>
  obtain⟨k,rfl,hk,HE⟩:=hrel;rename World=>wq1
  have ah:=hd (br.o.ext (bt.o.trans HE.o) (by simp));have qa:=ah.o.bufs.cell;have aG:=ah.o.bufs.lt;have qi:=ah.o.ins.cell;have aj:=ah.o.ins.lt;have b1:k=0\/k=1\/k=2:=by omega
  rcases b1 with rfl|rfl|rfl
  ·skip
   go_upto_region 8 with fail
   generalize hW:World.alloc wq1 _=w4;have am:Hd (Ext [] wq1 w4):=hd (by rw[<-hW];exact(jF [] wq1).alloc _);have aA:Hd (Blk w4 wq1.heap.size 45 #[.string ⟨#[97]⟩,(2:Int),.bool true,.slice none 0 0]):=hd (by rw[<-hW];exact jK wq1 _ _);clear hW qa aG qi aj;have al:=hd (ah.o.ext am.o (by simp));have qi:=al.o.ins.cell;have aj:=al.o.ins.lt;have qb:=aA.o.cell;have af:=aA.o.lt;have b2:Hd (∀n,Ext [] w1 (w4.drewN n)):=hd fun n=>(HE.o.trans am.o).drewN n
   go_quiet (fail)
   go_wp2_with fail
   go_roundw
   case rel=>exact⟨1,by go_num,by omega,hd (b2.o _)⟩
   case measure=>simp[intOf]
  ·skip
   go_upto_region 8 with fail
   generalize hW:World.alloc wq1 _=w4;have am:Hd (Ext [] wq1 w4):=hd (by rw[<-hW];exact(jF [] wq1).alloc _);have aA:Hd (Blk w4 wq1.heap.size 45 #[.string ⟨#[98]⟩,(2:Int),.bool false,.slice none 0 0]):=hd (by rw[<-hW];exact jK wq1 _ _);clear hW qa aG qi aj;have al:=hd (ah.o.ext am.o (by simp));have qi:=al.o.ins.cell;have aj:=al.o.ins.lt;have qb:=aA.o.cell;have af:=aA.o.lt;have b2:Hd (∀n,Ext [] w1 (w4.drewN n)):=hd fun n=>(HE.o.trans am.o).drewN n
   go_quiet (fail)
   go_wp2_with fail
   go_roundw
   case rel=>exact⟨2,by go_num,by omega,hd (b2.o _)⟩
   case measure=>simp[intOf]
  ·go_wp2_with fail
   clear qa aG qi aj hk;have bA:=hd (bt.o.trans HE.o);have bB:=hd (bz.o.ext HE.o (by simp));have bR:mb+1<=wq1.heap.size:=by have:=HE.o.size;omega
   clear HE ah;rename World=>w2
   generalize bv:w2.heap.size=H2 at *;have bC:=hd (show Me H2 mb 0 w2 (.slice none 0 0) (.slice none 0 0) [] from⟨rfl,bB.o,Cm _ _ _ _,Cm _ _ _ _,fun i x hx=>by simp at hx,fun x y hx=>by simp at hx⟩);go_loopw [63] (fun i wr=>∃(k:Nat) (wv sv:Value) (R:List (Nat×Nat)),i=.int .i64 k/\k<=2/\Hd (Ext [mb] w2 wr)/\Hd (Me H2 mb k wr wv sv R)) (fun i _=>(2-intOf i).toNat)
   case atStart=>exact⟨0,_,_,_,rfl,by omega,hd (jF _ _),bC⟩
   case round=>
    obtain⟨k,wv,sv,R,rfl,hk,HE,HR⟩:=hrel;rename World=>w3
    have bu:Hd (Ext [] w w3):=hd (Ea bA.o HE.o fun x hx=>by rw[jA.1 hx];omega);have ah:=hd (br.o.ext bu.o (by simp));have b1:k=0\/k=1\/k=2:=by omega
    rcases b1 with rfl|rfl|rfl
    ·skip
     have qa:=ah.o.bufs.cell;have aG:=ah.o.bufs.lt;go_upto_region 14 with fail
     generalize hW:World.alloc w3 _=w4;have am:Hd (Ext [] w3 w4):=hd (by rw[<-hW];exact(jF [] w3).alloc _);have aA:Hd (Blk w4 w3.heap.size 45 #[.string ⟨#[97]⟩,(2:Int),.bool true,.slice none 0 0]):=hd (by rw[<-hW];exact jK w3 _ _);have bD:w4.heap.size=w3.heap.size+1:=by rw[<-hW];exact Ag _ _
     clear hW qa aG;generalize bM:w3.heap.size=fb at *;have bE:H2<=fb:=by have:=HE.o.size;omega
     have al:=hd (ah.o.ext am.o (by simp));have qi:=al.o.ins.cell;have aj:=al.o.ins.lt;go_wp2_with fail
     have aH:=hd (Wc (some vb) 2 2 [4,5] 140 #[] (fun x=>!Dt x) w4 (Alb al.o.wds) rfl ⟨Nl,fun i y hy w' hw'=>Tf y w'⟩);rw[show([4,5]:List Int).any (fun x=>!Dt x)=false by decide] at aH;refine aH.o.mono ?_
     rintro e w5 ⟨rfl,hE⟩;have b3:=hd (am.o.trans hE);have ai:=hd (aA.o.ext hE (by simp));have bF:=hE.size;clear hE aH qi aj;have qb:=ai.o.cell;have af:=ai.o.lt;go_upto_region 16 with fail
     clear qb af;refine rgH 7 [(2,Tg w5.heap.size),(5,Th w5.heap.size)] ?_ ?_
     ·refine Am.cons Tg.stays (Am.cons Th.stays Am.nil)
     simp only[TK]
     repeat(refine dE (fun wr nr hJ=>by(have qb:=(ai.o.ext hJ.1 (by simp)).cell;have af:=(ai.o.ext hJ.1 (by simp)).lt);clear hJ;exact CL) ?_;simp only[PT])
     refine Gi (Tg w5.heap.size) rfl rfl (fun wr nr hJ hf=>?_) ?_
     ·refine⟨wr.heap.size,.cells #[(0:Int),(0:Int)] 3,?_,hJ.1.size,jK _ _ _⟩
      have b4:=Ada wr;(go_simp;try go_bits)
      rfl
     intro (bw:Nat);simp only[PT]
     repeat(refine dE (fun wr nr hJ=>by(have qb:=(ai.o.ext hJ.1 (by simp)).cell;have af:=(ai.o.ext hJ.1 (by simp)).lt);clear hJ;exact CL) ?_;simp only[PT])
     refine Gi (Th w5.heap.size) rfl rfl (fun wr nr hJ hf=>?_) ?_
     ·refine⟨wr.heap.size,.cells #[.bool false,.bool false] 4,?_,hJ.1.size,jK _ _ _⟩
      have b4:=Zm wr;(go_simp;try go_bits)
      rfl
     intro (bs:Nat);simp only[PT]
     repeat(refine dE (fun wr nr hJ=>by clear hJ;exact CL) ?_;simp only[PT])
     refine Aj (fun w6 hJ hF=>?_)
     have az:Hd (w5.heap.size<=bw/\Blk w6 bw 3 #[(0:Int),(0:Int)]):=hd (hF 2);have aI:Hd (w5.heap.size<=bs/\Blk w6 bs 4 #[.bool false,.bool false]):=hd (hF 5);have aJ:=hd (b3.o.trans hJ.1);have aB:=hd (ai.o.ext hJ.1 (by simp));clear hF hJ;dsimp only[Tg,Th,slV];have aF:=hd (ah.o.ext aJ.o (by simp));have qb:=aB.o.cell;have af:=aB.o.lt;have qi:=aF.o.ins.cell;have aj:=aF.o.ins.lt;have bG:=az.o.1;have bH:=aI.o.1;have aQ:bw≠bs:=az.o.2.apart aI.o.2 (by decide);go_upto_region 18 with(refine wpList_copy_nothing rfl _ _ _ _ rfl 3 underlying22 (by kernel_rfl) (some bw) none 2 2 0 0 rfl rfl rfl ?_)
     go_upto_region 19 with(
      refine wpList_copy_own rfl _ _ _ _ rfl 3 underlying22 (by kernel_rfl) bw 0 2 2 ⟨vb,0,none⟩ 2 2 rfl rfl #[(0:Int),(0:Int)] 3 az.o.2 [.int .i64 4,.int .i64 5] rfl ?c1 (by decide) ?c2 ?_
      case c1=>
       intro j v hv;rw[Addr.add_lit,Nat.zero_add,aF.o.wds.cell];simpa using hv
      case c2=>intro v hv;simp only[jE,jH,or_false] at hv;rcases hv with rfl|rfl<;>rfl)
     generalize hW:World.setRow w6 bw _=w7;have b5:Hd (Blk w7 bw 3 (wq 0)):=hd (by rw[<-hW];exact setRow_heap w6 bw _ _ _ (0,0) az.o.2);have ak:Hd (Ext [bw] w6 w7):=hd (by rw[<-hW];exact⟨rfl,rfl,rfl,by simp[World.setRow],fun i _ hi=>setRow_other _ _ i _ (by simpa using hi)⟩);clear hW;have aK:Hd (Ext [] w3 w7):=hd (aJ.o.step ak.o fun x hx=>.inr (by rw[jA.1 hx];omega));clear qb af qi aj;have aR:=hd HR.o;have bI:w3.heap.size<=w7.heap.size:=aK.o.size;have b6:Hd (Me H2 mb 0 w7 wv sv R):=hd (aR.o.far aK.o);have b8:Hd (Blk w7 fb 45 #[.string ⟨#[97]⟩,(2:Int),.bool true,.slice none 0 0]):=hd (aB.o.ext ak.o (by simp only[jA];omega));have aS:Hd (Blk w7 bs 4 #[.bool false,.bool false]):=hd (aI.o.2.ext ak.o (by simp only[jA];exact Ne.symm aQ))
     have b0:Hd (∀y∈R,y.1<fb/\y.2<fb):=hd fun y hy=>by
      obtain⟨i,hi⟩:=List.getElem?_of_mem hy;obtain⟨-,-,h3,h4⟩:=HR.o.row i y hi;have h5:=h3.lt;have h6:=h4.lt;exact⟨by omega,by omega⟩
     clear aB aJ az aF aR HR;go_wp2_with fail
     go_loopw [91] (fun i wr=>∃j:Nat,i=.int .i64 j/\j<=2/\Hd (Ext [bs] w7 wr)/\Hd (Blk wr bs 4 (sq true j))) (fun i _=>(2-intOf i).toNat)
     case atStart=>exact⟨0,rfl,by omega,hd (jF _ _),hd (by simpa[sq] using aS.o)⟩
     case round=>
      obtain⟨j,rfl,hj,ax,ay⟩:=hrel;rename World=>wj
      by_cases aZ:j<2
      ·have bJ:(j:Int)<2:=by omega
       have aT:=hd (b8.o.ext ax.o (by simp only[jA];omega));have qb:=aT.o.cell 2;have af:=aT.o.lt;have qs:=ay.o.cell j;obtain⟨y0,aE⟩:∃x,(sq true j)[j]? = some x:=⟨_,Array.getElem?_eq_getElem (show j<2 from aZ)⟩;rw[aE] at qs;have qf:=ay.o.frozen;have bK:=ay.o.lt;have ba:Hd (Blk (wj.setCell ⟨bs,j,none⟩ (.bool true)) bs 4 (sq true (j+1))):=hd (ay.o.set_' j _ _ (Ahl true aZ));have bb:=hd (jL (b:=bs) (i:=j) (u:=.bool true) (.inl (by simp)) ax.o);clear aE;go_wp2_with fail
       go_roundw
       case rel=>exact⟨j+1,by go_num,by omega,bb,ba⟩
       case measure=>simp[intOf];omega
      ·have bc:j=2:=by omega
       subst bc;have bd:Hd (mb≠bs):=hd (by omega)
       have a6:Hd (Me H2 mb 0 wj wv sv R):=hd (b6.o.ext ax.o (by rw[jA];exact bd.o) (fun x hx h=>by
        rw[jA.1 hx];exact⟨⟨_,.inr aS.o⟩,fun y hy=>by have:=b0.o y hy;omega⟩) fun x hx=>by rw[jA.1 hx];omega)
       have be:=hd (b5.o.ext ax.o (by rw[jA];exact aQ));have aU:Hd (Ext [] w3 wj):=hd (aK.o.step ax.o fun x hx=>.inr (by rw[jA.1 hx];omega));have aC:=hd a6.o.wr;have an:=hd a6.o.sr;have ao:Hd ((R.map fun x=>slV x.1).length=0):=hd (by rw[List.length_map,a6.o.len]);have aL:Hd ((R.map fun x=>slV x.2).length=0):=hd (by rw[List.length_map,a6.o.len]);have aM:Hd ((R.map fun(x:Nat×Nat)=>slV x.1) ++ [slV bw]=(R ++ [(bw,bs)]).map fun(x:Nat×Nat)=>slV x.1):=hd (by rw[List.map_append];rfl);have aN:Hd ((R.map fun(x:Nat×Nat)=>slV x.2) ++ [slV bs]=(R ++ [(bw,bs)]).map fun(x:Nat×Nat)=>slV x.2):=hd (by rw[List.map_append];rfl);generalize (R.map fun x=>slV x.1)=lw at *;generalize (R.map fun x=>slV x.2)=ls at *;have ap:mb<wj.heap.size:=a6.o.blk.lt;have aV:Hd (H2<=wj.heap.size):=hd (by have:=aU.o.size;omega)
       have a8:Hd (∀g,wv.ownBlock=some g->H2<=g/\g<wj.heap.size/\g≠mb/\True/\sv.ownBlock≠some g):=hd fun g hg=>by
        obtain⟨C,hC⟩:=Cl aC.o hg;have h1:=Ad aC.o g hg;refine⟨h1,hC.lt,by omega,trivial,fun e=>?_⟩
        obtain⟨D,hD⟩:=Cl an.o e;exact absurd (hC.type hD) (by decide)
       have ag:Hd (∀g,sv.ownBlock=some g->H2<=g/\g<wj.heap.size/\g≠mb/\True):=hd fun g hg=>by
        obtain⟨C,hC⟩:=Cl an.o hg;have h1:=Ad an.o g hg;exact⟨h1,hC.lt,by omega,trivial⟩
       obtain⟨i0,bk,bl,bm,bn⟩:=Ac8;obtain⟨i1,bo,aE,bp,bq⟩:=Ac9
       have bf:Hd (∀i y,¬((Addr.mk mb i none).off=0/\((wv.ownBlock=some (Addr.mk mb i none).block/\y=slV bw)\/(sv.ownBlock=some (Addr.mk mb i none).block/\y=slV bs)))):=hd fun i y h=>by
        rcases h.2 with h1|h1
        ·exact(a8.o mb h1.1).2.2.1 rfl
        ·exact(ag.o mb h1.1).2.2.1 rfl
       have aq:Hd (mb∉wv.ownBlock.toList ++ sv.ownBlock.toList):=hd fun h=>by
        rcases jN.1 h with h1|h1
        ·exact(a8.o mb (jC.1 h1)).2.2.1 rfl
        ·exact(ag.o mb (jC.1 h1)).2.2.1 rfl
       go_upto_region 24 with fail
       refine rgK 19 18 mb (wv.ownBlock.toList ++ sv.ownBlock.toList) (fun p y=>p.off=0/\((wv.ownBlock=some p.block/\y=slV bw)\/(sv.ownBlock=some p.block/\y=slV bs)))
        [(7,Aq wj.heap.size [slV bw]),(8,Bo H2 22 1 0 (lw ++ [slV bw]) (fun g=>wv.ownBlock=some g\/wj.heap.size<=g)),
         (14,Aq wj.heap.size [slV bs]),(15,Bo H2 232 1 0 (ls ++ [slV bs]) (fun g=>sv.ownBlock=some g\/wj.heap.size<=g)),
         (18,⟨Nat×Nat,(0,0),fun _=>undef,fun u w=>Blk w mb 176 #[.slice (some u.1) (0+1:Nat) u.2,sv]/\(Bo H2 22 1 0 (lw ++ [slV bw]) (fun g=>wv.ownBlock=some g\/wj.heap.size<=g)).V u w⟩)] rfl (by simp[Bi]) (fun oi h=>by cases h;rfl) ?_ ?_
       ·refine Cp.done (Cp.cons (Aq.staysK ap fun b j u y hb hu hf=>?_) (Cp.cons (Bo.staysK (fun h=>?_) fun g i x y hg hx hf=>?_) (Cp.cons (Aq.staysK ap fun b j u y hb hu hf=>?_) (Cp.cons (Bo.staysK (fun h=>?_) fun g i x y hg hx hf=>?_) (Cp.cons (fun j hj x w w' hR hV=>⟨hV.1.rw (hR.rw hj) bf.o,Bo.staysK (fun h=>?_) (fun g i x y hg hx hf=>?_) j hj x w w' hR hV.2⟩) Cp.nil)))))
        ·rcases hf.2 with h1|h1
         ·have:=(a8.o b h1.1).2.1;omega
         ·have:=(ag.o b h1.1).2.1;omega
        ·rcases h with h1|h1
         ·exact(a8.o mb h1).2.2.1 rfl
         ·omega
        ·obtain⟨h1,h2⟩:=hf;simp only at h1;subst h1;rcases h2 with h2|h2
         ·rw[jM (by rw[ao.o];exact jD _),ao.o,Nat.sub_self] at hx;cases hx
          exact h2.2
         ·rcases hg with h3|h3
          ·exact absurd h2.1 (a8.o g h3).2.2.2.2
          ·have:=(ag.o g h2.1).2.1;omega
        ·rcases hf.2 with h1|h1
         ·have:=(a8.o b h1.1).2.1;omega
         ·have:=(ag.o b h1.1).2.1;omega
        ·rcases h with h1|h1
         ·exact(ag.o mb h1).2.2.1 rfl
         ·omega
        ·obtain⟨h1,h2⟩:=hf;simp only at h1;subst h1;rcases h2 with h2|h2
         ·rcases hg with h3|h3
          ·exact absurd h3 (a8.o g h2.1).2.2.2.2
          ·have:=(a8.o g h2.1).2.1;omega
         ·rw[jM (by rw[aL.o];exact jD _),aL.o,Nat.sub_self] at hx;cases hx
          exact h2.2
        ·rcases h with h1|h1
         ·exact(a8.o mb h1).2.2.1 rfl
         ·omega
        ·obtain⟨h1,h2⟩:=hf;simp only at h1;subst h1;rcases h2 with h2|h2
         ·rw[jM (by rw[ao.o];exact jD _),ao.o,Nat.sub_self] at hx;cases hx
          exact h2.2
         ·rcases hg with h3|h3
          ·exact absurd h2.1 (a8.o g h3).2.2.2.2
          ·have:=(ag.o g h2.1).2.1;omega
       simp only[TK]
       repeat(refine dEU (fun wr nr hg hJ=>by(clear hg);clear hJ;exact CL) ?_;simp only[PT])
       refine dEU (fun wr nr hg hJ=>by(have hA:=hJ.pre (hg.later 18 (by kernel_rfl));have qc:=(a6.o.blk.ext hA.1 aq.o).cell;have aW:=(a6.o.blk.ext hA.1 aq.o).lt;clear hA hg);clear hJ;exact CL) ?_
       simp only[PT]
       repeat(refine dEU (fun wr nr hg hJ=>by(clear hg);clear hJ;exact CL) ?_;simp only[PT])
       refine Jz (Aq wj.heap.size [slV bw]) rfl rfl (by decide) (fun wr r hg hJ hf=>?_) ?_
       ·refine⟨wr.heap.size,.cells #[slV bw] 22,?_,hJ.all.size,Cs _ _ _ ((jK wr 22 #[slV bw]).cell 0)⟩
        (go_simp;try go_bits)
        first|rfl|exact⟨rfl,rfl⟩
       intro (b7:Nat);simp only[PT];refine Kb H2 b7 102 22 i0 _ 1 24 wv 0 1 (lw) [slV bw] (fun g=>wv.ownBlock=some g\/wj.heap.size<=g) _ _ (by decide) rfl rfl rfl (by kernel_rfl) bk bl bm bn rfl (by decide) rfl rfl rfl (fun u hu=>by rw[jA.1 hu];rfl) (fun w' r hg hJ hf=>?_) aV.o (fun g hg hb=>.inl (jN.2 (.inl (jC.2 hg)))) (fun g hg=>hg.imp And.left id) (fun g j u hg hb hu=>?_) ?_ ?_ ?_
       ·have ac:=hg.later 18 (by kernel_rfl);have h7:(Aq wj.heap.size [slV bw]).V b7 w':=Bd hf 7 (by kernel_rfl);refine⟨ac,?_,h7.2⟩
        have h9:=Ho aC.o (hJ.pre ac).2 fun g i x y hg hx hy=>by
         have h1:=(ils hx).1;rw[ao.o] at h1;have h2:i=0:=hy.1;omega
        exact h9
       ·have h1:j=0:=by have:=(ils hu).1;simp at this;exact this
        subst h1;cases hu
        exact⟨rfl,.inl ⟨hg,rfl⟩⟩
       ·unfold maxLen;omega
       ·omega
       intro u8;simp only[PT]
       repeat(refine dEU (fun wr nr hg hJ=>by(clear hg);clear hJ;exact CL) ?_;simp only[PT])
       refine dEU (fun wr nr hg hJ=>by(have hA:=hJ.pre (hg.later 18 (by kernel_rfl));have qc:=(a6.o.blk.ext hA.1 aq.o).cell;have aW:=(a6.o.blk.ext hA.1 aq.o).lt;clear hA hg);clear hJ;exact CL) ?_
       simp only[PT]
       repeat(refine dEU (fun wr nr hg hJ=>by(clear hg);clear hJ;exact CL) ?_;simp only[PT])
       refine Jz (Aq wj.heap.size [slV bs]) rfl rfl (by decide) (fun wr r hg hJ hf=>?_) ?_
       ·refine⟨wr.heap.size,.cells #[slV bs] 232,?_,hJ.all.size,Cs _ _ _ ((jK wr 232 #[slV bs]).cell 0)⟩
        (go_simp;try go_bits)
        first|rfl|exact⟨rfl,rfl⟩
       intro (b14:Nat);simp only[PT];refine Kb H2 b14 103 232 i1 _ 1 24 sv 0 1 ls [slV bs] (fun g=>sv.ownBlock=some g\/wj.heap.size<=g) _ _ (by decide) rfl rfl rfl (by kernel_rfl) bo aE bp bq rfl (by decide) rfl rfl rfl (fun u hu=>by rw[jA.1 hu];rfl) (fun w' r hg hJ hf=>?_) aV.o (fun g hg hb=>.inl (jN.2 (.inr (jC.2 hg)))) (fun g hg=>hg.imp And.left id) (fun g j u hg hb hu=>?_) ?_ ?_ ?_
       ·have ac:=hg.later 18 (by kernel_rfl);have h7:(Aq wj.heap.size [slV bs]).V b14 w':=Bd hf 14 (by kernel_rfl);refine⟨ac,?_,h7.2⟩
        have h9:=Ho an.o (hJ.pre ac).2 fun g i x y hg hx hy=>by
         have h1:=(ils hx).1;rw[aL.o] at h1;have h2:i=0:=hy.1;omega
        exact h9
       ·have h1:j=0:=by have:=(ils hu).1;simp at this;exact this
        subst h1;cases hu
        exact⟨rfl,.inr ⟨hg,rfl⟩⟩
       ·unfold maxLen;omega
       ·omega
       intro u15;simp only[PT]
       repeat(refine dEU (fun wr nr hg hJ=>by(clear hg);clear hJ;exact CL) ?_;simp only[PT])
       refine Dq _ rfl rfl (fun _=>rfl) (fun wr r hg hJ hf=>?_) ?_
       ·have hA:=hJ.pre hg.mine;have hB:=a6.o.blk.ext hA.1 aq.o;have h8:=Bd hf 8 (by kernel_rfl);have hE:Ext [mb] wr (wr.setCell ⟨mb,0,none⟩ (.slice (some u8.1) (0+1:Nat) u8.2)):=jL (.inl (by simp)) (jF _ _);have h9:(Bo H2 22 1 0 (lw ++ [slV bw]) (fun g=>wv.ownBlock=some g\/wj.heap.size<=g)).V u8 wr:=h8;refine⟨u8,wr.setCell ⟨mb,0,none⟩ (.slice (some u8.1) (0+1:Nat) u8.2),?_,⟨hB.set_' 0 _ _ rfl,Ah h9.1 hE fun q hq hm=>?_,h9.2⟩,hJ.save hE,by unfold RK;rw[ijp rfl];exact hE⟩
        ·have qc:=hB.cell;have qf:=hB.frozen;have aW:=hB.lt;clear hJ hg hf hA hE h8 h9;(go_simp;try go_bits)
        ·cases hq
         have h1:=jA.1 hm;rcases h9.2 with h2|h2
         ·exact(a8.o _ h2).2.2.1 h1
         ·have h3:u8.1=mb:=h1;have h4:wj.heap.size<=u8.1:=h2;omega
       intro (u18:Nat×Nat);simp only[PT];refine Ci (fun w15 r hr hJ hF=>?_)
       obtain⟨g8,c8⟩:=u18;obtain⟨aa,ae⟩:=u15;have ac:Blk w15 mb 176 #[.slice (some g8) (0+1:Nat) c8,sv]/\(Bo H2 22 1 0 (lw ++ [slV bw]) (fun g=>wv.ownBlock=some g\/wj.heap.size<=g)).V (g8,c8) w15:=hF 18;have aX:(Bo H2 232 1 0 (ls ++ [slV bs]) (fun g=>sv.ownBlock=some g\/wj.heap.size<=g)).V (aa,ae) w15:=hF 15;have ad:=hd ac.1;have aY:Hd (w15.ownsRow H2 22 1 (.slice (some g8) (0+1:Nat) c8) (0+1) (lw ++ [slV bw])):=hd ac.2.1;have au:Hd (w15.ownsRow H2 232 1 (.slice (some aa) (0+1:Nat) ae) (0+1) (ls ++ [slV bs])):=hd aX.1;have aw:=hd hJ.all;clear hF hJ hr ac aX;dsimp only[Bo];have qb:=ad.o.cell;have qf:=ad.o.frozen;have af:=ad.o.lt;have aD:=hd (jL (b:=mb) (i:=1) (u:=.slice (some aa) (0+1:Nat) ae) (.inl (by simp)) (jF [mb] w15));have bh:=hd (ad.o.set_' 1 (.slice (some aa) (0+1:Nat) ae) #[.slice (some g8) (0+1:Nat) c8,.slice (some aa) (0+1:Nat) ae] rfl);have bL:=Ad aY.o g8 rfl;have bi:=Ad au.o aa rfl
       have a7:Hd (∀(b:Nat) (t:TypeId) (C:Array Value),H2<=b->t=3\/t=4->Blk wj b t C->Blk (w15.setCell ⟨mb,1,none⟩ (.slice (some aa) (0+1:Nat) ae)) b t C):=hd fun b t C hb ht hC=>by
        refine(hC.ext aw.o fun hm=>?_).ext aD.o (by rw[jA];omega)
        rcases jE.1 hm with h1|h1
        ·omega
        ·rcases jN.1 h1 with h1|h1
         ·obtain⟨D,hD⟩:=Cl aC.o (jC.1 h1);have h9:=hC.type hD;rcases ht with h8|h8<;>(rw[h8] at h9;exact absurd h9 (by decide))
         ·obtain⟨D,hD⟩:=Cl an.o (jC.1 h1);have h9:=hC.type hD;rcases ht with h8|h8<;>(rw[h8] at h9;exact absurd h9 (by decide))
       have aO:Hd (Me H2 mb (0+1) (w15.setCell ⟨mb,1,none⟩ (.slice (some aa) (0+1:Nat) ae)) (.slice (some g8) (0+1:Nat) c8) (.slice (some aa) (0+1:Nat) ae) (R ++ [(bw,bs)])):=hd (by
        refine⟨by rw[jG,a6.o.len];rfl,bh.o,?_,?_,fun i x hx=>?_,fun x y hx hy=>?_⟩
        ·rw[<-aM.o];exact Ah aY.o aD.o fun q hq=>by cases hq;rw[jA];show _≠_;simp only;omega
        ·rw[<-aN.o];exact Ah au.o aD.o fun q hq=>by cases hq;rw[jA];show _≠_;simp only;omega
        ·have aP:=a6.o.len;rcases Nat.lt_or_ge i 0 with h1|h1
         ·rw[List.getElem?_append_left (by omega)] at hx;obtain⟨a1,a2,a3,a4⟩:=a6.o.row i x hx;exact⟨a1,a2,a7.o _ _ _ a1 (.inl rfl) a3,a7.o _ _ _ a2 (.inr rfl) a4⟩
         ·have h2:=(ils hx).1;rw[jG,jS] at h2;have h3:i=0:=by omega
          subst h3;rw[jM (by omega),aP,Nat.sub_self] at hx;cases hx
          exact⟨by omega,by omega,a7.o _ _ _ (by omega) (.inl rfl) be.o,a7.o _ _ _ (by omega) (.inr rfl) ay.o⟩
        ·rw[jM (by rw[a6.o.len];decide),a6.o.len] at hy;cases hy)
       have bj:Hd (Ext [mb] w2 (w15.setCell ⟨mb,1,none⟩ (.slice (some aa) (0+1:Nat) ae))):=hd (((HE.o.trans aU.o.nil).step aw.o fun x hx=>by
        rcases jE.1 hx with h1|h1
        ·rw[h1];left;simp
        ·right
         rw[bv];rcases jN.1 h1 with h1|h1
         ·exact(a8.o x (jC.1 h1)).1
         ·exact(ag.o x (jC.1 h1)).1).trans aD.o)
       go_wp2_with fail
       go_roundw
       case rel=>exact⟨_,_,_,_,_,_,_,.int .i64 1,⟨1,rfl,by omega,_,_,_,aO⟩,rfl,rfl,rfl,rfl,rfl,rfl,rfl,rfl⟩
       case measure=>simp[intOf]<;>omega
    ·skip
     have qa:=ah.o.bufs.cell;have aG:=ah.o.bufs.lt;go_upto_region 14 with fail
     generalize hW:World.alloc w3 _=w4;have am:Hd (Ext [] w3 w4):=hd (by rw[<-hW];exact(jF [] w3).alloc _);have aA:Hd (Blk w4 w3.heap.size 45 #[.string ⟨#[98]⟩,(2:Int),.bool false,.slice none 0 0]):=hd (by rw[<-hW];exact jK w3 _ _);have bD:w4.heap.size=w3.heap.size+1:=by rw[<-hW];exact Ag _ _
     clear hW qa aG;generalize bM:w3.heap.size=fb at *;have bE:H2<=fb:=by have:=HE.o.size;omega
     have al:=hd (ah.o.ext am.o (by simp));have qi:=al.o.ins.cell;have aj:=al.o.ins.lt;go_wp2_with fail
     have aH:=hd (Wc none 0 0 [] 140 #[] (fun x=>!Dt x) w4 ⟨by simp,.inl rfl⟩ rfl ⟨Nl,fun i y hy w' hw'=>Tf y w'⟩);rw[show([]:List Int).any (fun x=>!Dt x)=false by decide] at aH;refine aH.o.mono ?_
     rintro e w5 ⟨rfl,hE⟩;have b3:=hd (am.o.trans hE);have ai:=hd (aA.o.ext hE (by simp));have bF:=hE.size;clear hE aH qi aj;have qb:=ai.o.cell;have af:=ai.o.lt;go_upto_region 16 with fail
     clear qb af;refine rgH 7 [(2,Tg w5.heap.size),(5,Th w5.heap.size)] ?_ ?_
     ·refine Am.cons Tg.stays (Am.cons Th.stays Am.nil)
     simp only[TK]
     repeat(refine dE (fun wr nr hJ=>by(have qb:=(ai.o.ext hJ.1 (by simp)).cell;have af:=(ai.o.ext hJ.1 (by simp)).lt);clear hJ;exact CL) ?_;simp only[PT])
     refine Gi (Tg w5.heap.size) rfl rfl (fun wr nr hJ hf=>?_) ?_
     ·refine⟨wr.heap.size,.cells #[(0:Int),(0:Int)] 3,?_,hJ.1.size,jK _ _ _⟩
      have b4:=Ada wr;(go_simp;try go_bits)
      rfl
     intro (bw:Nat);simp only[PT]
     repeat(refine dE (fun wr nr hJ=>by(have qb:=(ai.o.ext hJ.1 (by simp)).cell;have af:=(ai.o.ext hJ.1 (by simp)).lt);clear hJ;exact CL) ?_;simp only[PT])
     refine Gi (Th w5.heap.size) rfl rfl (fun wr nr hJ hf=>?_) ?_
     ·refine⟨wr.heap.size,.cells #[.bool false,.bool false] 4,?_,hJ.1.size,jK _ _ _⟩
      have b4:=Zm wr;(go_simp;try go_bits)
      rfl
     intro (bs:Nat);simp only[PT]
     repeat(refine dE (fun wr nr hJ=>by clear hJ;exact CL) ?_;simp only[PT])
     refine Aj (fun w6 hJ hF=>?_)
     have az:Hd (w5.heap.size<=bw/\Blk w6 bw 3 #[(0:Int),(0:Int)]):=hd (hF 2);have aI:Hd (w5.heap.size<=bs/\Blk w6 bs 4 #[.bool false,.bool false]):=hd (hF 5);have aJ:=hd (b3.o.trans hJ.1);have aB:=hd (ai.o.ext hJ.1 (by simp));clear hF hJ;dsimp only[Tg,Th,slV];have aF:=hd (ah.o.ext aJ.o (by simp));have qb:=aB.o.cell;have af:=aB.o.lt;have qi:=aF.o.ins.cell;have aj:=aF.o.ins.lt;have bG:=az.o.1;have bH:=aI.o.1;have aQ:bw≠bs:=az.o.2.apart aI.o.2 (by decide);go_upto_region 18 with(refine wpList_copy_nothing rfl _ _ _ _ rfl 3 underlying22 (by kernel_rfl) (some bw) none 2 2 0 0 rfl rfl rfl ?_)
     go_upto_region 19 with(refine wpList_copy_nothing rfl _ _ _ _ rfl 3 underlying22 (by kernel_rfl) (some bw) none 2 2 0 0 rfl rfl rfl ?_)
     generalize hW:w6=w7 at *;have b5:Hd (Blk w7 bw 3 (wq 1)):=hd az.o.2;have ak:Hd (Ext [bw] w7 w7):=hd (jF _ _);have aK:=hd aJ.o;clear qb af qi aj;have aR:=hd HR.o;have bI:w3.heap.size<=w7.heap.size:=aK.o.size;have b6:Hd (Me H2 mb 1 w7 wv sv R):=hd (aR.o.far aK.o);have b8:Hd (Blk w7 fb 45 #[.string ⟨#[98]⟩,(2:Int),.bool false,.slice none 0 0]):=hd (aB.o.ext ak.o (by simp only[jA];omega));have aS:Hd (Blk w7 bs 4 #[.bool false,.bool false]):=hd (aI.o.2.ext ak.o (by simp only[jA];exact Ne.symm aQ))
     have b0:Hd (∀y∈R,y.1<fb/\y.2<fb):=hd fun y hy=>by
      obtain⟨i,hi⟩:=List.getElem?_of_mem hy;obtain⟨-,-,h3,h4⟩:=HR.o.row i y hi;have h5:=h3.lt;have h6:=h4.lt;exact⟨by omega,by omega⟩
     clear aB aJ az aF aR HR;go_wp2_with fail
     go_loopw [91] (fun i wr=>∃j:Nat,i=.int .i64 j/\j<=2/\Hd (Ext [bs] w7 wr)/\Hd (Blk wr bs 4 (sq false j))) (fun i _=>(2-intOf i).toNat)
     case atStart=>exact⟨0,rfl,by omega,hd (jF _ _),hd (by simpa[sq] using aS.o)⟩
     case round=>
      obtain⟨j,rfl,hj,ax,ay⟩:=hrel;rename World=>wj
      by_cases aZ:j<2
      ·have bJ:(j:Int)<2:=by omega
       have aT:=hd (b8.o.ext ax.o (by simp only[jA];omega));have qb:=aT.o.cell 2;have af:=aT.o.lt;have qs:=ay.o.cell j;obtain⟨y0,aE⟩:∃x,(sq false j)[j]? = some x:=⟨_,Array.getElem?_eq_getElem (show j<2 from aZ)⟩;rw[aE] at qs;have qf:=ay.o.frozen;have bK:=ay.o.lt;have ba:Hd (Blk (wj.setCell ⟨bs,j,none⟩ (.bool false)) bs 4 (sq false (j+1))):=hd (ay.o.set_' j _ _ (Ahl false aZ));have bb:=hd (jL (b:=bs) (i:=j) (u:=.bool false) (.inl (by simp)) ax.o);clear aE;go_wp2_with fail
       go_roundw
       case rel=>exact⟨j+1,by go_num,by omega,bb,ba⟩
       case measure=>simp[intOf];omega
      ·have bc:j=2:=by omega
       subst bc;have bd:Hd (mb≠bs):=hd (by omega)
       have a6:Hd (Me H2 mb 1 wj wv sv R):=hd (b6.o.ext ax.o (by rw[jA];exact bd.o) (fun x hx h=>by
        rw[jA.1 hx];exact⟨⟨_,.inr aS.o⟩,fun y hy=>by have:=b0.o y hy;omega⟩) fun x hx=>by rw[jA.1 hx];omega)
       have be:=hd (b5.o.ext ax.o (by rw[jA];exact aQ));have aU:Hd (Ext [] w3 wj):=hd (aK.o.step ax.o fun x hx=>.inr (by rw[jA.1 hx];omega));have aC:=hd a6.o.wr;have an:=hd a6.o.sr;have ao:Hd ((R.map fun x=>slV x.1).length=1):=hd (by rw[List.length_map,a6.o.len]);have aL:Hd ((R.map fun x=>slV x.2).length=1):=hd (by rw[List.length_map,a6.o.len]);have aM:Hd ((R.map fun(x:Nat×Nat)=>slV x.1) ++ [slV bw]=(R ++ [(bw,bs)]).map fun(x:Nat×Nat)=>slV x.1):=hd (by rw[List.map_append];rfl);have aN:Hd ((R.map fun(x:Nat×Nat)=>slV x.2) ++ [slV bs]=(R ++ [(bw,bs)]).map fun(x:Nat×Nat)=>slV x.2):=hd (by rw[List.map_append];rfl);generalize (R.map fun x=>slV x.1)=lw at *;generalize (R.map fun x=>slV x.2)=ls at *;have ap:mb<wj.heap.size:=a6.o.blk.lt;have aV:Hd (H2<=wj.heap.size):=hd (by have:=aU.o.size;omega)
       have a8:Hd (∀g,wv.ownBlock=some g->H2<=g/\g<wj.heap.size/\g≠mb/\True/\sv.ownBlock≠some g):=hd fun g hg=>by
        obtain⟨C,hC⟩:=Cl aC.o hg;have h1:=Ad aC.o g hg;refine⟨h1,hC.lt,by omega,trivial,fun e=>?_⟩
        obtain⟨D,hD⟩:=Cl an.o e;exact absurd (hC.type hD) (by decide)
       have ag:Hd (∀g,sv.ownBlock=some g->H2<=g/\g<wj.heap.size/\g≠mb/\True):=hd fun g hg=>by
        obtain⟨C,hC⟩:=Cl an.o hg;have h1:=Ad an.o g hg;exact⟨h1,hC.lt,by omega,trivial⟩
       obtain⟨i0,bk,bl,bm,bn⟩:=Ac8;obtain⟨i1,bo,aE,bp,bq⟩:=Ac9
       have bf:Hd (∀i y,¬((Addr.mk mb i none).off=1/\((wv.ownBlock=some (Addr.mk mb i none).block/\y=slV bw)\/(sv.ownBlock=some (Addr.mk mb i none).block/\y=slV bs)))):=hd fun i y h=>by
        rcases h.2 with h1|h1
        ·exact(a8.o mb h1.1).2.2.1 rfl
        ·exact(ag.o mb h1.1).2.2.1 rfl
       have aq:Hd (mb∉wv.ownBlock.toList ++ sv.ownBlock.toList):=hd fun h=>by
        rcases jN.1 h with h1|h1
        ·exact(a8.o mb (jC.1 h1)).2.2.1 rfl
        ·exact(ag.o mb (jC.1 h1)).2.2.1 rfl
       go_upto_region 24 with fail
       refine rgK 19 18 mb (wv.ownBlock.toList ++ sv.ownBlock.toList) (fun p y=>p.off=1/\((wv.ownBlock=some p.block/\y=slV bw)\/(sv.ownBlock=some p.block/\y=slV bs)))
        [(7,Aq wj.heap.size [slV bw]),(8,Bo H2 22 1 1 (lw ++ [slV bw]) (fun g=>wv.ownBlock=some g\/wj.heap.size<=g)),
         (14,Aq wj.heap.size [slV bs]),(15,Bo H2 232 1 1 (ls ++ [slV bs]) (fun g=>sv.ownBlock=some g\/wj.heap.size<=g)),
         (18,⟨Nat×Nat,(0,0),fun _=>undef,fun u w=>Blk w mb 176 #[.slice (some u.1) (1+1:Nat) u.2,sv]/\(Bo H2 22 1 1 (lw ++ [slV bw]) (fun g=>wv.ownBlock=some g\/wj.heap.size<=g)).V u w⟩)] rfl (by simp[Bi]) (fun oi h=>by cases h;rfl) ?_ ?_
       ·refine Cp.done (Cp.cons (Aq.staysK ap fun b j u y hb hu hf=>?_) (Cp.cons (Bo.staysK (fun h=>?_) fun g i x y hg hx hf=>?_) (Cp.cons (Aq.staysK ap fun b j u y hb hu hf=>?_) (Cp.cons (Bo.staysK (fun h=>?_) fun g i x y hg hx hf=>?_) (Cp.cons (fun j hj x w w' hR hV=>⟨hV.1.rw (hR.rw hj) bf.o,Bo.staysK (fun h=>?_) (fun g i x y hg hx hf=>?_) j hj x w w' hR hV.2⟩) Cp.nil)))))
        ·rcases hf.2 with h1|h1
         ·have:=(a8.o b h1.1).2.1;omega
         ·have:=(ag.o b h1.1).2.1;omega
        ·rcases h with h1|h1
         ·exact(a8.o mb h1).2.2.1 rfl
         ·omega
        ·obtain⟨h1,h2⟩:=hf;simp only at h1;subst h1;rcases h2 with h2|h2
         ·rw[jM (by rw[ao.o];exact jD _),ao.o,Nat.sub_self] at hx;cases hx
          exact h2.2
         ·rcases hg with h3|h3
          ·exact absurd h2.1 (a8.o g h3).2.2.2.2
          ·have:=(ag.o g h2.1).2.1;omega
        ·rcases hf.2 with h1|h1
         ·have:=(a8.o b h1.1).2.1;omega
         ·have:=(ag.o b h1.1).2.1;omega
        ·rcases h with h1|h1
         ·exact(ag.o mb h1).2.2.1 rfl
         ·omega
        ·obtain⟨h1,h2⟩:=hf;simp only at h1;subst h1;rcases h2 with h2|h2
         ·rcases hg with h3|h3
          ·exact absurd h3 (a8.o g h2.1).2.2.2.2
          ·have:=(a8.o g h2.1).2.1;omega
         ·rw[jM (by rw[aL.o];exact jD _),aL.o,Nat.sub_self] at hx;cases hx
          exact h2.2
        ·rcases h with h1|h1
         ·exact(a8.o mb h1).2.2.1 rfl
         ·omega
        ·obtain⟨h1,h2⟩:=hf;simp only at h1;subst h1;rcases h2 with h2|h2
         ·rw[jM (by rw[ao.o];exact jD _),ao.o,Nat.sub_self] at hx;cases hx
          exact h2.2
         ·rcases hg with h3|h3
          ·exact absurd h2.1 (a8.o g h3).2.2.2.2
          ·have:=(ag.o g h2.1).2.1;omega
       simp only[TK]
       repeat(refine dEU (fun wr nr hg hJ=>by(clear hg);clear hJ;exact CL) ?_;simp only[PT])
       refine dEU (fun wr nr hg hJ=>by(have hA:=hJ.pre (hg.later 18 (by kernel_rfl));have qc:=(a6.o.blk.ext hA.1 aq.o).cell;have aW:=(a6.o.blk.ext hA.1 aq.o).lt;clear hA hg);clear hJ;exact CL) ?_
       simp only[PT]
       repeat(refine dEU (fun wr nr hg hJ=>by(clear hg);clear hJ;exact CL) ?_;simp only[PT])
       refine Jz (Aq wj.heap.size [slV bw]) rfl rfl (by decide) (fun wr r hg hJ hf=>?_) ?_
       ·refine⟨wr.heap.size,.cells #[slV bw] 22,?_,hJ.all.size,Cs _ _ _ ((jK wr 22 #[slV bw]).cell 0)⟩
        (go_simp;try go_bits)
        first|rfl|exact⟨rfl,rfl⟩
       intro (b7:Nat);simp only[PT];refine Kb H2 b7 102 22 i0 _ 1 24 wv 1 1 (lw) [slV bw] (fun g=>wv.ownBlock=some g\/wj.heap.size<=g) _ _ (by decide) rfl rfl rfl (by kernel_rfl) bk bl bm bn rfl (by decide) rfl rfl rfl (fun u hu=>by rw[jA.1 hu];rfl) (fun w' r hg hJ hf=>?_) aV.o (fun g hg hb=>.inl (jN.2 (.inl (jC.2 hg)))) (fun g hg=>hg.imp And.left id) (fun g j u hg hb hu=>?_) ?_ ?_ ?_
       ·have ac:=hg.later 18 (by kernel_rfl);have h7:(Aq wj.heap.size [slV bw]).V b7 w':=Bd hf 7 (by kernel_rfl);refine⟨ac,?_,h7.2⟩
        have h9:=Ho aC.o (hJ.pre ac).2 fun g i x y hg hx hy=>by
         have h1:=(ils hx).1;rw[ao.o] at h1;have h2:i=1:=hy.1;omega
        exact h9
       ·have h1:j=0:=by have:=(ils hu).1;simp at this;exact this
        subst h1;cases hu
        exact⟨rfl,.inl ⟨hg,rfl⟩⟩
       ·unfold maxLen;omega
       ·omega
       intro u8;simp only[PT]
       repeat(refine dEU (fun wr nr hg hJ=>by(clear hg);clear hJ;exact CL) ?_;simp only[PT])
       refine dEU (fun wr nr hg hJ=>by(have hA:=hJ.pre (hg.later 18 (by kernel_rfl));have qc:=(a6.o.blk.ext hA.1 aq.o).cell;have aW:=(a6.o.blk.ext hA.1 aq.o).lt;clear hA hg);clear hJ;exact CL) ?_
       simp only[PT]
       repeat(refine dEU (fun wr nr hg hJ=>by(clear hg);clear hJ;exact CL) ?_;simp only[PT])
       refine Jz (Aq wj.heap.size [slV bs]) rfl rfl (by decide) (fun wr r hg hJ hf=>?_) ?_
       ·refine⟨wr.heap.size,.cells #[slV bs] 232,?_,hJ.all.size,Cs _ _ _ ((jK wr 232 #[slV bs]).cell 0)⟩
        (go_simp;try go_bits)
        first|rfl|exact⟨rfl,rfl⟩
       intro (b14:Nat);simp only[PT];refine Kb H2 b14 103 232 i1 _ 1 24 sv 1 1 ls [slV bs] (fun g=>sv.ownBlock=some g\/wj.heap.size<=g) _ _ (by decide) rfl rfl rfl (by kernel_rfl) bo aE bp bq rfl (by decide) rfl rfl rfl (fun u hu=>by rw[jA.1 hu];rfl) (fun w' r hg hJ hf=>?_) aV.o (fun g hg hb=>.inl (jN.2 (.inr (jC.2 hg)))) (fun g hg=>hg.imp And.left id) (fun g j u hg hb hu=>?_) ?_ ?_ ?_
       ·have ac:=hg.later 18 (by kernel_rfl);have h7:(Aq wj.heap.size [slV bs]).V b14 w':=Bd hf 14 (by kernel_rfl);refine⟨ac,?_,h7.2⟩
        have h9:=Ho an.o (hJ.pre ac).2 fun g i x y hg hx hy=>by
         have h1:=(ils hx).1;rw[aL.o] at h1;have h2:i=1:=hy.1;omega
        exact h9
       ·have h1:j=0:=by have:=(ils hu).1;simp at this;exact this
        subst h1;cases hu
        exact⟨rfl,.inr ⟨hg,rfl⟩⟩
       ·unfold maxLen;omega
       ·omega
       intro u15;simp only[PT]
       repeat(refine dEU (fun wr nr hg hJ=>by(clear hg);clear hJ;exact CL) ?_;simp only[PT])
       refine Dq _ rfl rfl (fun _=>rfl) (fun wr r hg hJ hf=>?_) ?_
       ·have hA:=hJ.pre hg.mine;have hB:=a6.o.blk.ext hA.1 aq.o;have h8:=Bd hf 8 (by kernel_rfl);have hE:Ext [mb] wr (wr.setCell ⟨mb,0,none⟩ (.slice (some u8.1) (1+1:Nat) u8.2)):=jL (.inl (by simp)) (jF _ _);have h9:(Bo H2 22 1 1 (lw ++ [slV bw]) (fun g=>wv.ownBlock=some g\/wj.heap.size<=g)).V u8 wr:=h8;refine⟨u8,wr.setCell ⟨mb,0,none⟩ (.slice (some u8.1) (1+1:Nat) u8.2),?_,⟨hB.set_' 0 _ _ rfl,Ah h9.1 hE fun q hq hm=>?_,h9.2⟩,hJ.save hE,by unfold RK;rw[ijp rfl];exact hE⟩
        ·have qc:=hB.cell;have qf:=hB.frozen;have aW:=hB.lt;clear hJ hg hf hA hE h8 h9;(go_simp;try go_bits)
        ·cases hq
         have h1:=jA.1 hm;rcases h9.2 with h2|h2
         ·exact(a8.o _ h2).2.2.1 h1
         ·have h3:u8.1=mb:=h1;have h4:wj.heap.size<=u8.1:=h2;omega
       intro (u18:Nat×Nat);simp only[PT];refine Ci (fun w15 r hr hJ hF=>?_)
       obtain⟨g8,c8⟩:=u18;obtain⟨aa,ae⟩:=u15;have ac:Blk w15 mb 176 #[.slice (some g8) (1+1:Nat) c8,sv]/\(Bo H2 22 1 1 (lw ++ [slV bw]) (fun g=>wv.ownBlock=some g\/wj.heap.size<=g)).V (g8,c8) w15:=hF 18;have aX:(Bo H2 232 1 1 (ls ++ [slV bs]) (fun g=>sv.ownBlock=some g\/wj.heap.size<=g)).V (aa,ae) w15:=hF 15;have ad:=hd ac.1;have aY:Hd (w15.ownsRow H2 22 1 (.slice (some g8) (1+1:Nat) c8) (1+1) (lw ++ [slV bw])):=hd ac.2.1;have au:Hd (w15.ownsRow H2 232 1 (.slice (some aa) (1+1:Nat) ae) (1+1) (ls ++ [slV bs])):=hd aX.1;have aw:=hd hJ.all;clear hF hJ hr ac aX;dsimp only[Bo];have qb:=ad.o.cell;have qf:=ad.o.frozen;have af:=ad.o.lt;have aD:=hd (jL (b:=mb) (i:=1) (u:=.slice (some aa) (1+1:Nat) ae) (.inl (by simp)) (jF [mb] w15));have bh:=hd (ad.o.set_' 1 (.slice (some aa) (1+1:Nat) ae) #[.slice (some g8) (1+1:Nat) c8,.slice (some aa) (1+1:Nat) ae] rfl);have bL:=Ad aY.o g8 rfl;have bi:=Ad au.o aa rfl
       have a7:Hd (∀(b:Nat) (t:TypeId) (C:Array Value),H2<=b->t=3\/t=4->Blk wj b t C->Blk (w15.setCell ⟨mb,1,none⟩ (.slice (some aa) (1+1:Nat) ae)) b t C):=hd fun b t C hb ht hC=>by
        refine(hC.ext aw.o fun hm=>?_).ext aD.o (by rw[jA];omega)
        rcases jE.1 hm with h1|h1
        ·omega
        ·rcases jN.1 h1 with h1|h1
         ·obtain⟨D,hD⟩:=Cl aC.o (jC.1 h1);have h9:=hC.type hD;rcases ht with h8|h8<;>(rw[h8] at h9;exact absurd h9 (by decide))
         ·obtain⟨D,hD⟩:=Cl an.o (jC.1 h1);have h9:=hC.type hD;rcases ht with h8|h8<;>(rw[h8] at h9;exact absurd h9 (by decide))
       have aO:Hd (Me H2 mb (1+1) (w15.setCell ⟨mb,1,none⟩ (.slice (some aa) (1+1:Nat) ae)) (.slice (some g8) (1+1:Nat) c8) (.slice (some aa) (1+1:Nat) ae) (R ++ [(bw,bs)])):=hd (by
        refine⟨by rw[jG,a6.o.len];rfl,bh.o,?_,?_,fun i x hx=>?_,fun x y hx hy=>?_⟩
        ·rw[<-aM.o];exact Ah aY.o aD.o fun q hq=>by cases hq;rw[jA];show _≠_;simp only;omega
        ·rw[<-aN.o];exact Ah au.o aD.o fun q hq=>by cases hq;rw[jA];show _≠_;simp only;omega
        ·have aP:=a6.o.len;rcases Nat.lt_or_ge i 1 with h1|h1
         ·rw[List.getElem?_append_left (by omega)] at hx;obtain⟨a1,a2,a3,a4⟩:=a6.o.row i x hx;exact⟨a1,a2,a7.o _ _ _ a1 (.inl rfl) a3,a7.o _ _ _ a2 (.inr rfl) a4⟩
         ·have h2:=(ils hx).1;rw[jG,jS] at h2;have h3:i=1:=by omega
          subst h3;rw[jM (by omega),aP,Nat.sub_self] at hx;cases hx
          exact⟨by omega,by omega,a7.o _ _ _ (by omega) (.inl rfl) be.o,a7.o _ _ _ (by omega) (.inr rfl) ay.o⟩
        ·rw[List.getElem?_append_left (by rw[a6.o.len];decide)] at hx;rw[jM (by rw[a6.o.len];decide),a6.o.len] at hy;cases hy;have h9:=b0.o x (ilm hx);exact⟨by simp only;omega,by simp only;omega⟩)
       have bj:Hd (Ext [mb] w2 (w15.setCell ⟨mb,1,none⟩ (.slice (some aa) (1+1:Nat) ae))):=hd (((HE.o.trans aU.o.nil).step aw.o fun x hx=>by
        rcases jE.1 hx with h1|h1
        ·rw[h1];left;simp
        ·right
         rw[bv];rcases jN.1 h1 with h1|h1
         ·exact(a8.o x (jC.1 h1)).1
         ·exact(ag.o x (jC.1 h1)).1).trans aD.o)
       go_wp2_with fail
       go_roundw
       case rel=>exact⟨_,_,_,_,_,_,_,.int .i64 2,⟨2,rfl,by omega,_,_,_,aO⟩,rfl,rfl,rfl,rfl,rfl,rfl,rfl,rfl⟩
       case measure=>simp[intOf]<;>omega
    ·go_wp2_with fail
     go_ret2
     exact⟨mb,H2,wv,sv,R,rfl,bu.o,by omega,by omega,HR.o⟩
end Go.Proofs.YtfppibmloloakaaGreatDoor
