import Derived.Test.YtfppibmloloakaaGreatDoorP45
namespace Go.Proofs.YtfppibmloloakaaGreatDoor
open Go.RowKit Go.Proofs.Tryz
set_option linter.all false
section
attribute [local irreducible] relAt relAtU
structure BoS (d:Nat)(w:World)(base g pb n:Nat)(bA:Option Addr)(bc:Nat)(bs:List Bf)(V:Value)(l:List St)(u:Value)(ss:List St)(V':Value)(cnt':Int)(wx:World):Prop where
 ext:Ext (g :: pb :: V.ownBlock.toList) w wx
 bld:Bld wx base g pb n bA bc bs V' l cnt'
 row:∀q,V'.ownBlock=some q->V.ownBlock=some q\/w.heap.size<=q
 box:BoX d w u ss V' wx
 g0:g<w.heap.size
 p0:pb<w.heap.size
 bw:base<=w.heap.size
 hbf:∀q,(Value.slice bA bs.length bc).ownBlock=some q->q<w.heap.size
section
variable {d:Nat} {w wx wy:World} {base g pb n m bc:Nat} {bA:Option Addr} {bs:List Bf} {V:Value} {l:List St} {u:Value} {ss:List St} {V' V'':Value} {cnt' cnt2:Int}
theorem BoS.draw (h:BoS d w base g pb n bA bc bs V l u ss V' cnt' wx)(hE:Ext [g] wx wy)(hS:Stm wy base g m):BoS d w base g pb m bA bc bs V l u ss V' cnt' wy:=
 ⟨h.ext.trans (hE.mono fun x hx=>.inl (by rw[List.mem_singleton.1 hx];simp)),h.bld.draw hE hS,h.row,h.box.keep hE (fun q hq=>.inl (by rw[List.mem_singleton.1 hq];exact h.g0)),h.g0,h.p0,h.bw,h.hbf⟩
theorem BoS.grow (h:BoS d w base g pb n bA bc bs V l u ss V' cnt' wx)(hE:Ext [] wx wy):BoS d w base g pb n bA bc bs V l u ss V' cnt' wy:=
 ⟨h.ext.trans hE.nil,h.bld.grow hE,h.row,h.box.grow hE,h.g0,h.p0,h.bw,h.hbf⟩
theorem BoS.less (h:BoS d w base g pb n bA bc bs V l u ss V' cnt' wx)(hm:m<=n):BoS d w base g pb m bA bc bs V l u ss V' cnt' wx:=⟨h.ext,h.bld.less hm,h.row,h.box,h.g0,h.p0,h.bw,h.hbf⟩
theorem BoS.call (h:BoS d w base g pb n bA bc bs V l u ss V' cnt' wx)(hA:After wx base g pb m bA bc bs V' l V'' cnt2 wy):BoS d w base g pb m bA bc bs V l u ss V'' cnt2 wy:=by
 have hb:=(h.box.row hA.row).siz;refine⟨h.ext.step hA.ext fun x hx=>?_,hA.bld,fun q hq=>?_,?_,h.g0,h.p0,h.bw,h.hbf⟩
 ·rcases List.mem_cons.1 hx with e|hx
  ·exact .inl (by rw[e];simp)
  ·rcases List.mem_cons.1 hx with e|hx
   ·exact .inl (by rw[e];simp)
   ·exact(h.row x (Option.mem_toList.1 hx)).imp (fun e=>List.mem_cons_of_mem _ (List.mem_cons_of_mem _ (Option.mem_toList.2 e))) id
 ·rcases hA.row q hq with e|e
  ·exact h.row q e
  ·exact .inr (by omega)
 ·have h1:=h.box.keep hA.ext fun q hq=>by
   rcases List.mem_cons.1 hq with e|hq
   ·exact .inl (by rw[e];exact h.g0)
   ·rcases List.mem_cons.1 hq with e|hq
    ·exact .inl (by rw[e];exact h.p0)
    ·exact .inr (Option.mem_toList.1 hq)
  refine⟨h1.own,fun s hs=>?_,(h.box.row hA.row).sep,h1.siz⟩
  have h2:=StA.mono (Q:=fun b=>w.heap.size<=b/\u.ownBlock≠some b/\V'.ownBlock≠some b/\b<wx.heap.size) (fun b hb hh=>⟨hh.1,hh.2.1,hh.2.2,hb⟩) (Nat.le_refl _) (h.box.kid s hs)
  have h3:=StA.ext hA.ext (fun y hy hh=>by
   rcases List.mem_cons.1 hy with e|hy
   ·have:=h.g0;have:=hh.1;omega
   ·rcases List.mem_cons.1 hy with e|hy
    ·have:=h.p0;have:=hh.1;omega
    ·exact hh.2.2.1 (Option.mem_toList.1 hy)) h2
  exact StA.mono (fun b _ hh=>⟨hh.1,hh.2.1,fun e=>by
   rcases hA.row b e with e1|e1
   ·exact hh.2.2.1 e1
   ·have:=hh.2.2.2;omega⟩) (Nat.le_refl _) h3
theorem BoS.more (h:BoS d w base g pb n bA bc bs V l u ss V' cnt' wx)(hE:Ext u.ownBlock.toList wx wy){g8 c8:Nat}{s:St}(hO:wy.ownsRow w.heap.size 43 21 (.slice (some ⟨g8,0,none⟩) (ss.length+1) c8) (ss.length+1) (ss.flatMap stC ++ stC s))(hg8:u.ownBlock=some g8\/wx.heap.size<=g8)
  (hs:StA (fun b=>w.heap.size<=b/\u.ownBlock≠some b/\V'.ownBlock≠some b) (20+d) wx s):BoS d w base g pb n bA bc bs V l (.slice (some ⟨g8,0,none⟩) (ss.length+1) c8) (ss ++ [s]) V' cnt' wy:=by
 have hq:∀q∈u.ownBlock.toList,w.heap.size<=q:=fun q hq=>own_base h.box.own q (Option.mem_toList.1 hq)
 have g0:=h.g0;have p0:=h.p0;have bw:=h.bw;refine⟨h.ext.step hE fun x hx=>.inr (hq x hx),?_,h.row,h.box.more hE hO hg8 (fun q hq=>(h.bld.row.lt q hq).2) hs,h.g0,h.p0,h.bw,h.hbf⟩
 exact⟨h.bld.stm.ext hE (fun hm=>by have:=hq _ hm;omega) (fun q hqq=>by have:=hq _ hqq;omega),h.bld.blk.ext hE (fun hm=>by have:=hq _ hm;omega),h.bld.bpb,own_ext h.bld.buf hE fun q hqq hm=>(by have:=h.hbf q hqq;have:=hq _ hm;omega),
  own_ext h.bld.row hE fun q hqq hm=>(h.box.sep q (Option.mem_toList.1 hm) hqq),h.bld.bne,h.bld.b9,h.bld.bsz,h.bld.l3⟩
end
def sAf1 (H:Nat):Spec:=⟨Nat×Af,(0,afZ0),fun u=>.slice (some ⟨u.1,0,none⟩) 1 1,fun u w=>H<=u.1/\Blk w u.1 38 #[.int .i64 u.2.base,.slice u.2.A u.2.ts.length u.2.cap]/\AfA (fun b=>H<=b) 4 w u.2⟩
theorem sAf1.stays {H g:Nat}(hg:g<H):∀y w w',Ext [g] w w'->(sAf1 H).V y w->(sAf1 H).V y w':=fun y w w' hE h=>⟨h.1,h.2.1.ext hE (by rw[List.mem_singleton];have:=h.1;omega),AfA.ext' hE (fun x hx=>by rw[List.mem_singleton.1 hx];omega) h.2.2⟩
theorem afInfo:∃i,Tryz.prog.info? 38=some i/\i.zero=some (.agg #[.int .i64 0,.slice none 0 0])/\i.size=2/\i.bytes=32:=info_parts (show((Tryz.prog).info? 38).map (fun i=>(i.zero,i.size,i.bytes))=some (some (.agg #[.int .i64 0,.slice none 0 0]),2,32) by kernel_rfl)
theorem afC_one (a:Af):∀u∈afC a,u.oneCell'=true:=by
 intro u hu;simp only[afC,List.mem_cons,List.not_mem_nil,or_false] at hu;rcases hu with rfl|rfl<;>rfl
theorem st1_sliceA (w:World)(s:St):(Instr.buildSlice 27 1 #[(0,.agg (stA s))]).run Tryz.prog w=.ok (.slice (some ⟨w.heap.size,0,none⟩) 1 1) (w.alloc (.cells (stA s) 43)):=by
 rw[<-stV_arr];exact st1_slice w s
def whHd:SH:=⟨2,⟨#[]⟩,0,0,0,false,none,0,[],none,0,0,afZ,.mk exZ []⟩
def whA (v b:Value):Array Value:=#[.int .i64 2,.string ⟨#[]⟩,.int .i64 0,.int .i64 0,.int .i64 0,.bool false,v,b,.int .i64 0,.int .i64 0,.slice none 0 0,.int .i64 0,.int .i64 0,.int .i64 0,.int .i64 0,.int .i64 0,.int .i64 0,.int .i64 0,.int .i64 0,.slice none 0 0,.slice none 0 0]
theorem whA_built:Tryz.prog.built 43 [(0,.int .i64 2)]=some (whA (.slice none 0 0) (.slice none 0 0)):=by kernel_rfl
set_option maxHeartbeats 32000000 in
set_option maxRecDepth 100000 in
theorem gbody_step (d:Nat)(hd3:d<=3)(IH:∀e,e+1=d->BodC e):BodC d:=by
 intro base g pb n bc bA bs V l cnt many w hm hl h;have HD:=hd h;have HIH:=hd IH;have HL:=hd hl;have HM:=hd hm;have HBB:Hd (base<=w.heap.size):=hd (by have:=h.bpb;have:=h.blk.lt;omega);clear IH hl;obtain⟨R,hR,hR2⟩:∃R,5*R=BD d/\2000000000<=R:=⟨2000000000*20 ^ d,by unfold BD;omega,by have:=Nat.one_le_pow d 20 (by omega);omega⟩;have HR:=hd (And.intro hR hR2);have HB0:Hd (BoS d w base g pb (n+5*R) bA bc bs V l (.slice none 0 0) [] V cnt w):=hd ⟨Ext.refl _ _,h.less (by omega),fun q hq=>.inl hq,⟨own_none _ _ _ _,by simp,fun q hq=>(by cases hq),Nat.le_refl _⟩,h.stm.lt,h.blk.lt,HBB.o,fun q hq=>(h.buf.lt q hq).2⟩;clear h hR hR2;have qp:=HD.o.blk.cell;have qpl:=HD.o.blk.lt;unfold bldA at qp;go_enter Tryz.func104,Tryz.ntmps104
 go_wp2_with fail
 refine(range_any base g (n+4*R) 1 many _ (HB0.o.bld.stm.less (by have:=HR.o.2;omega)) (by omega) (by omega)).mono ?_
 rintro e w1 ⟨r0,rfl,hr,hE,hS⟩;obtain⟨m,rfl⟩:∃k:Nat,r0=k:=⟨r0.toNat,by omega⟩;have HM3:Hd (m<=3):=hd (by have:=HM.o;omega);have HB1:=hd (HB0.o.draw hE hS);clear hE hS hr qp qpl HB0 hm
 obtain⟨F,hF0,hFs,hFn⟩:∃F:Nat->Nat,F 0=n+3*R/\(∀k,k<3->F k=F (k+1)+R)/\∀k,n<=F k:=⟨fun k=>n+(3-k)*R,by simp only[Nat.sub_zero],fun k hk=>by
  have e:3-k=(3-(k+1))+1:=by omega
  simp only[e,Nat.succ_mul];omega,fun k=>by simp only;omega⟩
 have HF0:=hd hF0;have HFS:=hd hFs;have HFN:=hd hFn;clear hF0 hFs hFn;go_wp2_with fail
 go_loopw [7,17] (fun u0 i wr=>∃(k:Nat) (u:Value) (ss:List St) (V':Value) (cnt':Int),u=u0/\i=.int .i64 k/\k<=m/\Hd (ss.length<=2*k)/\Hd (BoS d w base g pb (F k) bA bc bs V l u ss V' cnt' wr)) (fun _ i _=>(m-intOf i).toNat)
 case atStart=>exact⟨0,_,[],V,cnt,rfl,rfl,Nat.zero_le _,hd (Nat.le_refl _),hd (HB1.o.less (by rw[HF0.o];omega))⟩
 case round=>
  obtain⟨k,u,ss,V',cnt',rfl,rfl,hk,HSL0,HBk⟩:=hrel;have hm3:=HM3.o;by_cases hlt:k<m
  ·have hlti:(k:Int)<m:=by omega
   have HLT:=hd hlt;have hk3:k<3:=by omega
   have HSL:Hd (ss.length<=4):=hd (by have:=HSL0.o;omega);have HFK:=hd (HFS.o k hk3);go_upto_block 1 with fail
   go_cut [7] (fun u2 wx=>∃(ss2:List St) (V2:Value) (cnt2:Int),Hd (ss2.length<=2*(k+1))/\Hd (BoS d w base g pb (F (k+1)) bA bc bs V l u2 ss2 V2 cnt2 wx))
   case first=>
    have qp:=HBk.o.bld.blk.cell;have qpl:=HBk.o.bld.blk.lt;unfold bldA at qp;go_upto_region 14 with(go_at_call 9;refine(next_any base g (F (k+1)+R-1) 6 _ (HBk.o.bld.stm.less (by rw[HFK.o];have:=HR.o.2;omega)) (by omega)).mono ?_;rintro e w2 ⟨kk,rfl,hkk,hE,hS⟩)
    have HBS:=hd (HBk.o.draw hE hS);clear hE hS hkk qp qpl HBk;go_cut [92] (fun s wx=>s=.bool (decide (kk<2\/d=0))/\wx=w2)
    case first=>
     go_wp2_with fail
     all_goals
      go_meet
      refine⟨congrArg Value.bool ?_,rfl⟩
      first|exact decide_eq_decide.2 (by omega)|exact(decide_eq_true (by omega)).symm|(rw[Bool.eq_iff_iff];simp only[Bool.or_eq_true,decide_eq_true_eq,beq_iff_eq];omega)|(simp_all;done)|(simp_all;omega)
    case rest=>
     obtain⟨rfl,rfl⟩:=hcut;rename World=>w2
     by_cases hq:kk<2\/d=0
     ·skip
      rw[decide_eq_true hq];have hK2:100*KD 2=1000000000:=by decide
      go_wp2_with fail
      refine(gstore_any base g pb (F (k+1)) bc bA bs V' l cnt' w2 (HBS.o.bld.less (by rw[hK2];have:=HR.o.2;omega))).mono ?_
      rintro e w3 ⟨s,rfl,hs,hE,hS⟩;have HB3:=hd (HBS.o.draw hE hS);have HSA:Hd (StA (fun b=>w.heap.size<=b/\u.ownBlock≠some b/\V'.ownBlock≠some b) (20+d) w3 s):=hd (StA.mono (fun b _ hb=>⟨Nat.le_trans HBS.o.box.siz hb,fun e=>by have:=(HBS.o.box.own.lt b e).2;omega,fun e=>by have:=(HBS.o.bld.row.lt b e).2;omega⟩) (by omega) hs);clear hE hS hs;obtain⟨i0,hi0,hz0,hz1,hz2⟩:=stxInfo;have HSB:=hd (Blk.new w3 43 (stA s));have HBA:=hd (HB3.o.grow ((Ext.refl [] w3).alloc (.cells (stA s) 43)));have HSC2:=hd (StA.ext ((Ext.refl [] w3).alloc (.cells (stA s) 43)) (by simp) HSA.o);have HLK:Hd (ss.length<=10):=hd (by have:=HSL.o;omega)
      go_wp2_with (first
       | (
         refine wpList_op_run rfl (.slice (some ⟨w3.heap.size,0,none⟩) 1 1) (w3.alloc (.cells (stA s) 43)) ?rr ?_
         case rr=>
          refine exec_buildSlice rfl _ w3 _ _ (stV s) ?_ ?_
          ·rfl
          ·exact st1_slice w3 s)
       | (
         refine wpList_append_lies _ rfl _ _ 27 rfl w.heap.size 43 i0 _ 21 256 Tryz.underlying27 hi0 hz0 hz1 hz2 rfl (by decide) u ss.length (ss.flatMap stC) rfl HBA.o.box.own ⟨w3.heap.size,0,none⟩ 1 1 (stC s) rfl (stC_len s) ?c1 (stC_one s) (by omega) ?c3 ?c4 HBA.o.box.siz _ rfl ?_
         case c1=>intro j v hj;rw[Addr.add_mk,Nat.zero_add,HSB.o.cell,<-Array.getElem?_toList,<-stC_arr];exact hj
         case c3=>have:=HLK.o;unfold maxLen;omega
         case c4=>have:=HLK.o;omega
         intro g8 c8 w8 ho8 hg8 hi8 ha8;have HE8:Hd (Ext u.ownBlock.toList (w3.alloc (.cells (stA s) 43)) w8):=hd ((Ext.refl _ _).grown hg8 fun q hq=>.inl (Option.mem_toList.2 hq));have HBN:=hd (HBA.o.more HE8.o ho8 (hi8.imp id fun e=>Nat.le_of_eq e.symm) HSC2.o);clear ho8 hg8 hi8 ha8))
      go_meet
      exact⟨ss ++ [s],V',cnt',hd (by rw[List.length_append];have:=HSL0.o;simp;omega),HBN⟩
     ·skip
      rw[decide_eq_false hq];obtain⟨d',hd'⟩:∃d',d'+1=d:=⟨d-1,by omega⟩;have HDD:=hd hd';have HI:=hd (HIH.o d' hd');have hdd:(d:Int)-1=(d':Int):=by omega
      have HRD:Hd (R=4*BD d'/\10000000000<=BD d'):=hd ⟨by have:=HR.o.1;rw[<-hd',BD_succ] at this;omega,BD_pos d'⟩;clear hd';by_cases hk2:kk=2
      ·subst hk2;have HON:=hd (show(whA (.slice none 0 0) (.slice none 0 0)).all (·.oneCell')=true from stArr_one whHd 0 exZ 0);have HSI:=hd (show(Tryz.prog.info? 43).map (·.size)=some (whA (.slice none 0 0) (.slice none 0 0)).size from infoSt);have HZS:=hd (show zSt.size=(whA (.slice none 0 0) (.slice none 0 0)).size from rfl);have HBU:=hd whA_built;have HB3:=hd (Blk.new w2 43 (whA (.slice none 0 0) (.slice none 0 0)));have hE3:Ext [] w2 (w2.alloc (.cells (whA (.slice none 0 0) (.slice none 0 0)) 43)):=(Ext.refl _ _).alloc _;have hs3:(w2.alloc (.cells (whA (.slice none 0 0) (.slice none 0 0)) 43)).heap.size=w2.heap.size+1:=alloc_size _ _;have HBG:=hd (HBS.o.grow hE3);have HUL:Hd (∀q,u.ownBlock=some q->q<w2.heap.size):=hd fun q hq=>(HBS.o.box.own.lt q hq).2
       have HVL:Hd (∀q,V'.ownBlock=some q->q<w2.heap.size):=hd fun q hq=>(HBS.o.bld.row.lt q hq).2
       have HSW:Hd (w.heap.size<=w2.heap.size):=hd HBS.o.box.siz;have HLF:Hd (LoF w2 [g] (w2.heap.size+1) base g pb (F (k+1)+R-1) bA bc bs V' l cnt' w2.heap.size (fun v=>whA v (.slice none 0 0)) (.slice none 0 0) [] (w2.alloc (.cells (whA (.slice none 0 0) (.slice none 0 0)) 43))):=hd ⟨hE3.nil,HBS.o.bld.grow hE3,HB3.o,own_none _ _ _ _,by simp,fun q hq=>⟨by have:=HVL.o q hq;omega,by have:=HVL.o q hq;omega⟩,fun q hq=>by have:=HBS.o.hbf q hq;have:=HSW.o;omega,by simp,Nat.le_refl _,by omega,HBS.o.bld.stm.lt,HBS.o.bld.blk.lt,Nat.le_of_eq hs3.symm⟩;clear hE3 hs3 HB3;generalize whA (.slice none 0 0) (.slice none 0 0)=wa at *
       go_upto_region 18 with(first
        | (refine wpList_built rfl 43 _ rfl wa ?cc ?_;case cc=>refine Eq.trans (congrArg (Tryz.prog.built 43) (?_:_=[(0,Value.int .i64 2)])) HBU.o;simp[Act.eval])
        | refine wpList_make_wide rfl rfl 43 _ _ rfl rfl zSt (zSt_run _) wa rfl rfl HSI.o HZS.o HON.o ?_)
       generalize World.alloc w2 _=w3 at *;have hg2:g<w2.heap.size:=HBS.o.bld.stm.lt;have hp2:pb<w2.heap.size:=HBS.o.bld.blk.lt;generalize heb:w2.heap.size=eb at *;have HEB:=hd heb;clear HON HSI HZS HBU HBG;have qp:=HLF.o.bld.blk.cell;have qpl:=HLF.o.bld.blk.lt;unfold bldA at qp;have HN4:=hd (Blk.new w3 3 (Nums [1,1,2]));have hE4:Ext [] w3 (w3.alloc (.cells (Nums [1,1,2]) 3)):=(Ext.refl _ _).alloc _;have HL4:=hd (HLF.o.draw hE4.nil (HLF.o.bld.stm.ext hE4 (by simp) (by simp)));have hg3:=HLF.o.bld.stm.lt;clear hE4;simp only[Nums,List.map_cons,List.map_nil] at HN4 HL4;go_wp2_with fail
       refine(pick_any base g (F (k+1)+R-10) w3.heap.size 3 3 [1,1,2] _ (HL4.o.bld.stm.less (by have:=HR.o.2;omega)) HN4.o (by omega) (by decide)).mono ?_
       rintro e w5 ⟨r,rfl,hr,hE,hS⟩;have HL5:=hd (HL4.o.draw hE hS);obtain⟨c,rfl⟩:∃k:Nat,r=k:=⟨r.toNat,by simp at hr;omega⟩;have hc2:c<=2:=by simp at hr;omega
       clear hE hS hr qp qpl HN4 HL4 HLF;go_wp2_with fail
       go_loopw [114] (fun i wr=>∃(j:Nat) (v:Value) (cs:List Af),i=.int .i64 j/\j<=c/\Hd (cs.length=j)/\Hd (LoF w2 [g] (eb+1) base g pb (F (k+1)+R-1000+200*(2-j)) bA bc bs V' l cnt' eb (fun v=>whA v (.slice none 0 0)) v cs wr)) (fun i _=>(c-intOf i).toNat)
       case atStart=>exact⟨0,_,[],rfl,Nat.zero_le _,hd rfl,hd (HL5.o.less (by have:=HR.o.2;omega))⟩
       case round=>
        obtain⟨j,v,cs,rfl,hj,HJL,HO⟩:=hrel;by_cases hjc:j<c
        ·have hjci:(j:Int)<c:=by omega
         have HJC:=hd hjc;go_wp2_with fail
         generalize hH:wr.heap.size=H4 at *;have HGH:Hd (g<H4):=hd (by rw[<-hH];exact HO.o.bld.stm.lt);have HHO:Hd (eb+1<=H4):=hd (by rw[<-hH];exact HO.o.hH);have HVB:Hd (∀q,v.ownBlock=some q->q<H4):=hd fun q hq=>by rw[<-hH];exact(HO.o.own.lt q hq).2
         refine rgC 5 20 base g (F (k+1)+R-1000+200*(2-(j+1))) [(3,sAf H4),(4,sAf1 H4)] (Stays.cons (sAf.stays HGH.o) (Stays.cons (sAf1.stays HGH.o) Stays.nil)) (HO.o.bld.stm.less (by omega)) ?_
         simp only[List.take_succ_cons,List.take_zero,List.drop_succ_cons,List.drop_zero]
         repeat
          refine relAt_det rfl rfl ?_
          apply Exists.intro
          refine⟨fun wr nr hJ=>?_,?_⟩
          ·have hB:=HO.o.draw hJ.1 hJ.2;have qe:=hB.blk.cell;have qel:=hB.blk.lt;unfold whA at qe;clear hB;clear hJ;(go_simp;try go_bits)
           first|rfl|exact⟨rfl,rfl⟩
          simp only[Act.put,List.setIfInBounds_toArray,List.set_cons_succ,List.set_cons_zero]
         refine rel_callC (sAf H4) rfl rfl ?_ ?_
         ·apply Exists.intro
          apply Exists.intro
          refine⟨fun wr=>?_,fun wr m' hE hS hm hf=>?_⟩
          ·go_simp
           first|exact⟨rfl,rfl⟩|rfl
          ·refine(gaffine_any base g pb m' bc _ bs V' l cnt' 3 wr ((HO.o.bld.draw hE hS).less (by omega)) (by omega)).mono ?_
           rintro e w' ⟨a,rfl,ha,hE',hS'⟩;exact⟨a,rfl,SeqA.mono ha (fun b _ hb=>by have:=hE.size;omega) (Nat.le_refl _),hE',hS'⟩
         intro (a:Af);simp only[Act.put,List.setIfInBounds_toArray,List.set_cons_succ,List.set_cons_zero];dsimp only[sAf,afV];refine rel_newC (sAf1 H4) rfl rfl ?_ ?_
         ·intro wq hE hf;have hv:(sAf H4).V a wq:=after_get hf 3 (by kernel_rfl);have h1:Ext [] wq (wq.alloc (.cells #[.int .i64 a.base,.slice a.A a.ts.length a.cap] 38)):=(Ext.refl _ _).alloc _;refine⟨(wq.heap.size,a),.cells #[.int .i64 a.base,.slice a.A a.ts.length a.cap] 38,?_,by have:=hE.size;show H4<=wq.heap.size;omega,Blk.new _ _ _,AfA.ext' h1 (by simp) hv⟩
          clear hv hf hE h1;go_simp;try first|rfl|exact⟨rfl,rfl⟩
         rintro⟨kb,y⟩;simp only[Act.put,List.setIfInBounds_toArray,List.set_cons_succ,List.set_cons_zero];dsimp only[sAf1];refine relAt_nil (fun wy hJ hF=>?_)
         have hv:(sAf1 H4).V (kb,y) wy:=hF 4;have HV:=hd hv;have HOy:=hd ((HO.o.draw hJ.1 hJ.2).less (m:=F (k+1)+R-1000+200*(2-(j+1))) (by omega));have HYA:Hd (AfA (fun b=>eb+1<=b/\v.ownBlock≠some b) 20 wy y):=hd (AfA.mono' (fun b _ hb=>⟨Nat.le_trans HHO.o hb,fun e=>by have:=HVB.o b e;omega⟩) (by omega) hv.2.2);clear hJ hF hv;obtain⟨i0,hi0,hz0,hz1,hz2⟩:=afInfo;have hks:cs.length<2:=by rw[HJL.o];omega
         go_wp2_with (
          refine wpList_append_lies _ rfl _ _ 35 rfl (eb+1) 38 i0 _ 2 32 Tryz.underlying35 hi0 hz0 hz1 hz2 rfl (by decide) v cs.length (cs.flatMap afC) rfl HOy.o.own ⟨kb,0,none⟩ 1 1 (afC y) rfl rfl ?c1 (afC_one y) (by omega) ?c3 ?c4 HOy.o.hH _ rfl ?_
          case c1=>intro j u hj;rw[Addr.add_mk,Nat.zero_add,HV.o.2.1.cell,<-Array.getElem?_toList];exact hj
          case c3=>unfold maxLen;omega
          case c4=>omega
          intro g8 c8 w8 ho8 hg8 hi8 ha8;have HE8:Hd (Ext v.ownBlock.toList wy w8):=hd ((Ext.refl _ wy).grown hg8 fun q hq=>.inl (Option.mem_toList.2 hq));have HO9:=hd (HOy.o.more HE8.o (k:=6) (fun a b=>rfl) ho8 (hi8.imp id fun e=>Nat.le_of_eq e.symm) HYA.o);have hb8:=HOy.o.blk.ext HE8.o fun hm=>by have:=own_base HOy.o.own _ (Option.mem_toList.1 hm);omega
          have qe:=hb8.cell;have qef:=hb8.frozen;have qel:=hb8.lt;unfold whA at qe;clear ho8 hg8 hi8 ha8 hb8)
         go_roundw
         case rel=>exact⟨j+1,_,cs ++ [y],by go_num,by have:=HJC.o;omega,hd (by rw[List.length_append,HJL.o];rfl),HO9⟩
         case measure=>simp[intOf];have:=HJC.o;omega
        ·skip
         obtain⟨CA,cc,rfl,-,-⟩:=own_form HO.o.own;obtain⟨-,hcq,hck⟩:=HO.o.conds (by rw[HJL.o];omega) rfl;have HCQ:=hd hcq;have HCK:=hd hck;clear hcq hck;go_wp2_with fail
         refine(HI.o base g pb (F (k+1)) bc bA bs V' l cnt' 2 wr (by omega) (by have:=HL.o;have:=HDD.o;omega) (HO.o.bld.less (by have:=HRD.o;omega))).mono ?_
         rintro e w5 ⟨A,c5,ss5,V2,cnt2,rfl,hq5,hs5,hA5⟩;have hwr:eb<wr.heap.size:=HO.o.blk.lt;have hvl:=HVL.o
         have hne5:∀x∈g :: pb :: V'.ownBlock.toList,x<eb:=fun x hx=>by
          rcases List.mem_cons.1 hx with e|hx
          ·omega
          ·rcases List.mem_cons.1 hx with e|hx
           ·omega
           ·exact hvl x (Option.mem_toList.1 hx)
         have HNE:=hd hne5;have HB5:=hd (HO.o.blk.ext hA5.ext fun hm=>by have:=hne5 _ hm;omega)
         have HVE:Hd (∀q,V2.ownBlock=some q->q≠eb):=hd fun q hq=>by
          rcases hA5.row q hq with e|e
          ·have:=hvl q e;omega
          ·omega
         have hebw:w.heap.size<=eb:=HSW.o;have HX5:Hd (Ext (g :: pb :: V'.ownBlock.toList) w2 w5):=hd ((HO.o.ext.mono fun x hx=>.inl (by rw[List.mem_singleton.1 hx];simp)).trans hA5.ext);have HE6:=hd (Ext.setAt (b:=eb) (i:=7) (u:=.slice A ss5.length c5) (.inl (by simp)) (Ext.refl [eb] w5));have HB6:=hd (HB5.o.set_' 7 (.slice A ss5.length c5) (whA (.slice CA cs.length cc) (.slice A ss5.length c5)) rfl);have HD6:=hd (hA5.bld.one HE6.o HB5.o HVE.o (by have:=HBB.o;omega));have HAF:=hd (After.mk (w:=w2) (V:=V') (V':=V2) (HX5.o.step HE6.o fun x hx=>.inr (by rw[List.mem_singleton.1 hx];omega)) HD6.o (fun q hq=>(hA5.row q hq).imp id fun e=>by have:=HO.o.ext.size;omega));have HBZ:=hd (HBS.o.call HAF.o)
         have HSA:Hd (StA (fun b=>w.heap.size<=b/\u.ownBlock≠some b/\V2.ownBlock≠some b) (20+d) (w5.setCell ⟨eb,7,none⟩ (.slice A ss5.length c5)) (.mk ⟨2,⟨#[]⟩,0,0,0,false,CA,cc,cs,A,c5,0,afZ,.mk exZ []⟩ ss5)):=hd (by
          have hmo:∀b,b<wr.heap.size->eb+1<=b->eb+1<=b/\V2.ownBlock≠some b:=fun b hb h1=>⟨h1,fun e=>by
           rcases hA5.row b e with e1|e1
           ·have:=hvl b e1;omega
           ·omega⟩
          have hf5:∀x∈g :: pb :: V'.ownBlock.toList,¬(eb+1<=x/\V2.ownBlock≠some x):=fun x hx hh=>by have:=HNE.o x hx;omega
          have hf6:∀x∈[eb],¬(eb+1<=x/\V2.ownBlock≠some x):=fun x hx hh=>by rw[List.mem_singleton.1 hx] at hh;omega
          have hf7:∀x∈[eb],¬Fr wr.heap.size V2 x:=fun x hx hh=>by rw[List.mem_singleton.1 hx] at hh;have:=hh.1;omega
          have hp1:∀b,eb+1<=b/\V2.ownBlock≠some b->w.heap.size<=b/\u.ownBlock≠some b/\V2.ownBlock≠some b:=fun b hb=>⟨by omega,fun e=>by have:=HUL.o b e;omega,hb.2⟩
          have hp2:∀b,Fr wr.heap.size V2 b->w.heap.size<=b/\u.ownBlock≠some b/\V2.ownBlock≠some b:=fun b hb=>⟨by have:=hb.1;omega,fun e=>by have:=HUL.o b e;have:=hb.1;omega,hb.2⟩
          refine .mk _ _ ?_ (fun a ha=>?_) (SeqA.nil ..) (.mk _ _ (SeqA.nil ..) (SeqA.nil ..) (fun e h=>by cases h)) (by show parts (.mk exZ [])<=20+d;simp[parts,partsL];omega) (Nat.le_trans (show(⟨#[]⟩:ByteArray).size<=20 by decide) (by omega)) (by omega) ?_ (fun s hs=>?_)
          ·exact SeqA.mono (SeqA.ext (SeqA.ext (SeqA.mono HCQ.o hmo (Nat.le_refl _)) hA5.ext hf5) HE6.o hf6) (fun b _ hb=>hp1 b hb) (by omega)
          ·exact SeqA.mono (SeqA.ext (SeqA.ext (SeqA.mono (HCK.o a ha) hmo (Nat.le_refl _)) hA5.ext hf5) HE6.o hf6) (fun b _ hb=>hp1 b hb) (by omega)
          ·exact SeqA.mono (SeqA.ext hq5 HE6.o hf7) (fun b _ hb=>hp2 b hb) (by omega)
          ·exact StA.mono (fun b _ hb=>hp2 b hb) (by have:=HDD.o;omega) (StA.ext HE6.o hf7 (hs5 s hs)))
         clear hq5 hs5 hA5 hne5 hvl;have qe:=HB5.o.cell;have qef:=HB5.o.frozen;have qel:=HB5.o.lt;unfold whA at qe;go_upto_region 23 with fail
         generalize World.setCell w5 _ _=w6 at *;clear qe qef qel;have HVS:=hd (stV_arr (.mk ⟨2,⟨#[]⟩,0,0,0,false,CA,cc,cs,A,c5,0,afZ,.mk exZ []⟩ ss5));have HBS2:Hd (Blk w6 eb 43 (stA (.mk ⟨2,⟨#[]⟩,0,0,0,false,CA,cc,cs,A,c5,0,afZ,.mk exZ []⟩ ss5))):=hd HB6.o;generalize St.mk ⟨2,⟨#[]⟩,0,0,0,false,CA,cc,cs,A,c5,0,afZ,.mk exZ []⟩ ss5=sx at *;have HI1:=hd (stA_info sx);obtain⟨i0,hi0,hz0,hz1,hz2⟩:=stxInfo;have HSB:=hd (Blk.new w6 43 (stA sx));have HBA:=hd (HBZ.o.grow ((Ext.refl [] w6).alloc (.cells (stA sx) 43)));have HSC2:=hd (StA.ext ((Ext.refl [] w6).alloc (.cells (stA sx) 43)) (by simp) HSA.o);have HLK:Hd (ss.length<=10):=hd (by have:=HSL.o;omega)
         go_wp2_with (first
          | refine wpList_load_wide rfl 43 _ rfl eb 0 rfl (stA sx) HBS2.o.wide _ Tryz.underlying43 rfl HI1.o ?_
          | (
            refine wpList_op_run rfl (.slice (some ⟨w6.heap.size,0,none⟩) 1 1) (w6.alloc (.cells (stA sx) 43)) ?rr ?_
            case rr=>
             refine exec_buildSlice rfl _ w6 _ _ (.agg (stA sx)) ?_ ?_
             ·rfl
             ·exact st1_sliceA w6 sx)
          | (
            refine wpList_append_lies _ rfl _ _ 27 rfl w.heap.size 43 i0 _ 21 256 Tryz.underlying27 hi0 hz0 hz1 hz2 rfl (by decide) u ss.length (ss.flatMap stC) rfl HBA.o.box.own ⟨w6.heap.size,0,none⟩ 1 1 (stC sx) rfl (stC_len sx) ?c1 (stC_one sx) (by omega) ?c3 ?c4 HBA.o.box.siz _ rfl ?_
            case c1=>intro j v hj;rw[Addr.add_mk,Nat.zero_add,HSB.o.cell,<-Array.getElem?_toList,<-stC_arr];exact hj
            case c3=>have:=HLK.o;unfold maxLen;omega
            case c4=>have:=HLK.o;omega
            intro g8 c8 w8 ho8 hg8 hi8 ha8;have HE8:Hd (Ext u.ownBlock.toList (w6.alloc (.cells (stA sx) 43)) w8):=hd ((Ext.refl _ _).grown hg8 fun q hq=>.inl (Option.mem_toList.2 hq));have HBN:=hd (HBA.o.more HE8.o ho8 (hi8.imp id fun e=>Nat.le_of_eq e.symm) HSC2.o);clear ho8 hg8 hi8 ha8))
         go_meet
         exact⟨ss ++ [sx],V2,cnt2,hd (by rw[List.length_append];have:=HSL0.o;simp;omega),HBN⟩
      ·skip
       have HLO:=hd (gloop_any d' HI.o base g pb (F (k+1)+BD d'+100) bc bA bs V' l cnt' w2 (by have:=HL.o;have:=HDD.o;omega) (HBS.o.bld.less (by have:=HRD.o;omega)));rw[HDD.o] at HLO;go_wp2_with fail
       refine HLO.o.mono ?_
       rintro e w3 ⟨s,V2,cnt2,rfl,hs,hA⟩;have HB3:=hd (HBS.o.call hA);have HSA:Hd (StA (fun b=>w.heap.size<=b/\u.ownBlock≠some b/\V2.ownBlock≠some b) (20+d) w3 s):=hd (StA.mono (fun b _ hb=>⟨Nat.le_trans HBS.o.box.siz hb.1,fun e=>by have:=(HBS.o.box.own.lt b e).2;have:=hb.1;omega,hb.2⟩) (Nat.le_refl _) hs);clear hs hA HLO HBS;obtain⟨i0,hi0,hz0,hz1,hz2⟩:=stxInfo;have HSB:=hd (Blk.new w3 43 (stA s));have HBA:=hd (HB3.o.grow ((Ext.refl [] w3).alloc (.cells (stA s) 43)));have HSC2:=hd (StA.ext ((Ext.refl [] w3).alloc (.cells (stA s) 43)) (by simp) HSA.o);have HLK:Hd (ss.length<=10):=hd (by have:=HSL.o;omega)
       go_upto_region 6 with(first
        | (
          refine wpList_op_run rfl (.slice (some ⟨w3.heap.size,0,none⟩) 1 1) (w3.alloc (.cells (stA s) 43)) ?rr ?_
          case rr=>
           refine exec_buildSlice rfl _ w3 _ _ (stV s) ?_ ?_
           ·rfl
           ·exact st1_slice w3 s)
        | (
          refine wpList_append_lies _ rfl _ _ 27 rfl w.heap.size 43 i0 _ 21 256 Tryz.underlying27 hi0 hz0 hz1 hz2 rfl (by decide) u ss.length (ss.flatMap stC) rfl HBA.o.box.own ⟨w3.heap.size,0,none⟩ 1 1 (stC s) rfl (stC_len s) ?c1 (stC_one s) (by omega) ?c3 ?c4 HBA.o.box.siz _ rfl ?_
          case c1=>intro j v hj;rw[Addr.add_mk,Nat.zero_add,HSB.o.cell,<-Array.getElem?_toList,<-stC_arr];exact hj
          case c3=>have:=HLK.o;unfold maxLen;omega
          case c4=>have:=HLK.o;omega
          intro g8 c8 w8 ho8 hg8 hi8 ha8;have HE8:Hd (Ext u.ownBlock.toList (w3.alloc (.cells (stA s) 43)) w8):=hd ((Ext.refl _ _).grown hg8 fun q hq=>.inl (Option.mem_toList.2 hq));have HBN:=hd (HBA.o.more HE8.o ho8 (hi8.imp id fun e=>Nat.le_of_eq e.symm) HSC2.o);clear ho8 hg8 hi8 ha8))
       have qp:=HBN.o.bld.blk.cell;have qpl:=HBN.o.bld.blk.lt;unfold bldA at qp;go_upto_if 34 with(go_at_call 13;refine(flip_any base g (F (k+1)+BD d'+50) 5 _ (HBN.o.bld.stm.less (by omega)) (by omega)).mono ?_;rintro e w9 ⟨fl,rfl,hE,hS⟩)
       have HB9:=hd (HBN.o.draw hE hS);clear hE hS qp qpl HBN HBA HSC2 HSB HE8;cases fl
       ·go_wp2_with fail
        go_meet
        exact⟨ss ++ [s],V2,cnt2,hd (by rw[List.length_append];have:=HSL0.o;simp;omega),hd (HB9.o.less (by omega))⟩
       ·skip
        obtain⟨VA,vc,rfl,-,-⟩:=own_form HB9.o.bld.row
        have HLAST:Hd (∀(j:Nat) (v:Value),(stA s).toList[j]? = some v->w9.cell? ⟨g8,ss.length*21+j,none⟩=some v):=hd fun j v hv=>by
         have hs9:(ss ++ [s])[ss.length]? = some s:=by simp
         have hO:=HB9.o.box.own;have hj:=(List.getElem?_eq_some_iff.1 hv).1;refine cell_row hO rfl ?_
         rw[flat_getG stC_len hs9 (by rw[<-stC_arr,stC_len] at hj;exact hj),stC_arr];exact hv
        have HKS:=hd (HB9.o.box.kid s (by simp));have hg8w:g8<w9.heap.size:=(HB9.o.box.own.lt g8 rfl).2;have hssi:(ss.length:Int)<(ss.length:Int)+1:=by omega
        have hss4:ss.length<=4:=HSL.o;have HIs:=hd (stA_info s);have HOs:=hd (stA_one s);have HZs:=hd (show zSt.size=(stA s).size from rfl);have HBe:=hd (Blk.new w9 43 (stA s));have hE10:Ext [] w9 (w9.alloc (.cells (stA s) 43)):=(Ext.refl _ _).alloc _;have HD10:=hd (HB9.o.bld.grow hE10);have HX10:Hd (Ext (g :: pb :: (Value.slice VA l.length vc).ownBlock.toList) w9 (w9.alloc (.cells (stA s) 43))):=hd hE10.nil;clear hE10
        go_upto_region 8 with(first
         | refine wpList_load_wide rfl 43 _ rfl g8 (ss.length*21) rfl (stA s) HLAST.o _ Tryz.underlying43 rfl HIs.o ?_
         | refine wpList_make_wide rfl rfl 43 _ _ rfl rfl zSt (zSt_run _) (stA s) rfl rfl HIs.o HZs.o HOs.o ?_)
        have hg9:g<w9.heap.size:=HB9.o.bld.stm.lt;have hp9:pb<w9.heap.size:=HB9.o.bld.blk.lt;have HUL:Hd (∀b,(Value.slice (some ⟨g8,0,none⟩) (ss.length+1) c8).ownBlock=some b->b<w9.heap.size):=hd fun b hb=>(HB9.o.box.own.lt b hb).2
        have HVL:Hd (∀q,(Value.slice VA l.length vc).ownBlock=some q->q<w9.heap.size):=hd fun q hq=>(HB9.o.bld.row.lt q hq).2
        have HSW:Hd (w.heap.size<=w9.heap.size):=hd HB9.o.box.siz;have heb9:=HBe.o.lt;generalize World.alloc w9 _=w10 at *;generalize heb:w9.heap.size=eb at *;have HEB:=hd heb;have qp:=HD10.o.blk.cell;have qpf:=HD10.o.blk.frozen;have qpl:=HD10.o.blk.lt;unfold bldA at qp;have q1:=HBe.o.cell 1;have q5:=HBe.o.cell 5;have qef:=HBe.o.frozen;have qel:=HBe.o.lt;rw[show(stA s)[1]? = some (.string s.h.var) from rfl] at q1;rw[show(stA s)[5]? = some (.bool s.h.vec) from rfl] at q5;go_upto_region 9 with fail
        generalize hnm:Utf8.encode _=nm;have HNM:Hd (nm.size<=20):=hd (by rw[<-hnm];exact Nat.le_trans (encode_size_le _) (by omega));clear hnm;have HE11:=hd ((Ext.setAt (b:=eb) (i:=1) (u:=.string nm) (.inl (by simp)) (Ext.refl [eb] w10)).trans (Ext.setAt (b:=eb) (i:=5) (u:=.bool false) (.inl (by simp)) (Ext.refl [eb] _)));have HB11:=hd ((HBe.o.set_' 1 (.string nm) (stA (.mk {s.h with var:=nm } s.body)) rfl).set_' 5 (.bool false) (stA (.mk {s.h with var:=nm,vec:=false } s.body)) rfl);have HD11:=hd (HD10.o.one HE11.o HBe.o (fun q hq=>by have:=HVL.o q hq;omega) (by have:=HBB.o;have:=HSW.o;omega));have HX11:=hd (HX10.o.step HE11.o fun x hx=>.inr (by rw[List.mem_singleton.1 hx];exact Nat.le_of_eq HEB.o));generalize World.setCell (World.setCell w10 _ _) _ _=w11 at *;clear qp qpf qpl q1 q5 qef qel HD10 HX10 HBe HE11;have HSC:Hd (StA (fun b=>w.heap.size<=b/\b≠g8/\(Value.slice VA l.length vc).ownBlock≠some b/\b<eb) (20+d) w9 s):=hd (StA.mono (fun b hb hh=>⟨hh.1,fun e=>hh.2.1 (by rw[e];rfl),hh.2.2,by omega⟩) (Nat.le_refl _) HKS.o);generalize hsc:St.mk {s.h with var:=nm,vec:=false } s.body=sc at *;have HSCQ:=hd hsc;have qp:=HD11.o.blk.cell;have qpf:=HD11.o.blk.frozen;have qpl:=HD11.o.blk.lt;unfold bldA at qp;have HD12:=hd (HD11.o.cnt' (wrap64 (cnt2+1)));have HE12:=hd (Ext.setAt (b:=pb) (i:=4) (u:=.int .i64 (wrap64 (cnt2+1))) (.inl (by simp)) (Ext.refl [pb] w11));go_upto_region 10 with fail
        generalize World.setCell w11 _ _=w12 at *;have HBe12:=hd (HB11.o.ext HE12.o (by rw[List.mem_singleton];omega));have HX12:=hd (HX11.o.trans (HE12.o.mono fun x hx=>.inl (by rw[List.mem_singleton.1 hx];simp)));clear qp qpf qpl HD11 HB11 HX11 HE12 hsc;generalize wrap64 (cnt2+1)=cnt3 at *;have HVP:=hd HD12.o.vpb;have HRB:Hd (w.heap.size<=w12.heap.size):=hd (by have:=HX12.o.size;have:=HSW.o;omega);have HSZ5:Hd (w9.heap.size<=w12.heap.size):=hd HX12.o.size;have HL2:Hd (l.length<=2):=hd (by have:=HL.o;have:=HDD.o;omega);have HIc:=hd (stA_info sc);have HOc:=hd (stA_one sc);have HSC3:=hd (stC_arr sc);have HS21:=hd (stA_size sc)
        have HEBN:Hd (eb∉pb :: (Value.slice VA l.length vc).ownBlock.toList):=hd (by
         intro hm;rcases List.mem_cons.1 hm with e|e
         ·omega
         ·have:=HVL.o eb (Option.mem_toList.1 e);omega)
        have heb12:=HBe12.o.lt;refine rgP base pb g bs.length bc bA VA vc l cnt3 rfl (fun i hi oi ho=>by rcases hi with rfl|rfl|rfl<;>(cases ho;rfl)) HD12.o.row HD12.o.blk ?_
        simp only[List.take_succ_cons,List.take_zero,List.drop_succ_cons,List.drop_zero];have hpw:pb<w12.heap.size:=HD12.o.blk.lt
        repeat
         refine relAt_detU rfl rfl ?_
         apply Exists.intro
         refine⟨fun wr nr hg hJ=>?_,?_⟩
         ·clear hg;clear hJ;(go_simp;try go_bits)
          first|rfl|exact⟨rfl,rfl⟩
         simp only[Act.put,List.setIfInBounds_toArray,List.set_cons_succ,List.set_cons_zero]
        refine relAt_detU rfl rfl ?_
        apply Exists.intro
        refine⟨fun wr nr hg hJ=>?_,?_⟩
        ·have hB:=hJ.blk (hg.later 12 (by kernel_rfl));have qp:=hB.cell;have qpl:=hB.lt;unfold bldA at qp;clear hB hg;clear hJ;(go_simp;try go_bits)
         first|rfl|exact⟨rfl,rfl⟩
        simp only[Act.put,List.setIfInBounds_toArray,List.set_cons_succ,List.set_cons_zero];refine relAt_detU rfl rfl ⟨.agg (stA sc),fun wr nr hg hJ=>?_,?_⟩
        ·exact exec_load_wide 43 _ rfl eb 0 rfl (stA sc) (HBe12.o.ext hJ.ext HEBN.o).wide _ Tryz.underlying43 rfl HIc.o
        simp only[Act.put,List.setIfInBounds_toArray,List.set_cons_succ,List.set_cons_zero]
        repeat
         refine relAt_detU rfl rfl ?_
         apply Exists.intro
         refine⟨fun wr nr hg hJ=>?_,?_⟩
         ·clear hg;clear hJ;(go_simp;try go_bits)
          first|rfl|exact⟨rfl,rfl⟩
         simp only[Act.put,List.setIfInBounds_toArray,List.set_cons_succ,List.set_cons_zero]
        refine relAt_valueU (sFix (.slice (some ⟨w12.heap.size,0,none⟩) 1 1)) rfl rfl (fun wr nr hg hJ hf=>?_) ?_
        ·obtain⟨h1,h2,h3⟩:=hJ.make hg.mine;refine⟨(),_,?_,trivial,h2,h3⟩
         rw[<-h1];refine exec_buildSlice rfl _ wr _ _ (.agg zSt) ?_ ?_
         ·rfl
         ·exact st0_slice wr
        rintro⟨⟩;simp only[Act.put,List.setIfInBounds_toArray,List.set_cons_succ,List.set_cons_zero];dsimp only[sFix];refine relAt_valueU (sV7 base (.slice VA l.length vc) l w12.heap.size) rfl rfl (fun wr nr hg hJ hf=>?_) ?_
        ·obtain⟨gp8,cp8,w',h1,h2,h3,h4⟩:=hJ.app 27 hg.mine (hg.done 6 (by kernel_rfl)) (hg.later 12 (by kernel_rfl)) HL2.o (by have:=HBB.o;have:=HRB.o;have:=HSZ5.o;omega) HVP.o hpw;refine⟨(gp8,cp8),w',?_,h2,h3,h4⟩
         refine exec_append rfl _ wr w' _ _ _ ?_ ?_ h1
         ·rfl
         ·rfl
        rintro⟨gp8,cp8⟩;simp only[Act.put,List.setIfInBounds_toArray,List.set_cons_succ,List.set_cons_zero];dsimp only[sV7];have hnn:(l.length:Int)<(l.length:Int)+1:=by omega
        repeat
         refine relAt_detU rfl rfl ?_
         apply Exists.intro
         refine⟨fun wr nr hg hJ=>?_,?_⟩
         ·clear hg;clear hJ;(go_simp;try go_bits)
          first|rfl|exact⟨rfl,rfl⟩
         simp only[Act.put,List.setIfInBounds_toArray,List.set_cons_succ,List.set_cons_zero]
        refine relAt_sayU sUn rfl rfl (fun _=>rfl) (fun wr nr hg hJ hf=>?_) ?_
        ·have hv:(sV7 base (.slice VA l.length vc) l w12.heap.size).V (gp8,cp8) wr:=after_get hf 7 (by kernel_rfl);obtain⟨C,h1,h2,h3,h4⟩:=hJ.lay (hg.done 7 (by kernel_rfl)) (hg.done 6 (by kernel_rfl)) hv sc HVP.o hpw (Nat.le_refl _);refine⟨(),_,?_,trivial,h3,h4⟩
         rw[HSC3.o];refine exec_store_mid rfl _ wr gp8 (l.length*21) (stA sc) C 43 ?_ ?_ h1 (by rw[HS21.o];exact h2) HIc.o HOc.o
         ·rfl
         ·rfl
        rintro⟨⟩;simp only[Act.put,List.setIfInBounds_toArray,List.set_cons_succ,List.set_cons_zero];dsimp only[sUn]
        repeat
         refine relAt_detU rfl rfl ?_
         apply Exists.intro
         refine⟨fun wr nr hg hJ=>?_,?_⟩
         ·clear hg;clear hJ;(go_simp;try go_bits)
          first|rfl|exact⟨rfl,rfl⟩
         simp only[Act.put,List.setIfInBounds_toArray,List.set_cons_succ,List.set_cons_zero]
        refine relAt_sayU (sV12 base (.slice VA l.length vc) l w12.heap.size pb g bA bs.length bc cnt3) rfl rfl (fun _=>rfl) (fun wr nr hg hJ hf=>?_) ?_
        ·have hv:(sV7 base (.slice VA l.length vc) l w12.heap.size).V (gp8,cp8) wr:=after_get hf 7 (by kernel_rfl);have h12:=hg.mine;obtain⟨h1,h2,h3,h4⟩:=hJ.ptr (hg.done 7 (by kernel_rfl)) (hg.done 6 (by kernel_rfl)) h12 hv (.slice (some ⟨gp8,0,none⟩) (l.length+1) cp8) (pshA g bA bs.length bc l.length cnt3 (gp8,cp8)) rfl;refine⟨(gp8,cp8),_,?_,⟨h1,h2⟩,h3,h4⟩
         have hB:=hJ.blk h12;have qp:=hB.cell;have qpf:=hB.frozen;have qpl:=hB.lt;unfold bldA at qp;clear hB hv h1 h2 h3 h4 hJ hf hg;go_simp
        rintro⟨g9,c9⟩;simp only[Act.put,List.setIfInBounds_toArray,List.set_cons_succ,List.set_cons_zero];dsimp only[sV12];refine relAt_nilU (fun wz r13 hr hJ hF=>?_)
        have hz:(sV12 base (.slice VA l.length vc) l w12.heap.size pb g bA bs.length bc cnt3).V (g9,c9) wz:=hF 12;have HEZ:=hd hJ.ext;obtain⟨s9,hbz⟩:=HD12.o.push HL2.o HEZ.o hz.1 hz.2;have HDZ:=hd hbz;have HV9:=hd hz.2.1;dsimp only at HDZ HV9;clear hJ hF hr hz hbz;have HXZ:=hd (HX12.o.trans (HEZ.o.mono fun x hx=>.inl (List.mem_cons_of_mem _ hx)));have HBZ:=hd (HBe12.o.ext HEZ.o HEBN.o)
        have HRW:Hd (∀q,(Value.slice (some ⟨g9,0,none⟩) (l.length+1) c9).ownBlock=some q->((Value.slice VA l.length vc).ownBlock=some q\/w9.heap.size<=q)/\q≠eb):=hd fun q hq=>by
         have hq9:q=g9:=by cases hq;rfl
         rcases HV9.o with e|e
         ·exact⟨.inl (by rw[hq9];exact e),by have:=HVL.o g9 e;omega⟩
         ·exact⟨.inr (by have:=HSZ5.o;omega),by omega⟩
        clear HX12 HBe12 HEZ HD12 HEBN HV9;go_wp2_with fail
        refine(HI.o base g pb (F (k+1)) bc bA bs _ (l ++ [s9]) cnt3 2 wz (by omega) (by have:=HL.o;have:=HDD.o;simp;omega) (HDZ.o.less (by omega))).mono ?_
        rintro e wb ⟨A,cB,ssB,V3,cnt4,rfl,hqB,hsB,hAB⟩;have hwz:eb<wz.heap.size:=HBZ.o.lt;have hrw:=HRW.o
        have hne:∀x∈g :: pb :: (Value.slice (some ⟨g9,0,none⟩) (l.length+1) c9).ownBlock.toList,x≠eb:=fun x hx=>by
         rcases List.mem_cons.1 hx with e|hx
         ·omega
         ·rcases List.mem_cons.1 hx with e|hx
          ·omega
          ·exact(hrw x (Option.mem_toList.1 hx)).2
        have HBb:=hd (HBZ.o.ext hAB.ext fun hm=>hne _ hm rfl)
        have HXb:Hd (Ext (g :: pb :: (Value.slice VA l.length vc).ownBlock.toList) w9 wb):=hd (HXZ.o.step hAB.ext fun x hx=>by
         rcases List.mem_cons.1 hx with e|hx
         ·exact .inl (by rw[e];simp)
         ·rcases List.mem_cons.1 hx with e|hx
          ·exact .inl (by rw[e];simp)
          ·exact(hrw x (Option.mem_toList.1 hx)).1.imp (fun e=>List.mem_cons_of_mem _ (List.mem_cons_of_mem _ (Option.mem_toList.2 e))) id)
        have HR3:Hd (∀q,V3.ownBlock=some q->((Value.slice VA l.length vc).ownBlock=some q\/w9.heap.size<=q)/\q≠eb):=hd fun q hq=>by
         rcases hAB.row q hq with e|e
         ·exact hrw q e
         ·exact⟨.inr (by have:=HXZ.o.size;omega),by omega⟩
        have HQB:=hd hqB;have HSB':=hd hsB;have HDb:=hd hAB.bld;clear hqB hsB hAB hne hrw;have q7:=HBb.o.cell 7;rw[show(stA sc)[7]? = some (.slice sc.h.A sc.body.length sc.h.cap) from rfl] at q7;have qef:=HBb.o.frozen;have qel:=HBb.o.lt;have HE13:=hd (Ext.setAt (b:=eb) (i:=7) (u:=.slice A ssB.length cB) (.inl (by simp)) (Ext.refl [eb] wb));have HB13:=hd (HBb.o.set_' 7 (.slice A ssB.length cB) (stA (.mk {sc.h with A:=A,cap:=cB } ssB)) rfl);have HD13:=hd (HDb.o.one HE13.o HBb.o (fun q hq=>(HR3.o q hq).2) (by have:=HBB.o;have:=HSW.o;omega));have HX13:=hd (HXb.o.step HE13.o fun x hx=>.inr (by rw[List.mem_singleton.1 hx];exact Nat.le_of_eq HEB.o));go_upto_region 12 with fail
        generalize World.setCell wb _ _=w13 at *;clear q7 qef qel HDb HXb;obtain⟨VA',vc',hV',hcap,hnz⟩:=own_form HD13.o.row;obtain⟨q,hq,-,hqw⟩:=hnz (by simp);subst hq;have hln:(l ++ [s9]).length=l.length+1:=by simp
        rw[hln] at hV' hcap;subst hV';have hcl:l.length<=vc':=by omega
        have hcli:(l.length:Int)<=(vc':Int):=by omega
        have HMB:=HD13;have HQR:=hd (HR3.o q rfl);clear hnz hln;have hl2:l.length<=2:=HL2.o;refine wp_region_rel 12 (JE _) (Ext []) (kinds []) (by kernel_rfl) (by kernel_rfl) JE.less Stays.nil JE.start ?_
        simp only[List.take_succ_cons,List.take_zero,List.drop_succ_cons,List.drop_zero]
        repeat
         refine relAt_det rfl rfl ?_
         apply Exists.intro
         refine⟨fun wr nr hJ=>?_,?_⟩
         ·have hB:=HMB.o.blk.ext hJ (by simp);have qp:=hB.cell;have qpl:=hB.lt;unfold bldA at qp;clear hB;clear hJ;(go_simp;try go_bits)
          first|rfl|exact⟨rfl,rfl⟩
         simp only[Act.put,List.setIfInBounds_toArray,List.set_cons_succ,List.set_cons_zero]
        refine relAt_nil (fun wp hJ hF=>?_)
        have HJP:=hd hJ;clear hJ hF;have HDP:=hd (HMB.o.grow HJP.o);have HBP:=hd (HB13.o.ext HJP.o (by simp));have qp:=HDP.o.blk.cell;have qpf:=HDP.o.blk.frozen;have qpl:=HDP.o.blk.lt;unfold bldA at qp;have HPO:=hd HDP.o.pop;have HEO:=hd (Ext.setAt (b:=pb) (i:=3) (u:=.slice (some ⟨q,0,none⟩) l.length vc') (.inl (by simp)) (Ext.refl [pb] wp));go_upto_region 13 with fail
        generalize World.setCell wp _ _=wo at *;clear qp qpf qpl;have HBO:=hd (HBP.o.ext HEO.o (by rw[List.mem_singleton];omega));have HXO:=hd ((HX13.o.trans HJP.o.nil).trans (HEO.o.mono fun x hx=>.inl (by rw[List.mem_singleton.1 hx];simp)));have HAF:=hd (After.mk (w:=w9) (V:=.slice VA l.length vc) (V':=.slice (some ⟨q,0,none⟩) l.length vc') HXO.o HPO.o (fun k hk=>(HR3.o k hk).1));have HBZ9:=hd (HB9.o.call HAF.o)
        have HSF:Hd (StA (fun b=>w.heap.size<=b/\(Value.slice (some ⟨g8,0,none⟩) (ss.length+1) c8).ownBlock≠some b/\(Value.slice (some ⟨q,0,none⟩) l.length vc').ownBlock≠some b) (20+d) wo (.mk {sc.h with A:=A,cap:=cB } ssB)):=hd (by
         have hsc:=HSCQ.o;subst hsc;obtain⟨hcd,hcs,hat,hvl,hpp,hzz,-,-⟩:=(show StA _ (20+d) w9 (.mk s.h s.body) from by cases s;exact HSC.o).all;have hg0:=HB9.o.g0;have hp0:=HB9.o.p0
         have hX:∀x∈g :: pb :: (Value.slice VA l.length vc).ownBlock.toList,¬(w.heap.size<=x/\x≠g8/\(Value.slice VA l.length vc).ownBlock≠some x/\x<eb):=fun x hx hh=>by
          rcases List.mem_cons.1 hx with e|hx
          ·omega
          ·rcases List.mem_cons.1 hx with e|hx
           ·omega
           ·exact hh.2.2.1 (Option.mem_toList.1 hx)
         have hP:∀b,(w.heap.size<=b/\b≠g8/\(Value.slice VA l.length vc).ownBlock≠some b/\b<eb)->w.heap.size<=b/\(Value.slice (some ⟨g8,0,none⟩) (ss.length+1) c8).ownBlock≠some b/\(Value.slice (some ⟨q,0,none⟩) l.length vc').ownBlock≠some b:=fun b hb=>⟨hb.1,fun e=>hb.2.1 (by cases e;rfl),fun e=>by
          have hqb:q=b:=by cases e;rfl
          subst hqb;rcases HQR.o.1 with e1|e1
          ·exact hb.2.2.1 e1
          ·have:=hb.2.2.2;have:=HEB.o;omega⟩
         have h13:∀x∈[eb],¬Fr wz.heap.size (.slice (some ⟨q,0,none⟩) (l.length+1) vc') x:=fun x hx hh=>by rw[List.mem_singleton.1 hx] at hh;have:=hh.1;omega
         have h14:∀x∈[pb],¬Fr wz.heap.size (.slice (some ⟨q,0,none⟩) (l.length+1) vc') x:=fun x hx hh=>by rw[List.mem_singleton.1 hx] at hh;have:=hh.1;omega
         have hZ:w9.heap.size<=wz.heap.size:=HXZ.o.size;have hP2:∀b,Fr wz.heap.size (.slice (some ⟨q,0,none⟩) (l.length+1) vc') b->w.heap.size<=b/\(Value.slice (some ⟨g8,0,none⟩) (ss.length+1) c8).ownBlock≠some b/\(Value.slice (some ⟨q,0,none⟩) l.length vc').ownBlock≠some b:=fun b hb=>⟨by have:=hb.1;have:=HSW.o;have:=HEB.o;omega,fun e=>by have:=HUL.o b e;have:=hb.1;have:=HEB.o;omega,fun e=>hb.2 (by cases e;rfl)⟩
         refine .mk _ _ ?_ (fun a ha=>?_) ?_ ?_ hpp (Nat.le_trans HNM.o (by omega)) (by omega) ?_ (fun z hz=>?_)
         ·exact SeqA.mono (SeqA.ext hcd HXO.o hX) (fun b _ hb=>hP b hb) (Nat.le_refl _)
         ·exact SeqA.mono (SeqA.ext (hcs a ha) HXO.o hX) (fun b _ hb=>hP b hb) (Nat.le_refl _)
         ·exact SeqA.mono (SeqA.ext hat HXO.o hX) (fun b _ hb=>hP b hb) (Nat.le_refl _)
         ·exact ExA.mono (fun b _ hb=>hP b hb) (Nat.le_refl _) (ExA.ext HXO.o hX hvl)
         ·exact SeqA.mono (SeqA.ext (SeqA.ext (SeqA.ext HQB.o HE13.o h13) HJP.o (by simp)) HEO.o h14) (fun b _ hb=>hP2 b hb) (by omega)
         ·exact StA.mono (fun b _ hb=>hP2 b hb) (by have:=HDD.o;omega) (StA.ext HEO.o h14 (StA.ext HJP.o (by simp) (StA.ext HE13.o h13 (HSB'.o z hz)))))
        have HIx:=hd (stA_info (.mk {sc.h with A:=A,cap:=cB } ssB));generalize St.mk {sc.h with A:=A,cap:=cB } ssB=sf at *;have HSA:=HSF;have hss5:(ss ++ [s]).length<=5:=by simp;omega
        have hss6:(ss ++ [s]).length=ss.length+1:=by simp
        generalize hu3:Value.slice (some ⟨g8,0,none⟩) (ss.length+1) c8=u3 at *;generalize hSS:ss ++ [s]=ss3 at *;have HS3:Hd (ss3.length=ss.length+1):=hd (by rw[<-hSS];simp);have HSL3:=hd hss5;clear hu3 hSS hss6 hss5 HLK;obtain⟨i0,hi0,hz0,hz1,hz2⟩:=stxInfo;have HSB:=hd (Blk.new wo 43 (stA sf));have HBA:=hd (HBZ9.o.grow ((Ext.refl [] wo).alloc (.cells (stA sf) 43)));have HSC2:=hd (StA.ext ((Ext.refl [] wo).alloc (.cells (stA sf) 43)) (by simp) HSA.o);have HLK:Hd (ss3.length<=10):=hd (by have:=HSL3.o;omega)
        go_wp2_with (first
         | refine wpList_load_wide rfl 43 _ rfl eb 0 rfl (stA sf) HBO.o.wide _ Tryz.underlying43 rfl HIx.o ?_
         | (
           refine wpList_op_run rfl (.slice (some ⟨wo.heap.size,0,none⟩) 1 1) (wo.alloc (.cells (stA sf) 43)) ?rr ?_
           case rr=>
            refine exec_buildSlice rfl _ wo _ _ (.agg (stA sf)) ?_ ?_
            ·rfl
            ·exact st1_sliceA wo sf)
         | (
           refine wpList_append_lies _ rfl _ _ 27 rfl w.heap.size 43 i0 _ 21 256 Tryz.underlying27 hi0 hz0 hz1 hz2 rfl (by decide) u3 ss3.length (ss3.flatMap stC) rfl HBA.o.box.own ⟨wo.heap.size,0,none⟩ 1 1 (stC sf) rfl (stC_len sf) ?c1 (stC_one sf) (by omega) ?c3 ?c4 HBA.o.box.siz _ rfl ?_
           case c1=>intro j v hj;rw[Addr.add_mk,Nat.zero_add,HSB.o.cell,<-Array.getElem?_toList,<-stC_arr];exact hj
           case c3=>have:=HLK.o;unfold maxLen;omega
           case c4=>have:=HLK.o;omega
           intro g8 c8 w8 ho8 hg8 hi8 ha8;have HE8:Hd (Ext u3.ownBlock.toList (wo.alloc (.cells (stA sf) 43)) w8):=hd ((Ext.refl _ _).grown hg8 fun q hq=>.inl (Option.mem_toList.2 hq));have HBN:=hd (HBA.o.more HE8.o ho8 (hi8.imp id fun e=>Nat.le_of_eq e.symm) HSC2.o);clear ho8 hg8 hi8 ha8))
        go_meet
        exact⟨ss3 ++ [sf],_,cnt4,hd (by rw[List.length_append,HS3.o];have:=HSL0.o;simp;omega),HBN⟩
   case rest=>
    obtain⟨ss2,V2,cnt2,HSL2,HB2⟩:=hcut;have hkm:=HLT.o;go_wp2_with fail
    go_roundw
    case rel=>exact⟨k+1,_,ss2,V2,cnt2,rfl,by go_num,by omega,HSL2,HB2⟩
    case measure=>simp[intOf];omega
  ·go_wp2_with fail
   obtain⟨A,c,rfl,-,-⟩:=own_form HBk.o.box.own;have hs20:ss.length<=20:=by have:=HSL0.o;omega
   have HSQ:=hd (SeqA.own (P:=fun b=>w.heap.size<=b/\V'.ownBlock≠some b) (N:=20) stC_len HBk.o.box.own hs20 (by decide) (fun q hq h1 _=>⟨h1,HBk.o.box.sep q (by rw[hq];rfl)⟩)).2;go_ret
   exact⟨A,c,ss,V',cnt',rfl,HSQ.o,fun s hs=>StA.mono (fun b _ hb=>⟨hb.1,hb.2.2⟩) (Nat.le_refl _) (HBk.o.box.kid s hs),HBk.o.ext,HBk.o.bld.less (HFN.o _),HBk.o.row⟩
end
section
theorem gbody_any:∀d,d<=3->BodC d
 | 0,h=>gbody_step 0 h fun e he=>by omega
 | d+1,h=>gbody_step (d+1) h fun e he=>by
  have:e=d:=by omega
  subst this;exact gbody_any e (by omega)
theorem inC_len (x:Int):(inC x).length=1:=rfl
theorem flat_inC (xs:List Int):xs.flatMap inC=xs.map (Value.int .i64):=by
 induction xs with
 | nil=>rfl
 | cons x xs ih=>rw[List.flatMap_cons,ih];rfl
set_option maxHeartbeats 8000000 in
set_option maxRecDepth 100000 in
theorem gwords_any (base g n N:Nat)(hN:N<=20)(w:World)(h:Stm w base g (n+100)) :
  Calls Tryz.prog 103 #[.pointer (some ⟨g,0,none⟩),.int .i64 N] w fun e w'=>∃(A:Option Addr) (c:Nat) (xs:List Int),e=.returned (.slice A xs.length c)/\SeqA (fun b=>w.heap.size<=b) 20 w' A 1 inC xs/\Ext [g] w w'/\Stm w' base g n:=by
 have HS:=hd h;have hg:=h.lt;clear h;go_enter Tryz.func103,Tryz.ntmps103
 go_wp2_with fail
 go_loopw [5,7] (fun v0 i wr=>∃(k:Nat) (v:Value) (xs:List Int),v=v0/\i=.int .i64 k/\k<=N/\Hd (xs.length=k)/\Hd (Ext [g] w wr)/\Hd (Stm wr base g (n+3*(20-k)+10))/\Hd (wr.ownsRow w.heap.size 3 1 v k (xs.map (Value.int .i64)))) (fun _ i _=>(N-intOf i).toNat)
 case atStart=>exact⟨0,_,[],rfl,rfl,Nat.zero_le _,hd rfl,hd (Ext.refl _ _),hd (HS.o.less (by omega)),hd (own_none _ _ _ _)⟩
 case round=>
  obtain⟨k,v,xs,rfl,rfl,hk,HKL,HE,HSk,HO⟩:=hrel;by_cases hlt:k<N
  ·have hlti:(k:Int)<N:=by omega
   go_wp2_with fail
   refine(word_any base g (n+3*(20-(k+1))+10) wr (HSk.o.less (by omega))).mono ?_
   rintro e w2 ⟨r,rfl,_,hE,hS⟩;have HE2:=hd (HE.o.trans hE);have HS2:=hd hS;have HO2:=hd (own_ext HO.o hE fun q hq=>by have:=own_base HO.o q hq;rw[List.mem_singleton];omega);have hsz:w.heap.size<=w2.heap.size:=HE2.o.size;clear hE hS HO HE HSk;obtain⟨i0,hi0,hz0,hz1,hz2⟩:=intInfo;have HS9:=hd (Blk.new w2 3 #[.int .i64 r])
   go_wp2_with (
    refine wpList_append_lies _ rfl _ _ 22 rfl w.heap.size 3 i0 _ 1 8 Tryz.underlying22 hi0 hz0 hz1 hz2 rfl (by decide) v k (xs.map (Value.int .i64)) rfl ?c0 ⟨w2.heap.size,0,none⟩ 1 1 [.int .i64 r] rfl rfl ?c1 ?c2 (by omega) ?c3 ?c4 ?c5 _ rfl ?_
    case c0=>exact own_ext HO2.o ((Ext.refl [] w2).alloc _) (by simp)
    case c1=>exact new_one _ _ _ (HS9.o.cell 0)
    case c2=>intro u hu;rw[List.mem_singleton.1 hu];rfl
    case c3=>unfold maxLen;omega
    case c4=>omega
    case c5=>exact Nat.le_trans hsz ((Ext.refl [] w2).alloc _).size
    intro g8 c8 w8 ho8 hg8 hi8 ha8;have HO8:=hd ho8;have hE8:Ext v.ownBlock.toList w2 w8:=((Ext.refl _ w2).alloc _).grown hg8 fun q hq=>.inl (Option.mem_toList.2 hq)
    have hb8:∀q∈v.ownBlock.toList,w.heap.size<=q:=fun q hq=>own_base HO2.o q (Option.mem_toList.1 hq)
    have HX8:=hd (HE2.o.step hE8 fun q hq=>.inr (hb8 q hq));have HS8:=hd (HS2.o.ext hE8 (fun hm=>by have:=hb8 _ hm;omega) (fun q hq=>by have:=hb8 q hq;have:=HS.o.base;omega));clear ho8 hg8 hi8 ha8 hE8 hb8)
   go_roundw
   case rel=>exact⟨k+1,_,xs ++ [r],rfl,by go_num,by omega,hd (by rw[List.length_append,HKL.o];rfl),HX8,HS8,hd (by rw[List.map_append];exact HO8.o)⟩
   case measure=>simp[intOf];omega
  ·have hkN:k=N:=by omega
   have hlti:¬(k:Int)<N:=by omega
   subst hkN;obtain⟨A,c,rfl,-,-⟩:=own_form HO.o;have hO:=HO.o;rw[<-flat_inC,<-HKL.o] at hO;have HSQ:=hd (SeqA.own (P:=fun b=>w.heap.size<=b) (N:=20) inC_len hO (by rw[HKL.o];exact hN) (by decide) (fun q _ h1 _=>h1)).2;clear hO;go_wp2_with fail
   go_ret
   exact⟨A,c,xs,by rw[HKL.o];rfl,HSQ.o,HE.o,HSk.o.less (by omega)⟩
structure PrS (w:World)(H base g pb n rb:Nat)(v:Value)(bs:List Bf)(wx:World):Prop where
 ext:Ext [g] w wx
 stm:Stm wx base g n
 blk:Blk wx pb 188 #[.pointer (some ⟨g,0,none⟩),v,.slice none 0 0,.slice none 0 0,.int .i64 0]
 res:Blk wx rb 29 #[.slice none 0 0,.slice none 0 0]
 own:wx.ownsRow H 45 4 v bs.length (bs.flatMap bfC)
 kid:∀b∈bs,BfA (fun q=>H<=q/\v.ownBlock≠some q) 20 wx b
 siz:∀b∈bs,1<=b.size/\b.size<=1000
 rb0:w.heap.size<=rb
 rbp:rb<pb
 pbH:pb<H
 g0:g<w.heap.size
 bw:base<=w.heap.size
 hH:H<=wx.heap.size
section
variable {w wx wy:World} {H base g pb n m rb:Nat} {v:Value} {bs:List Bf}
theorem PrS.draw (h:PrS w H base g pb n rb v bs wx)(hE:Ext [g] wx wy)(hS:Stm wy base g m):PrS w H base g pb m rb v bs wy:=by
 have h0:=h.g0;have h1:=h.rb0;have h2:=h.rbp;have h3:=h.pbH
 exact⟨h.ext.trans hE,hS,h.blk.ext hE (by rw[List.mem_singleton];omega),h.res.ext hE (by rw[List.mem_singleton];omega),own_ext h.own hE fun q hq=>by have:=own_base h.own q hq;rw[List.mem_singleton];omega,
  fun x hx=>BfA.ext hE (fun y hy hh=>by rw[List.mem_singleton.1 hy] at hh;have:=hh.1;omega) (h.kid x hx),h.siz,h.rb0,h.rbp,h.pbH,h.g0,h.bw,Nat.le_trans h.hH hE.size⟩
theorem PrS.less (h:PrS w H base g pb n rb v bs wx)(hm:m<=n):PrS w H base g pb m rb v bs wx:=⟨h.ext,h.stm.less hm,h.blk,h.res,h.own,h.kid,h.siz,h.rb0,h.rbp,h.pbH,h.g0,h.bw,h.hH⟩
theorem PrS.far (h:PrS w H base g pb n rb v bs wx){q:Nat}(hE:Ext [q] wx wy)(hq:H<=q)(hv:v.ownBlock≠some q)(hk:∀b∈bs,BfA (fun x=>(H<=x/\v.ownBlock≠some x)/\x≠q) 20 wx b):PrS w H base g pb n rb v bs wy:=by
 have h0:=h.g0;have h1:=h.rb0;have h2:=h.rbp;have h3:=h.pbH;have hb:=h.bw
 exact⟨h.ext.step hE fun x hx=>.inr (by rw[List.mem_singleton.1 hx];omega),h.stm.ext hE (by rw[List.mem_singleton];omega) (fun x hx=>by rw[List.mem_singleton.1 hx];omega),h.blk.ext hE (by rw[List.mem_singleton];omega),h.res.ext hE (by rw[List.mem_singleton];omega),
  own_ext h.own hE fun x hx=>by rw[List.mem_singleton];exact fun e=>hv (e ▸ hx),fun x hx=>BfA.mono (fun b _ hh=>hh.1) (Nat.le_refl _) (BfA.ext hE (fun y hy hh=>hh.2 (List.mem_singleton.1 hy)) (hk x hx)),h.siz,h.rb0,h.rbp,h.pbH,h.g0,h.bw,Nat.le_trans h.hH hE.size⟩
theorem PrS.more (h:PrS w H base g pb n rb v bs wx)(hE:Ext v.ownBlock.toList wx wy){g8 c8:Nat}{b:Bf}(hO:wy.ownsRow H 45 4 (.slice (some ⟨g8,0,none⟩) (bs.length+1) c8) (bs.length+1) (bs.flatMap bfC ++ bfC b))(hg8:v.ownBlock=some g8\/wx.heap.size<=g8)
  (hb:BfA (fun q=>H<=q/\v.ownBlock≠some q) 20 wx b) (hz:1<=b.size/\b.size<=1000):PrS w H base g pb n rb (.slice (some ⟨g8,0,none⟩) (bs.length+1) c8) (bs ++ [b]) (wy.setCell ⟨pb,1,none⟩ (.slice (some ⟨g8,0,none⟩) (bs.length+1) c8)):=by
 have hE2:Ext [pb] wy (wy.setCell ⟨pb,1,none⟩ (.slice (some ⟨g8,0,none⟩) (bs.length+1) c8)):=Ext.setAt (.inl (by simp)) (Ext.refl _ _);have g0:=h.g0;have h1:=h.rb0;have h2:=h.rbp;have h3:=h.pbH;have hbw:=h.bw;have hq:∀q∈v.ownBlock.toList,H<=q:=fun q hq=>own_base h.own q (Option.mem_toList.1 hq)
 have hq8:H<=g8:=own_base hO g8 rfl;have hp:Blk wy pb 188 _:=h.blk.ext hE fun hm=>by have:=hq _ hm;omega
 have step:∀z,BfA (fun q=>H<=q/\v.ownBlock≠some q) 20 wx z->BfA (fun q=>H<=q/\(Value.slice (some ⟨g8,0,none⟩) (bs.length+1) c8).ownBlock≠some q) 20 (wy.setCell ⟨pb,1,none⟩ (.slice (some ⟨g8,0,none⟩) (bs.length+1) c8)) z:=fun z hz=>by
  have z1:=BfA.mono (Q:=fun q=>H<=q/\q≠g8/\v.ownBlock≠some q) (fun b hb hh=>⟨hh.1,(by rintro rfl;rcases hg8 with e|e;exact hh.2 e;omega),hh.2⟩) (Nat.le_refl _) hz;have z2:=BfA.ext hE (fun y hy hh=>hh.2.2 (Option.mem_toList.1 hy)) z1;have z3:=BfA.ext hE2 (fun y hy hh=>by rw[List.mem_singleton.1 hy] at hh;have:=hh.1;omega) z2;exact BfA.mono (fun b _ hh=>⟨hh.1,fun e=>by cases e;exact hh.2.1 rfl⟩) (Nat.le_refl _) z3
 refine⟨(h.ext.step hE fun q hqq=>.inr (by have:=hq q hqq;omega)).step hE2 fun y hy=>.inr (by rw[List.mem_singleton.1 hy];omega),(h.stm.ext hE (fun hm=>by have:=hq _ hm;omega) (fun q hqq=>by have:=hq q hqq;omega)).ext hE2 (by rw[List.mem_singleton];omega) (fun y hy=>by rw[List.mem_singleton.1 hy];omega),
  hp.set_' 1 _ _ rfl,(h.res.ext hE (fun hm=>by have:=hq _ hm;omega)).ext hE2 (by rw[List.mem_singleton];omega),?_,fun x hx=>?_,fun x hx=>?_,h.rb0,h.rbp,h.pbH,h.g0,h.bw,Nat.le_trans h.hH (Nat.le_trans hE.size hE2.size)⟩
 ·rw[List.length_append,List.flatMap_append];have e:List.flatMap bfC [b]=bfC b:=by simp
  rw[e];exact own_ext hO hE2 fun q hqq=>by have:=own_base hO q hqq;rw[List.mem_singleton];omega
 ·rcases List.mem_append.1 hx with hx|hx
  ·exact step x (h.kid x hx)
  ·rw[List.mem_singleton.1 hx];exact step b hb
 ·rcases List.mem_append.1 hx with hx|hx
  ·exact h.siz x hx
  ·rw[List.mem_singleton.1 hx];exact hz
end
end
end Go.Proofs.YtfppibmloloakaaGreatDoor
