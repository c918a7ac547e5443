import Derived.Test.YtkgmhggliifkjaaGreatP27
namespace Go.Proofs.YtkgmhggliifkjaaGreat
open Go.RowKit Go.Proofs.Tryz
set_option linter.all false
set_option maxHeartbeats 8000000
set_option maxRecDepth 100000
def Ahi (m:Mc)(xs:List Ins)(main:List Int)(w:World)(e:Ending)(w':World):Prop:=
 ∃A,e=.returned (.pointer (some A.c))/\Ext [] w w'/\Ag w' A m xs (MS.new main xs.length)/\∀b,A.kd b<40->w.heap.size<=b
theorem Xp (m:Mc)(hok:m.okB=true)(A0:Option Addr)(c0:Nat)(xs:List Ins)(B0:Option Addr)(d0:Nat)(main:List Int)(w:World)(h:RdC w A0 xs)(hl:xs.length<=100000)(hc:Bh m 0 xs=0)(hm:RdI w B0 main)(hml:(main.length:Int)=m.main) :
  Calls prog 36 #[.agg m.cells.toArray,.slice A0 xs.length c0,.slice B0 main.length d0] w (Ahi m xs main w):=by
 have hmc:=Bc hok;have HCC:=hd (fun W (hW:Ext [] w W)=>Tc A0 c0 xs W (h.exto hW (by simp)) hl);have HLE:=hd (fun W (hW:Ext [] w W)=>Vb m A0 c0 xs W (h.exto hW (by simp)) hl hc);have HMC:=hd (fun W (hW:Ext [] w W)=>Na B0 d0 main W (hm.ext hW (by simp)) (by omega) (by omega));obtain⟨m0,m1,m2,m3,m4⟩:=m;dsimp only at hmc hml;obtain⟨q,rfl⟩:∃q:Nat,m4=q:=⟨m4.toNat,by omega⟩;obtain⟨NB,rfl⟩:∃q:Nat,m1=q:=⟨m1.toNat,by omega⟩;obtain⟨N,rfl⟩:∃q:Nat,m2=q:=⟨m2.toNat,by omega⟩
 have hmq:∀W:World,(Instr.makeSlice 69 (.int .i64 q) (.int .i64 q)).run prog W=.ok (.slice (some W.heap.size) q q) (W.alloc (.cells (madeCells #[.pointer none] q) 94)):=fun W=>
  run_make_row' 69 94 (.pointer none) 8 underlying69 (by kernel_rfl) rfl .i64 .i64 q (by omega) (by omega) W
 have hmi:∀W:World,(Instr.makeSlice 22 (.int .i64 N) (.int .i64 N)).run prog W=.ok (.slice (some W.heap.size) N N) (W.alloc (.cells (Dg N) 3)):=fun W=>
  run_make_row' 22 3 (.int .i64 0) 8 underlying22 (by kernel_rfl) rfl .i64 .i64 N (by omega) (by omega) W
 have hmb:∀W:World,(Instr.makeSlice 80 (.int .i64 N) (.int .i64 N)).run prog W=.ok (.slice (some W.heap.size) N N) (W.alloc (.cells (Lc N) 4)):=fun W=>
  run_make_row' 80 4 (.bool false) 1 underlying80 (by kernel_rfl) rfl .i64 .i64 N (by omega) (by omega) W
 clear h hm hc;show Calls prog 36 #[.agg #[m0,NB,N,m3,q],.slice A0 xs.length c0,.slice B0 main.length d0] w _
 go_enter func36,ntmps36
 go_wp2_with fail
 go_upto_region 2 with fail
 go_cut [7] (fun s7 wx=>StA m0 NB N m3 q xs main w s7 wx)
 case first=>
  have hq0:0<=(q:Int):=by omega
  have hmB:=Blk.new w 27 #[m0,NB,N,m3,q];have hm0:=hmB.cell 0;have hm1:=hmB.cell 1;have hm2:=hmB.cell 2;have hm3:=hmB.cell 3;have hm4:=hmB.cell 4;simp only[List.getElem?_toArray,List.getElem?_cons_zero,List.getElem?_cons_succ] at hm0 hm1 hm2 hm3 hm4;clear hmB
  go_region_held3 (fun w'=>w'.cell? ⟨w.heap.size,0,none⟩=some (.int .i64 m0)/\w'.cell? ⟨w.heap.size,1,none⟩=some (.int .i64 NB)/\w'.cell? ⟨w.heap.size,2,none⟩=some (.int .i64 N)/\w'.cell? ⟨w.heap.size,3,none⟩=some (.int .i64 m3)/\w'.cell? ⟨w.heap.size,4,none⟩=some (.int .i64 q)) (((repeat' apply And.intro)<;>(try simp only[World.cell?_drew])<;>(repeat(first|assumption|refine Adm _ ?_|refine hE2.held ?_ (by simp)|refine hE4.held ?_ (by simp)|refine hE6.held ?_ (by simp))))) ((first
   | (go_at_call 57;refine(HCC.o _ ?_).mono ?_;(repeat(first|exact er|refine Ext.drew ?_|refine Ext.alloc ?_ _|refine Ext.trans ?_ (by assumption)));rintro e w2 ⟨A2,c2,rfl,hE2,hR2,hl2⟩;have HR2:=hd hR2;have HL2:=hd hl2;clear hR2 hl2)
   | (go_at_call 73;refine(HLE.o _ ?_).mono ?_;(repeat(first|exact er|refine Ext.drew ?_|refine Ext.alloc ?_ _|refine Ext.trans ?_ (by assumption)));rintro e w4 ⟨b4,rfl,hE4,hB4,hl4⟩;have HB4:=hd hB4;have hz4:=hB4.lt;clear hB4)
   | (go_at_call 37;refine(HMC.o _ ?_).mono ?_;(repeat(first|exact er|refine Ext.drew ?_|refine Ext.alloc ?_ _|refine Ext.trans ?_ (by assumption)));rintro e w6 ⟨b6,c6,rfl,hE6,hl6,hz6,hc6,hU6⟩;have HU6:=hd hU6;clear hU6)))
  all_goals
   go_wp2_with fail
   go_meet
   have s2:=hE2.size;have s4:=hE4.size;have s6:=hE6.size;simp at s2 s4 s6 hl4 hl6;rw[Afj]
  ·refine⟨_,A2,c2,b4,b6,c6,w6.heap.size,rfl,?_,?_,HR2.o.ext (w:=w2) (S:=[]) ?_ (by intros;exact List.not_mem_nil),HB4.o.ext (w:=w4) (S:=[]) ?_ List.not_mem_nil,hc6,HU6.o.ext (w:=w6) (S:=[]) ?_ List.not_mem_nil,?_,?_,by omega,by omega,by omega,by omega,by omega,by omega,by omega,by omega,by omega,by omega,?_⟩
   ·(repeat(first|(with_reducible exact er)|(with_reducible refine Ext.drew ?_)|(with_reducible refine Ext.alloc ?_ _)|(with_reducible refine Ext.trans ?_ hE6)|(with_reducible refine Ext.trans ?_ hE4)|(with_reducible refine Ext.trans ?_ hE2)))
   ·(repeat(first|(with_reducible exact Blk.new _ _ _)|(with_reducible exact Blk.new' _ _ _ _ (by simp))|(with_reducible refine Blk.drew ?_)|(with_reducible refine Blk.alloc ?_ _)|(with_reducible refine Blk.ext ?_ hE6 (by simp))|(with_reducible refine Blk.ext ?_ hE4 (by simp))|(with_reducible refine Blk.ext ?_ hE2 (by simp))))
   ·(repeat(first|(with_reducible exact er)|(with_reducible refine Ext.drew ?_)|(with_reducible refine Ext.alloc ?_ _)|(with_reducible refine Ext.trans ?_ hE6)|(with_reducible refine Ext.trans ?_ hE4)|(with_reducible refine Ext.trans ?_ hE2)))
   ·(repeat(first|(with_reducible exact er)|(with_reducible refine Ext.drew ?_)|(with_reducible refine Ext.alloc ?_ _)|(with_reducible refine Ext.trans ?_ hE6)|(with_reducible refine Ext.trans ?_ hE4)|(with_reducible refine Ext.trans ?_ hE2)))
   ·(repeat(first|(with_reducible exact er)|(with_reducible refine Ext.drew ?_)|(with_reducible refine Ext.alloc ?_ _)|(with_reducible refine Ext.trans ?_ hE6)|(with_reducible refine Ext.trans ?_ hE4)|(with_reducible refine Ext.trans ?_ hE2)))
   ·(repeat(first|(with_reducible exact Blk.new _ _ _)|(with_reducible exact Blk.new' _ _ _ _ (by simp))|(with_reducible refine Blk.drew ?_)|(with_reducible refine Blk.alloc ?_ _)|(with_reducible refine Blk.ext ?_ hE6 (by simp))|(with_reducible refine Blk.ext ?_ hE4 (by simp))|(with_reducible refine Blk.ext ?_ hE2 (by simp))))
   ·rcases HL2.o with h0|⟨g,hg,hg1,hg2⟩
    ·exact .inl h0
    ·simp at hg1⊢;exact .inr ⟨g,hg,by omega,by omega,by omega,by omega,by omega,by omega⟩
   ·(repeat(first|(with_reducible exact Blk.new _ _ _)|(with_reducible exact Blk.new' _ _ _ _ (by simp))|(with_reducible refine Blk.drew ?_)|(with_reducible refine Blk.alloc ?_ _)|(with_reducible refine Blk.ext ?_ hE6 (by simp))|(with_reducible refine Blk.ext ?_ hE4 (by simp))|(with_reducible refine Blk.ext ?_ hE2 (by simp))))
  ·refine⟨_,A2,c2,b4,b6,c6,w4.heap.size,rfl,?_,?_,HR2.o.ext (w:=w2) (S:=[]) ?_ (by intros;exact List.not_mem_nil),HB4.o.ext (w:=w4) (S:=[]) ?_ List.not_mem_nil,hc6,HU6.o.ext (w:=w6) (S:=[]) ?_ List.not_mem_nil,?_,?_,by omega,by omega,by omega,by omega,by omega,by omega,by omega,by omega,by omega,by omega,?_⟩
   ·(repeat(first|(with_reducible exact er)|(with_reducible refine Ext.drew ?_)|(with_reducible refine Ext.alloc ?_ _)|(with_reducible refine Ext.trans ?_ hE6)|(with_reducible refine Ext.trans ?_ hE4)|(with_reducible refine Ext.trans ?_ hE2)))
   ·(repeat(first|(with_reducible exact Blk.new _ _ _)|(with_reducible exact Blk.new' _ _ _ _ (by simp))|(with_reducible refine Blk.drew ?_)|(with_reducible refine Blk.alloc ?_ _)|(with_reducible refine Blk.ext ?_ hE6 (by simp))|(with_reducible refine Blk.ext ?_ hE4 (by simp))|(with_reducible refine Blk.ext ?_ hE2 (by simp))))
   ·(repeat(first|(with_reducible exact er)|(with_reducible refine Ext.drew ?_)|(with_reducible refine Ext.alloc ?_ _)|(with_reducible refine Ext.trans ?_ hE6)|(with_reducible refine Ext.trans ?_ hE4)|(with_reducible refine Ext.trans ?_ hE2)))
   ·(repeat(first|(with_reducible exact er)|(with_reducible refine Ext.drew ?_)|(with_reducible refine Ext.alloc ?_ _)|(with_reducible refine Ext.trans ?_ hE6)|(with_reducible refine Ext.trans ?_ hE4)|(with_reducible refine Ext.trans ?_ hE2)))
   ·(repeat(first|(with_reducible exact er)|(with_reducible refine Ext.drew ?_)|(with_reducible refine Ext.alloc ?_ _)|(with_reducible refine Ext.trans ?_ hE6)|(with_reducible refine Ext.trans ?_ hE4)|(with_reducible refine Ext.trans ?_ hE2)))
   ·(repeat(first|(with_reducible exact Blk.new _ _ _)|(with_reducible exact Blk.new' _ _ _ _ (by simp))|(with_reducible refine Blk.drew ?_)|(with_reducible refine Blk.alloc ?_ _)|(with_reducible refine Blk.ext ?_ hE6 (by simp))|(with_reducible refine Blk.ext ?_ hE4 (by simp))|(with_reducible refine Blk.ext ?_ hE2 (by simp))))
   ·rcases HL2.o with h0|⟨g,hg,hg1,hg2⟩
    ·exact .inl h0
    ·simp at hg1⊢;exact .inr ⟨g,hg,by omega,by omega,by omega,by omega,by omega,by omega⟩
   ·(repeat(first|(with_reducible exact Blk.new _ _ _)|(with_reducible exact Blk.new' _ _ _ _ (by simp))|(with_reducible refine Blk.drew ?_)|(with_reducible refine Blk.alloc ?_ _)|(with_reducible refine Blk.ext ?_ hE6 (by simp))|(with_reducible refine Blk.ext ?_ hE4 (by simp))|(with_reducible refine Blk.ext ?_ hE2 (by simp))))
  ·refine⟨_,A2,c2,b4,b6,c6,w2.heap.size,rfl,?_,?_,HR2.o.ext (w:=w2) (S:=[]) ?_ (by intros;exact List.not_mem_nil),HB4.o.ext (w:=w4) (S:=[]) ?_ List.not_mem_nil,hc6,HU6.o.ext (w:=w6) (S:=[]) ?_ List.not_mem_nil,?_,?_,by omega,by omega,by omega,by omega,by omega,by omega,by omega,by omega,by omega,by omega,?_⟩
   ·(repeat(first|(with_reducible exact er)|(with_reducible refine Ext.drew ?_)|(with_reducible refine Ext.alloc ?_ _)|(with_reducible refine Ext.trans ?_ hE6)|(with_reducible refine Ext.trans ?_ hE4)|(with_reducible refine Ext.trans ?_ hE2)))
   ·(repeat(first|(with_reducible exact Blk.new _ _ _)|(with_reducible exact Blk.new' _ _ _ _ (by simp))|(with_reducible refine Blk.drew ?_)|(with_reducible refine Blk.alloc ?_ _)|(with_reducible refine Blk.ext ?_ hE6 (by simp))|(with_reducible refine Blk.ext ?_ hE4 (by simp))|(with_reducible refine Blk.ext ?_ hE2 (by simp))))
   ·(repeat(first|(with_reducible exact er)|(with_reducible refine Ext.drew ?_)|(with_reducible refine Ext.alloc ?_ _)|(with_reducible refine Ext.trans ?_ hE6)|(with_reducible refine Ext.trans ?_ hE4)|(with_reducible refine Ext.trans ?_ hE2)))
   ·(repeat(first|(with_reducible exact er)|(with_reducible refine Ext.drew ?_)|(with_reducible refine Ext.alloc ?_ _)|(with_reducible refine Ext.trans ?_ hE6)|(with_reducible refine Ext.trans ?_ hE4)|(with_reducible refine Ext.trans ?_ hE2)))
   ·(repeat(first|(with_reducible exact er)|(with_reducible refine Ext.drew ?_)|(with_reducible refine Ext.alloc ?_ _)|(with_reducible refine Ext.trans ?_ hE6)|(with_reducible refine Ext.trans ?_ hE4)|(with_reducible refine Ext.trans ?_ hE2)))
   ·(repeat(first|(with_reducible exact Blk.new _ _ _)|(with_reducible exact Blk.new' _ _ _ _ (by simp))|(with_reducible refine Blk.drew ?_)|(with_reducible refine Blk.alloc ?_ _)|(with_reducible refine Blk.ext ?_ hE6 (by simp))|(with_reducible refine Blk.ext ?_ hE4 (by simp))|(with_reducible refine Blk.ext ?_ hE2 (by simp))))
   ·rcases HL2.o with h0|⟨g,hg,hg1,hg2⟩
    ·exact .inl h0
    ·simp at hg1⊢;exact .inr ⟨g,hg,by omega,by omega,by omega,by omega,by omega,by omega⟩
   ·(repeat(first|(with_reducible exact Blk.new _ _ _)|(with_reducible exact Blk.new' _ _ _ _ (by simp))|(with_reducible refine Blk.drew ?_)|(with_reducible refine Blk.alloc ?_ _)|(with_reducible refine Blk.ext ?_ hE6 (by simp))|(with_reducible refine Blk.ext ?_ hE4 (by simp))|(with_reducible refine Blk.ext ?_ hE2 (by simp))))
  ·refine⟨_,A2,c2,b4,b6,c6,w.heap.size+1,rfl,?_,?_,HR2.o.ext (w:=w2) (S:=[]) ?_ (by intros;exact List.not_mem_nil),HB4.o.ext (w:=w4) (S:=[]) ?_ List.not_mem_nil,hc6,HU6.o.ext (w:=w6) (S:=[]) ?_ List.not_mem_nil,?_,?_,by omega,by omega,by omega,by omega,by omega,by omega,by omega,by omega,by omega,by omega,?_⟩
   ·(repeat(first|(with_reducible exact er)|(with_reducible refine Ext.drew ?_)|(with_reducible refine Ext.alloc ?_ _)|(with_reducible refine Ext.trans ?_ hE6)|(with_reducible refine Ext.trans ?_ hE4)|(with_reducible refine Ext.trans ?_ hE2)))
   ·(repeat(first|(with_reducible exact Blk.new _ _ _)|(with_reducible exact Blk.new' _ _ _ _ (by simp))|(with_reducible refine Blk.drew ?_)|(with_reducible refine Blk.alloc ?_ _)|(with_reducible refine Blk.ext ?_ hE6 (by simp))|(with_reducible refine Blk.ext ?_ hE4 (by simp))|(with_reducible refine Blk.ext ?_ hE2 (by simp))))
   ·(repeat(first|(with_reducible exact er)|(with_reducible refine Ext.drew ?_)|(with_reducible refine Ext.alloc ?_ _)|(with_reducible refine Ext.trans ?_ hE6)|(with_reducible refine Ext.trans ?_ hE4)|(with_reducible refine Ext.trans ?_ hE2)))
   ·(repeat(first|(with_reducible exact er)|(with_reducible refine Ext.drew ?_)|(with_reducible refine Ext.alloc ?_ _)|(with_reducible refine Ext.trans ?_ hE6)|(with_reducible refine Ext.trans ?_ hE4)|(with_reducible refine Ext.trans ?_ hE2)))
   ·(repeat(first|(with_reducible exact er)|(with_reducible refine Ext.drew ?_)|(with_reducible refine Ext.alloc ?_ _)|(with_reducible refine Ext.trans ?_ hE6)|(with_reducible refine Ext.trans ?_ hE4)|(with_reducible refine Ext.trans ?_ hE2)))
   ·(repeat(first|(with_reducible exact Blk.new _ _ _)|(with_reducible exact Blk.new' _ _ _ _ (by simp))|(with_reducible refine Blk.drew ?_)|(with_reducible refine Blk.alloc ?_ _)|(with_reducible refine Blk.ext ?_ hE6 (by simp))|(with_reducible refine Blk.ext ?_ hE4 (by simp))|(with_reducible refine Blk.ext ?_ hE2 (by simp))))
   ·rcases HL2.o with h0|⟨g,hg,hg1,hg2⟩
    ·exact .inl h0
    ·simp at hg1⊢;exact .inr ⟨g,hg,by omega,by omega,by omega,by omega,by omega,by omega⟩
   ·(repeat(first|(with_reducible exact Blk.new _ _ _)|(with_reducible exact Blk.new' _ _ _ _ (by simp))|(with_reducible refine Blk.drew ?_)|(with_reducible refine Blk.alloc ?_ _)|(with_reducible refine Blk.ext ?_ hE6 (by simp))|(with_reducible refine Blk.ext ?_ hE4 (by simp))|(with_reducible refine Blk.ext ?_ hE2 (by simp))))
 case rest=>
  obtain⟨c,A,ca,eb,mb,mc,qb,rfl,hE,hB,hR,hEb,hmc2,hU,hQ,hgd,d1,d2,d3,d4,d5,d6,d7,d8,d9,d10,hMA⟩:=hcut;rename World=>w2
  have HE:=hd hE;have HB:=hd hB;have HR:=hd hR;have HEb:=hd hEb;have HU:=hd hU;have HQ:=hd hQ;have HGD:=hd hgd;have HMA:=hd hMA;have hcl:=hB.lt;have hmc3:=HMA.o.cell;have hml3:=HMA.o.lt;clear hE hB hR hEb hU hQ hgd hmq hMA;go_wp2_with fail
  clear hmc3 hml3;obtain⟨u,hu⟩:∃u:Value->Value->Array Value,u=fun vb vs=>chN m0 NB N m3 q (.slice A xs.length ca) (.slice (some eb) xs.length xs.length) (.slice (some mb) main.length mc) vb vs (.slice (some qb) q q) false:=⟨_,rfl⟩
  go_loopw [22] (fun i wr=>∃(k:Nat) (vb vs:Value),i=.int .i64 k/\k<=NB/\Hd (Ext [c] w2 wr/\Blk wr c 72 (u vb vs)/\∃bk sb,Jo w2.heap.size N k vb vs wr bk sb)) (fun i _=>(NB-intOf i).toNat)
  case atStart=>exact⟨0,_,_,rfl,by omega,hd ⟨er,by rw[hu];exact HB.o,_,_,Jo.nil _ _ _⟩⟩
  case round=>
   obtain⟨k,vb,vs,rfl,hk,hI⟩:=hrel;rename World=>wq
   by_cases hlt:k<NB
   ·obtain⟨hE2,hBc,bk,sb,hBI⟩:=hI.o;have HU2:=hd hu;have HBI:=hd hBI;have hw2:=hE2.size;have hcq:=hBc.lt
    have hA:Ap c vb vs wq.heap.size:=by
     refine⟨fun g hg=>?_,fun g hg=>?_,fun g g' hg hg'=>?_,hcq⟩
     ·obtain⟨C,hC⟩:=Ea hBI.rowB hg;exact⟨hC.lt,hC.apart hBc (by decide)⟩
     ·obtain⟨C,hC⟩:=Ea hBI.rowS hg;exact⟨hC.lt,hC.apart hBc (by decide)⟩
     ·obtain⟨C,hC⟩:=Ea hBI.rowB hg;obtain⟨D,hD⟩:=Ea hBI.rowS hg';exact hC.apart hD (by decide)
    have HA:=hd hA
    have hmt:w.heap.size∉c :: two vb vs:=fun h=>by
     rcases List.mem_cons.1 h with h|h
     ·omega
     ·unfold two at h;rcases List.mem_append.1 h with h|h
      ·have:=Bf hBI.rowB _ (by simpa using h);have:=HMA.o.lt;omega
      ·have:=Bf hBI.rowS _ (by simpa using h);have:=HMA.o.lt;omega
    have HMT:=hd hmt;have HM2:=hd (HMA.o.ext hE2 (by simp;omega));have HE2:=hd hE2;have HBc:=hd hBc;clear hE2 hBc hBI hA hmt hu;go_wp2_with fail
    refine Fx 23 (JB2 u w2.heap.size N c vb vs k (rows bk N k) (rows sb N k) wq) (RB c vb vs) (Bw [(8,Ih wq.heap.size N),(9,Je wq.heap.size (XI wq.heap.size N)),(10,Hp w2.heap.size wq.heap.size 22 k vb (rows bk N k) (XI wq.heap.size N)),(17,Aag wq.heap.size N),(18,Je wq.heap.size (XB wq.heap.size N)),(19,Hp w2.heap.size wq.heap.size 80 k vs (rows sb N k) (XB wq.heap.size N)),(22,⟨Unit,(),fun _=>undef,fun _ _=>True⟩)]) (by kernel_rfl) (by kernel_rfl) ?_ ?_ ?_ ?_
    ·intro i r w hi _ hJ
     have hne:i≠10/\i≠19/\i≠22:=by
      refine⟨?_,?_,?_⟩<;>intro e<;>subst e<;>rcases hi with hi|⟨oi,hoi,hg⟩<;>first|(cases hi;done)|(cases hoi;exact hg rfl)
     exact hJ.idle HA.o er i hne
    ·exact fun i s j hs hj=>Rl HA.o hs hj
    ·exact⟨er.drew,fun _=>An HBI.o.rowB ((Ext.refl [] _).drew) (by simp),fun _=>An HBI.o.rowS ((Ext.refl [] _).drew) (by simp),vb,HBc.o,fun _=>rfl,fun h=>by cases h⟩
    simp only[TK]
    repeat(refine dEU (fun wr nr hg hJ=>by clear hJ;exact CL) ?_;simp only[PT])
    refine Iv rfl rfl ?_
    apply Exists.intro
    refine⟨fun wr nr hg hJ=>?_,?_⟩
    ·obtain⟨v8,hB,hv,_⟩:=hJ.chip
     have q8:wr.cell? ⟨c,8,none⟩=some vb:=by
      rw[<-hv (hg.later 22 (by kernel_rfl)),hB.cell,HU2.o];rfl
     have hbl:=hB.lt;clear hg hB hv;(go_simp;try go_bits)
     first|rfl|exact⟨rfl,rfl⟩
    simp only[PT]
    repeat(refine dEU (fun wr nr hg hJ=>by(have hx:=HM2.o.ext hJ.ext HMT.o;have q2:=hx.cell;have ql:=hx.lt;clear hx);clear hJ;exact CL) ?_;simp only[PT])
    refine Gv (Ih wq.heap.size N) rfl rfl (fun w ob r hg hJ=>hJ.idle HA.o (er.alloc _) _ (by decide)) (fun w ob=>RB.nil (er.alloc _)) ?_ ?_
    ·intro wr nr hg hJ hf;refine⟨wr.heap.size,.cells (Dg N) 3,?_,Blk.new _ _ _,hJ.ext.size⟩
     go_simp
     first|rfl|exact⟨rfl,rfl⟩
    intro (b8:Nat);simp only[PT];dsimp only[Ih];refine Gv (Je wq.heap.size (XI wq.heap.size N)) rfl rfl (fun w ob r hg hJ=>hJ.idle HA.o (er.alloc _) _ (by decide)) (fun w ob=>RB.nil (er.alloc _)) ?_ ?_
    ·intro wr nr hg hJ hf;have f8:Blk wr b8 3 (Dg N)/\wq.heap.size<=b8:=Cm hf 8 (by kernel_rfl);refine⟨wr.heap.size,.cells #[.slice (some b8) N N] 22,?_,hJ.ext.size,_,(Blk.new _ _ _).cell 0,rfl,b8,rfl,f8.1.alloc _,f8.2⟩
     go_simp
     first|rfl|exact⟨rfl,rfl⟩
    intro (b9:Nat);simp only[PT];dsimp only[Je];obtain⟨i9,hi9,hz9a,hz9b,hz9c⟩:=info_parts (show((prog).info? 22).map (fun i=>(i.zero,i.size,i.bytes))=some (some (.slice none 0 0),1,24) by kernel_rfl);refine Lw 9 b9 46 w2.heap.size wq.heap.size 22 i9 _ 24 vb k 1 (rows bk N k) _ _ (XI wq.heap.size N) (Je wq.heap.size (XI wq.heap.size N)).V rfl rfl rfl (by kernel_rfl) hi9 hz9a hz9b hz9c rfl rfl rfl ?_ ?_ ?_ (by kernel_rfl) rfl (fun _ h=>h.2) ?_ ?_ ?_ ?_ ?_ ?_
    ·exact fun w r hg hJ=>hJ.rowb hg.mine
    ·exact fun w w' r hg hJ hE=>hJ.app10 HA.o hE (hg.later 22 (by kernel_rfl))
    ·exact fun w w' hE=>hE
    ·exact fun y w w' hy hE=>hy.ext hE (fun x hx=>(HA.o.b x (by simpa using hx)).1)
    ·unfold maxLen;omega
    ·omega
    ·exact fun w r hJ=>nt HE2.o.size hJ.ext.size
    ·exact fun w r hJ=>hJ.ext.size
    intro u10;simp only[PT]
    repeat(refine dEU (fun wr nr hg hJ=>by(obtain⟨v8,hB,_⟩:=hJ.chip;have q9:wr.cell? ⟨c,9,none⟩=some vs:=(by rw[hB.cell,HU2.o];rfl);have hbl:=hB.lt;clear hB);clear hJ;exact CL) ?_;simp only[PT])
    repeat(refine dEU (fun wr nr hg hJ=>by clear hJ;exact CL) ?_;simp only[PT])
    repeat(refine dEU (fun wr nr hg hJ=>by(have hx:=HM2.o.ext hJ.ext HMT.o;have q2:=hx.cell;have ql:=hx.lt;clear hx);clear hJ;exact CL) ?_;simp only[PT])
    refine Gv (Aag wq.heap.size N) rfl rfl (fun w ob r hg hJ=>hJ.idle HA.o (er.alloc _) _ (by decide)) (fun w ob=>RB.nil (er.alloc _)) ?_ ?_
    ·intro wr nr hg hJ hf;refine⟨wr.heap.size,.cells (Lc N) 4,?_,Blk.new _ _ _,hJ.ext.size⟩
     go_simp
     first|rfl|exact⟨rfl,rfl⟩
    intro (b17:Nat);simp only[PT];dsimp only[Aag];refine Gv (Je wq.heap.size (XB wq.heap.size N)) rfl rfl (fun w ob r hg hJ=>hJ.idle HA.o (er.alloc _) _ (by decide)) (fun w ob=>RB.nil (er.alloc _)) ?_ ?_
    ·intro wr nr hg hJ hf;have f17:Blk wr b17 4 (Lc N)/\wq.heap.size<=b17:=Cm hf 17 (by kernel_rfl);refine⟨wr.heap.size,.cells #[.slice (some b17) N N] 80,?_,hJ.ext.size,_,(Blk.new _ _ _).cell 0,rfl,b17,rfl,f17.1.alloc _,f17.2⟩
     go_simp
     first|rfl|exact⟨rfl,rfl⟩
    intro (b18:Nat);simp only[PT];dsimp only[Je];obtain⟨i18,hi18,hz18a,hz18b,hz18c⟩:=info_parts (show((prog).info? 80).map (fun i=>(i.zero,i.size,i.bytes))=some (some (.slice none 0 0),1,24) by kernel_rfl);refine Lw 18 b18 47 w2.heap.size wq.heap.size 80 i18 _ 24 vs k 1 (rows sb N k) _ _ (XB wq.heap.size N) (Je wq.heap.size (XB wq.heap.size N)).V rfl rfl rfl (by kernel_rfl) hi18 hz18a hz18b hz18c rfl rfl rfl ?_ ?_ ?_ (by kernel_rfl) rfl (fun _ h=>h.2) ?_ ?_ ?_ ?_ ?_ ?_
    ·exact fun w r hg hJ=>hJ.rows hg.mine
    ·exact fun w w' r hg hJ hE=>hJ.app19 HA.o hE (hg.later 22 (by kernel_rfl))
    ·exact fun w w' hE=>hE
    ·exact fun y w w' hy hE=>hy.ext hE (fun x hx=>(HA.o.s x (by simpa using hx)).1)
    ·unfold maxLen;omega
    ·omega
    ·exact fun w r hJ=>nt HE2.o.size hJ.ext.size
    ·exact fun w r hJ=>hJ.ext.size
    intro u19;simp only[PT]
    repeat(refine dEU (fun wr nr hg hJ=>by clear hJ;exact CL) ?_;simp only[PT])
    refine Kv rfl rfl ?_ ?_
    ·intro wr nr hg hJ hf;have f10:(Hp w2.heap.size wq.heap.size 22 k vb (rows bk N k) (XI wq.heap.size N)).V u10 wr:=Cm hf 10 (by kernel_rfl);obtain⟨v8,hB,hv,_⟩:=hJ.chip
     have hx10:u10.1≠c:=by
      obtain⟨y,_,_,h3⟩:=f10;rcases h3 with h3|h3
      ·exact(HA.o.b _ h3).2
      ·omega
     have hEc:Ext [c] wr (wr.setCell ⟨c,8,none⟩ (.slice (some u10.1) (k+1) u10.2)):=er.setCell (.inl (by simp)) _;refine⟨wr.setCell ⟨c,8,none⟩ (.slice (some u10.1) (k+1) u10.2),?_,⟨hJ.ext.setCell (.inl (by simp)) _,fun hr=>An (hJ.rowb (by rwa [Dj (by decide)] at hr)) hEc (fun g hg hm=>(HA.o.b g hg).2 (ms hm)),fun hr=>An (hJ.rows (by rwa [Dj (by decide)] at hr)) hEc (fun g hg hm=>(HA.o.s g hg).2 (ms hm)),_,hB.set_' 8 _ _ (by rw[HU2.o];rfl),?_,?_⟩,hEc⟩
     ·have q8:wr.cell? ⟨c,8,none⟩=some v8:=by rw[hB.cell,HU2.o];rfl
      have qf:=hB.frozen;have hbl:=hB.lt;clear hg hf hB hv hEc f10;go_simp
     ·intro h;simp[off] at h
     ·exact fun _=>⟨u10,rfl,Hp.ext f10 hEc (fun y hy=>hy.ext hEc (fun x hx=>by rw[ms hx];exact HA.o.c)) (fun hm=>hx10 (ms hm))⟩
    simp only[PT];refine Nj (fun wy r hr hJ hF=>?_)
    have H19:(Hp w2.heap.size wq.heap.size 80 k vs (rows sb N k) (XB wq.heap.size N)).V u19 wy:=hF 19;clear hF;obtain⟨v8,hB,_,h22⟩:=hJ.chip;have hr8:=h22 (by rw[hr 22 (by decide)];rfl);have HY:=hd (And.intro hJ.ext (And.intro hB (And.intro hr8 H19)));have q9:wy.cell? ⟨c,9,none⟩=some vs:=by rw[hB.cell,HU2.o];rfl
    have qf:=hB.frozen;have hbl:=hB.lt;clear hJ hB h22 hr8 H19 hr;go_wp2_with fail
    go_round
    case rel=>
     obtain⟨hx,hB,⟨x8,e8,y8,X8,R8,o8⟩,y9,X9,R9,o9⟩:=HY.o;have hEc:Ext [c] wy (wy.setCell ⟨c,9,none⟩ (.slice (some u19.1) (k+1) u19.2)):=er.setCell (.inl (by simp)) _
     have hx8:x8.1≠c:=by
      rcases o8 with h3|h3
      ·exact(HA.o.b _ h3).2
      ·omega
     have hx9:u19.1≠c:=by
      rcases o9 with h3|h3
      ·exact(HA.o.s _ h3).2
      ·omega
     have hcs:∀x∈[c],x<wq.heap.size:=fun x hx=>by rw[ms hx];exact HA.o.c
     refine⟨k+1,v8,_,by go_num,by omega,hd ⟨?_,hB.set_' 9 _ _ (by rw[HU2.o];rfl),HBI.o.more rfl HE2.o.size (hx.setCell (.inl (by simp)) _) ?_ e8 rfl (X8.ext hEc hcs) (X9.ext hEc hcs) ?_ ?_⟩⟩
     ·refine(HE2.o.step hx fun x hx=>?_).setCell (.inl (by simp)) _
      rcases List.mem_cons.1 hx with h|h
      ·exact .inl (by simp[h])
      ·unfold two at h;rcases List.mem_append.1 h with h|h
       ·exact .inr (Bf HBI.o.rowB _ (by simpa using h))
       ·exact .inr (Bf HBI.o.rowS _ (by simpa using h))
     ·intro x hx t C hC;rcases List.mem_cons.1 hx with h|h
      ·subst h;rw[hC.type HBc.o];decide
      ·unfold two at h;rcases List.mem_append.1 h with h|h
       ·obtain⟨D,hD⟩:=Ea HBI.o.rowB (g:=x) (by simpa using h);rw[hC.type hD];decide
       ·obtain⟨D,hD⟩:=Ea HBI.o.rowS (g:=x) (by simpa using h);rw[hC.type hD];decide
     ·rw[e8];exact An R8 hEc (fun g hg hm=>by cases hg;exact hx8 (ms hm))
     ·exact An R9 hEc (fun g hg hm=>by cases hg;exact hx9 (ms hm))
    case measure=>simp[intOf];omega
   ·have hkn:k=NB:=by omega
    subst hkn;obtain⟨hE2,hBc,bk,sb,hBI⟩:=hI.o;have hkc:=Bc hok;obtain⟨ob,hob⟩:∃b:Bool,b=(xs.length==0):=⟨_,rfl⟩
    have hob2:((xs.length:Int)==0)=ob:=by
     rw[hob,Bool.eq_iff_iff];simp
    have HOB:=hd hob;have HBI:=hd hBI;have HE2:=hd hE2;have q168:wq.cell? ⟨c,168,none⟩=some (.bool false):=by rw[hBc.cell,hu];rfl
    have qf:=hBc.frozen;have hbl:=hBc.lt;have HU2:=hd hu;have hEc:Ext [c] wq (wq.setCell ⟨c,168,none⟩ (.bool ob)):=er.setCell (.inl (by simp)) _;have HB3:=hd (hBc.set_' 168 (.bool ob) (chN m0 k N m3 q (.slice A xs.length ca) (.slice (some eb) xs.length xs.length) (.slice (some mb) main.length mc) vb vs (.slice (some qb) q q) ob) (by rw[hu];rfl));have HEC:=hd hEc;have HBC:=hd hBc;have HEF:=hd (hE2.trans hEc);clear hE2 hBc hBI hob hu hEc
    cases ob<;>(
     go_wp2_with fail
     go_ret
     have hE:=HEF.o;have hBI:=HBI.o;have hcK:c<w2.heap.size:=HB.o.lt;have hn:∀x,x≠c->x∉[c]:=fun x h hm=>h (ms hm)
     have hml':m0=(main.length:Nat):=hml.symm;subst hml';have hcell:∀g t C,Blk wq g t C->t=3\/t=4\/t=22\/t=80->g∉[c]:=fun g t C hC ht hm=>by rw[ms hm] at hC;rw[hC.type HBC.o] at ht;revert ht;decide
     obtain⟨A',h1,h2,h3⟩:=Aah main.length k N q m3 hok xs main rfl _ w.heap.size w2.heap.size c A ca eb mb mc qb vb vs bk sb (by rw[<-HOB.o];exact HB3.o) (HR.o.exto hE (by rcases HGD.o with h|⟨g,hg,_,_,_,_,h,_⟩;exact .inl h;exact .inr (fun a ha=>by rw[hg] at ha;cases ha;exact hn _ h)))
      (HEb.o.ext hE (hn _ d7)) hmc2 (HU.o.ext hE (hn _ d9)) (HQ.o.ext hE (hn _ d10)) (by rcases HGD.o with h|⟨g,hg,g1,g2,g3,g4,g5,g6⟩;exact .inl h;exact .inr ⟨g,hg,by omega,g2,g3,g4,g5,g6⟩)
      (by omega) (by omega) (by omega) (by omega) d5 d6 d7 d8 d9 d10 HEb.o.lt HU.o.lt HQ.o.lt hcK (hBI.ext HEC.o hcell)
     exact⟨A',by rw[h2];rfl,HE.o.step hE (fun x hx=>.inr (by rw[ms hx];omega)),h1,h3⟩)
end Go.Proofs.YtkgmhggliifkjaaGreat
