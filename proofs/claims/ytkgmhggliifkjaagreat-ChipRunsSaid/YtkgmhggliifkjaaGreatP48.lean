import Derived.Test.YtkgmhggliifkjaaGreatP29
namespace Go.Proofs.YtkgmhggliifkjaaGreat
open Go.RowKit Go.Proofs.Tryz
set_option linter.all false
set_option maxHeartbeats 8000000
set_option maxRecDepth 100000
section
attribute [local irreducible] Ax
def Af4 (m:Mc)(xs:List Ins)(main:List Int)(w:World)(e:Ending)(w':World):Prop:=
 (Di m xs main≠0/\e=.returned (.tuple #[.agg #[(0:Int),(0:Int)],(Di m xs main)])/\Ext [] w w')\/
 (Di m xs main=0/\(Ew m xs main).fault.isSome=false/\e=.returned (.tuple #[.agg #[(0:Int),(0:Int)],(13:Int)])/\Ext [] w w')\/
 (Di m xs main=0/\(Ew m xs main).fault.isSome=true/\e=.returned (.tuple #[.agg #[.int .i64 (flA (Ew m xs main)),.int .i64 (flK (Ew m xs main))],(0:Int)])/\Ext [] w w')
theorem Pf (m:Mc)(A:Option Addr)(c:Nat)(xs:List Ins)(B:Option Addr)(d:Nat)(main:List Int)(w:World)(h:RdC w A xs)(hl:xs.length<=100000)(hm:RdI w B main)(hml:main.length<=600000) :
  Calls prog 8 #[.agg m.cells.toArray,.slice A xs.length c,.slice B main.length d] w (Af4 m xs main w):=by
 have HN:=hd (fun W (hW:Ext [] w W)=>On m A c xs B d main W (h.ext hW (by simp)) hl (hm.ext hW (by simp)) hml);generalize hQ:Af4 m xs main w=Q at *;have HQ:=hd hQ;obtain⟨m',hm'⟩:∃m',m'=m:=⟨_,rfl⟩;have HM:=hd hm';obtain⟨m0,m1,m2,m3,m4⟩:=m;show Calls prog 8 #[.agg #[m0,m1,m2,m3,m4],.slice A xs.length c,.slice B main.length d] w _
 have HE0:=hd (((Ext.refl [] w).alloc (.cells #[m0,m1,m2,m3,m4] 27)).alloc (.cells #[(0:Int),(0:Int)] 36));have HB:=hd (Blk.new (w.alloc (.cells #[m0,m1,m2,m3,m4] 27)) 36 #[(0:Int),(0:Int)]);clear h hm hQ hm';go_enter func8,ntmps8
 go_wp2_with fail
 have hsz:(w.alloc (.cells #[m0,m1,m2,m3,m4] 27)).heap.size=w.heap.size+1:=by simp
 rw[hsz] at HB;clear hsz;refine(HN.o _ HE0.o).mono ?_
 rw[<-HM.o];rintro e w2 (⟨hp,rfl,hE⟩|⟨hp,A0,rfl,hE,hC,hmb⟩)
 ·obtain⟨k,hk⟩:∃k,k=Di m' xs main:=⟨_,rfl⟩;rw[<-hk] at hp⊢;have hkn:(k != 0)=true:=by simp[hp]
  have HE:=hd (HE0.o.trans hE);have HP:=hd (And.intro hk hp);have HB2:=hd (HB.o.ext hE (by simp));have q0:=HB2.o.cell 0;have q1:=HB2.o.cell 1;have qf:=HB2.o.frozen;have ql:=HB2.o.lt;simp only[List.getElem?_toArray,List.getElem?_cons_zero,List.getElem?_cons_succ] at q0 q1;have HB3:=hd ((HB2.o.set_ 0 (.int .i64 0)).set_ 1 (.int .i64 0));have HE3:=hd ((HE.o.setCell (p:=⟨w.heap.size+1,0,none⟩) (.inr (by simp)) (.int .i64 0)).setCell (p:=⟨w.heap.size+1,1,none⟩) (.inr (by simp)) (.int .i64 0));clear hk hp hE;go_wp2_with fail
  refine bodyPost_ret (Jq rfl _ _ (w.heap.size+1) 0 0 (.int .i64 k) rfl rfl HB3.o) rfl ?_
  rw[<-HQ.o,<-HM.o];exact .inl ⟨by rw[<-HP.o.1];exact HP.o.2,by rw[<-HP.o.1],HE3.o⟩
 ·have HE:=hd (HE0.o.trans hE);have HMB:=hd hmb;clear hmb;have HP:=hd hp;have HC:=hd hC;obtain⟨f,hf⟩:∃f,f=(Ew m' xs main).fault.isSome:=⟨_,rfl⟩;have HF:=hd hf;have q169:=hC.cell (i:=169) (by omega) (v:=.bool (Ew m' xs main).fault.isSome) rfl;rw[<-hf] at q169;have q166:=hC.cell (i:=166) (by omega) (v:=.int .i64 (flA (Ew m' xs main))) rfl;have q167:=hC.cell (i:=167) (by omega) (v:=.int .i64 (flK (Ew m' xs main))) rfl;have qcl:=hC.lt;have HB2:=hd (HB.o.ext hE (by simp));have q0:=HB2.o.cell 0;have q1:=HB2.o.cell 1;have qf:=HB2.o.frozen;have ql:=HB2.o.lt;simp only[List.getElem?_toArray,List.getElem?_cons_zero,List.getElem?_cons_succ] at q0 q1;clear hp hE hC hf;cases f
  ·have HB3:=hd ((HB2.o.set_ 0 (.int .i64 0)).set_ 1 (.int .i64 0));have HE3:=hd ((HE.o.setCell (p:=⟨w.heap.size+1,0,none⟩) (.inr (by simp)) (.int .i64 0)).setCell (p:=⟨w.heap.size+1,1,none⟩) (.inr (by simp)) (.int .i64 0));go_wp2_with fail
   refine bodyPost_ret (Jq rfl _ _ (w.heap.size+1) 0 0 (.int .i64 13) rfl rfl HB3.o) rfl ?_
   rw[<-HQ.o,<-HM.o];exact .inr (.inl ⟨HP.o,HF.o.symm,rfl,HE3.o⟩)
  ·have HB3:=hd ((HB2.o.set_ 0 (.int .i64 (flA (Ew m' xs main)))).set_ 1 (.int .i64 (flK (Ew m' xs main))));have HE3:=hd ((HE.o.setCell (p:=⟨w.heap.size+1,0,none⟩) (.inr (by simp)) (.int .i64 (flA (Ew m' xs main)))).setCell (p:=⟨w.heap.size+1,1,none⟩) (.inr (by simp)) (.int .i64 (flK (Ew m' xs main))));go_wp2_with fail
   refine bodyPost_ret (Jq rfl _ _ (w.heap.size+1) (flA (Ew m' xs main)) (flK (Ew m' xs main)) (.int .i64 0) rfl rfl HB3.o) rfl ?_
   rw[<-HQ.o,<-HM.o];exact .inr (.inr ⟨HP.o,HF.o.symm,rfl,HE3.o⟩)
end
theorem Agx (m:Mc)(A:Option Addr)(c:Nat)(xs:List Ins)(B:Option Addr)(d:Nat)(main:List Int)(w:World)(h:RdC w A xs)(hl:xs.length<=100000)(hm:RdI w B main)(hml:main.length<=600000)(hp:Di m xs main≠0) :
  Calls prog 7 #[.agg m.cells.toArray,.slice A xs.length c,.slice B main.length d] w fun e w'=>e=.returned (.tuple #[.slice none 0 0,(0:Int),(Di m xs main)])/\Ext [] w w':=by
 refine(Sa m A c xs B d main w h hl hm hml).mono ?_
 rintro e w' (⟨_,h1,h2⟩|⟨h0,_⟩|⟨h0,_⟩)
 ·exact⟨h1,h2⟩
 ·exact absurd h0 hp
 ·exact absurd h0 hp
theorem Aeb (m:Mc)(A:Option Addr)(c:Nat)(xs:List Ins)(B:Option Addr)(d:Nat)(main:List Int)(w:World)(h:RdC w A xs)(hl:xs.length<=100000)(hm:RdI w B main)(hml:main.length<=600000)(hp:Di m xs main≠0) :
  Calls prog 8 #[.agg m.cells.toArray,.slice A xs.length c,.slice B main.length d] w fun e w'=>e=.returned (.tuple #[.agg #[(0:Int),(0:Int)],(Di m xs main)])/\Ext [] w w':=by
 refine(Pf m A c xs B d main w h hl hm hml).mono ?_
 rintro e w' (⟨_,h1,h2⟩|⟨h0,_⟩|⟨h0,_⟩)
 ·exact⟨h1,h2⟩
 ·exact absurd h0 hp
 ·exact absurd h0 hp
theorem Af5 (m:Mc)(A:Option Addr)(c:Nat)(xs:List Ins)(B:Option Addr)(d:Nat)(main:List Int)(w:World)(h:RdC w A xs)(hl:xs.length<=100000)(hm:RdI w B main)(hml:main.length<=600000)(hp:Di m xs main=0)(hf:(Ew m xs main).fault.isSome=true) :
  Calls prog 7 #[.agg m.cells.toArray,.slice A xs.length c,.slice B main.length d] w fun e w'=>e=.returned (.tuple #[.slice none 0 0,(0:Int),(20:Int)])/\Ext [] w w':=by
 refine(Sa m A c xs B d main w h hl hm hml).mono ?_
 rintro e w' (⟨h0,_⟩|⟨_,_,h1,h2⟩|⟨_,h0,_⟩)
 ·exact absurd hp h0
 ·exact⟨h1,h2⟩
 ·rw[hf] at h0;cases h0
theorem Aa6 (m:Mc)(A:Option Addr)(c:Nat)(xs:List Ins)(B:Option Addr)(d:Nat)(main:List Int)(w:World)(h:RdC w A xs)(hl:xs.length<=100000)(hm:RdI w B main)(hml:main.length<=600000)(hp:Di m xs main=0)(hf:(Ew m xs main).fault.isSome=true) :
  Calls prog 8 #[.agg m.cells.toArray,.slice A xs.length c,.slice B main.length d] w fun e w'=>e=.returned (.tuple #[.agg #[.int .i64 (flA (Ew m xs main)),.int .i64 (flK (Ew m xs main))],(0:Int)])/\Ext [] w w':=by
 refine(Pf m A c xs B d main w h hl hm hml).mono ?_
 rintro e w' (⟨h0,_⟩|⟨_,h0,_⟩|⟨_,_,h1,h2⟩)
 ·exact absurd hp h0
 ·rw[hf] at h0;cases h0
 ·exact⟨h1,h2⟩
theorem Aa7 (m:Mc)(A:Option Addr)(c:Nat)(xs:List Ins)(B:Option Addr)(d:Nat)(main:List Int)(w:World)(h:RdC w A xs)(hl:xs.length<=100000)(hm:RdI w B main)(hml:main.length<=600000)(hp:Di m xs main=0)(hf:(Ew m xs main).fault.isSome=false) :
  Calls prog 8 #[.agg m.cells.toArray,.slice A xs.length c,.slice B main.length d] w fun e w'=>e=.returned (.tuple #[.agg #[(0:Int),(0:Int)],(13:Int)])/\Ext [] w w':=by
 refine(Pf m A c xs B d main w h hl hm hml).mono ?_
 rintro e w' (⟨h0,_⟩|⟨_,_,h1,h2⟩|⟨_,h0,_⟩)
 ·exact absurd hp h0
 ·exact⟨h1,h2⟩
 ·rw[hf] at h0;cases h0
end Go.Proofs.YtkgmhggliifkjaaGreat
