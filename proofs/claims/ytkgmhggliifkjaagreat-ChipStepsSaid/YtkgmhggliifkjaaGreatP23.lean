import Derived.Test.YtkgmhggliifkjaaGreatP02
namespace Go.Proofs.YtkgmhggliifkjaaGreat
open Go.RowKit Go.Proofs.Tryz
set_option linter.all false
set_option maxHeartbeats 8000000
set_option maxRecDepth 100000
def Abp (base bc g gc n c:Nat)(cm:CM)(w:World)(e:Ending)(w':World):Prop:=e=.returned (.tuple #[])/\Dx bc [g] w w'/\Cdr w' base bc g gc n c cm
theorem Ff.cdr {w:World}{base bc g gc n c:Nat}{cm:CM}{v:Value}{l:List Ins}(h:Ff w base bc g gc n c cm v l):Cdr w base bc g gc n c cm:=⟨v,l,h⟩
theorem Gj {base bc g gc n m N c c' c'':Nat}{cm:CM}{v:Value}{l:List Ins}{w w1 w2:World}(h:Ff w base bc g gc N c'' cm v l)(hE:Ext [g] w w1)(hU:Dx bc [g] w1 w2)(hC:Cdr w2 base bc g gc m c' cm)(hn:n<=m)(hc:c<=c') :
  Abp base bc g gc n c cm w (.returned (.tuple #[])) w2:=by
 have hb:bc<=w.heap.size:=by have:=h.blk.lt;have:=h.bb;omega
 exact⟨rfl,(Dx.of_ext hE hb (fun x hx=>.inl hx)).trans hU,hC.less hn hc⟩
theorem Ff.go {base bc g gc m N c c':Nat}{cm:CM}{v:Value}{l:List Ins}{w w1:World}(h:Ff w base bc g gc N c cm v l)(hE:Ext [g] w w1)(hS:Stm w1 base g m)(hc:c'<=c):Cdr w1 base bc g gc m c' cm:=
 ⟨v,l,(h.draw hE hS).less (Nat.le_refl _) hc⟩
theorem Aae (base bc g gc n c:Nat)(cm:CM)(w:World)(h:Cdr w base bc g gc (n+200) (c+2) cm) :
  Calls prog 97 #[.pointer (some gc)] w (Abp base bc g gc n c cm w):=by
 obtain⟨v,l,h⟩:=h;have HC:=hd h.cells;have hc0:=HC.o w er;have hset:=h.set;have hque:=h.que;have hlan:=h.lan;have HH:=hd h;have hlt:=h.blk.lt;clear h;simp only[As] at hc0;go_enter func97,ntmps97
 go_wp2_with fail
 refine(Bk base g (n+199) _ _ HH.o.stm (by omega)).mono ?_
 rintro e w1 ⟨r1,rfl,_,hE1,hS1⟩;have hc1:=HC.o w1 hE1;simp only[As] at hc1;clear hc0;go_upto_if 13 with fail
 go_cut [2] (fun s wx=>∃r:Int,s=.int .i64 r/\Ext [g] w wx/\Stm wx base g (n+160))
 case first=>
  go_wp2_with fail
  ·refine Am 9 (JS base g (n+160) _) (Ext [g]) (Bw [(8,Dt)]) (by kernel_rfl) (by kernel_rfl) JS.less ?_ (JS.start (Stm.less hS1 (by omega))) ?_
   ·repeat(first|exact Ah.nil|refine Ah.cons Dt.stays ?_|refine Ah.cons Ik.stays ?_|refine Ah.cons Fr.stays ?_|refine Ah.cons Jt.stays ?_|refine Ah.cons Kx.stays ?_|refine Ah.cons Gs.stays ?_|refine Ah.cons Ju.stays ?_|refine Ah.cons Ef.stays ?_)
   simp only[TK]
   repeat(refine dE (fun wr nr hJ=>by(have hcw:=HC.o wr (hE1.trans hJ.1);simp only[As] at hcw);clear hJ;exact CL) ?_;simp only[PT])
   refine Ca rfl rfl ?_ ?_
   ·apply Exists.intro
    apply Exists.intro
    refine⟨fun wr=>?_,fun wr nr hJ hE=>?_⟩
    ·go_simp
     first|exact⟨rfl,rfl⟩|rfl
    exact⟨_,_,(by omega),Bk base g _ _ _ hJ (by omega)⟩
   intro (y1:Int);simp only[PT];refine Aa (fun w3 hJ hF=>?_)
   clear hF;go_wp2_with fail
   go_meet
   exact⟨_,rfl,hE1.trans hJ.1,hJ.2⟩
  ·go_meet
   exact⟨_,rfl,hE1,hS1.less (by omega)⟩
 case rest=>
  clear hc1 hE1 hS1;obtain⟨r,rfl,hE1,hS1⟩:=hcut;have hc1:=HC.o _ hE1;simp only[As] at hc1;go_upto_if 27 with(go_at_call 26;refine(Hw base g (n+159) _ _ hS1 (by omega)).mono ?_;rintro e w2 ⟨b2,rfl,hE2,hS2⟩)
  have E1:=hE1.trans hE2;clear hc1 hE1 hE2 hS1;have hc1:=HC.o _ E1;simp only[As] at hc1;go_cut [2] (fun s wx=>∃r:Int,s=.int .i64 r/\Ext [g] w wx/\Stm wx base g (n+150))
  case first=>
   cases b2
   ·go_wp2_with fail
    go_meet
    exact⟨_,rfl,E1,hS2.less (by omega)⟩
   ·go_wp2_with fail
    refine(Cn base g (n+158) _ 5 3 [-1,23,255,256,64] _ (hS2.alloc _) (Blk.new _ _ _) (by have:=hS2.lt;omega) (by simp)).mono ?_
    rintro e w3 ⟨r3,rfl,_,hE3,hS3⟩;go_wp2_with fail
    go_meet
    exact⟨_,rfl,E1.trans ((er.alloc _).trans hE3),hS3.less (by omega)⟩
  case rest=>
   clear hc1 E1 hS2;obtain⟨r,rfl,hE1,hS1⟩:=hcut;have hc1:=HC.o _ hE1;simp only[As] at hc1;go_upto_if 38 with(go_at_call 26;refine(Hw base g (n+149) _ _ hS1 (by omega)).mono ?_;rintro e w2 ⟨b2,rfl,hE2,hS2⟩)
   have E1:=hE1.trans hE2;clear hc1 hE1 hE2 hS1;go_cut [3] (fun s wx=>∃q:Int,s=.int .i64 q/\Ext [g] w wx/\Stm wx base g (n+140))
   case first=>
    cases b2<;>(go_wp2_with fail;go_meet;exact⟨_,rfl,E1,hS2.less (by omega)⟩)
   case rest=>
    clear E1 hS2;obtain⟨q,rfl,hE1,hS1⟩:=hcut;have hc1:=HC.o _ hE1;simp only[As] at hc1;go_wp2_with fail
    refine(Bk base g (n+139) _ _ hS1 (by omega)).mono ?_
    rintro e w2 ⟨r2,rfl,_,hE2,hS2⟩;have E1:=hE1.trans hE2;clear hc1 hE1 hE2 hS1;have hc1:=HC.o _ E1;simp only[As] at hc1;go_wp2_with fail
    ·refine Am 9 (JS base g (n+20) _) (Ext [g]) (Bw [(2,Dt),(7,Dt)]) (by kernel_rfl) (by kernel_rfl) JS.less ?_ (JS.start (Stm.less hS2 (by omega))) ?_
     ·repeat(first|exact Ah.nil|refine Ah.cons Dt.stays ?_|refine Ah.cons Ik.stays ?_|refine Ah.cons Fr.stays ?_|refine Ah.cons Jt.stays ?_|refine Ah.cons Kx.stays ?_|refine Ah.cons Gs.stays ?_|refine Ah.cons Ju.stays ?_|refine Ah.cons Ef.stays ?_)
     simp only[TK]
     repeat(refine dE (fun wr nr hJ=>by(have hcw:=HC.o wr (E1.trans hJ.1);simp only[As] at hcw);clear hJ;exact CL) ?_;simp only[PT])
     refine Ca rfl rfl ?_ ?_
     ·apply Exists.intro
      apply Exists.intro
      refine⟨fun wr=>?_,fun wr nr hJ hE=>?_⟩
      ·go_simp
       first|exact⟨rfl,rfl⟩|rfl
      exact⟨_,_,(by omega),Mn base bc g gc _ (c+2) cm v l _ (HH.o.draw (E1.trans hE) hJ)⟩
     intro (y1:Int);simp only[PT]
     repeat(refine dE (fun wr nr hJ=>by(have hcw:=HC.o wr (E1.trans hJ.1);simp only[As] at hcw);clear hJ;exact CL) ?_;simp only[PT])
     refine Ca rfl rfl ?_ ?_
     ·apply Exists.intro
      apply Exists.intro
      refine⟨fun wr=>?_,fun wr nr hJ hE=>?_⟩
      ·go_simp
       first|exact⟨rfl,rfl⟩|rfl
      exact⟨_,_,(by omega),Bk base g _ _ _ hJ (by omega)⟩
     intro (y2:Int);simp only[PT]
     repeat(refine dE (fun wr nr hJ=>by clear hJ;exact CL) ?_;simp only[PT])
     refine Aa (fun w3 hJ hF=>?_)
     clear hF;have E3:=E1.trans hJ.1;go_wp2_with fail
     refine(Eh base bc g gc (n+20) (c+1) cm ⟨5,0,y1,0,0,0,0,y2,0⟩ _ (HH.o.go E3 hJ.2 (by omega))).mono ?_
     rintro e w4 ⟨rfl,hU,hC⟩;go_wp2_with fail
     go_end0
     exact Gj HH.o E3 hU hC (by omega) (by omega)
    ·refine Am 9 (JS base g (n+20) _) (Ext [g]) (Bw [(2,Dt),(7,Dt)]) (by kernel_rfl) (by kernel_rfl) JS.less ?_ (JS.start (Stm.less hS2 (by omega))) ?_
     ·repeat(first|exact Ah.nil|refine Ah.cons Dt.stays ?_|refine Ah.cons Ik.stays ?_|refine Ah.cons Fr.stays ?_|refine Ah.cons Jt.stays ?_|refine Ah.cons Kx.stays ?_|refine Ah.cons Gs.stays ?_|refine Ah.cons Ju.stays ?_|refine Ah.cons Ef.stays ?_)
     simp only[TK]
     repeat(refine dE (fun wr nr hJ=>by(have hcw:=HC.o wr (E1.trans hJ.1);simp only[As] at hcw);clear hJ;exact CL) ?_;simp only[PT])
     refine Ca rfl rfl ?_ ?_
     ·apply Exists.intro
      apply Exists.intro
      refine⟨fun wr=>?_,fun wr nr hJ hE=>?_⟩
      ·go_simp
       first|exact⟨rfl,rfl⟩|rfl
      exact⟨_,_,(by omega),Mn base bc g gc _ (c+2) cm v l _ (HH.o.draw (E1.trans hE) hJ)⟩
     intro (y1:Int);simp only[PT]
     repeat(refine dE (fun wr nr hJ=>by(have hcw:=HC.o wr (E1.trans hJ.1);simp only[As] at hcw);clear hJ;exact CL) ?_;simp only[PT])
     refine Ca rfl rfl ?_ ?_
     ·apply Exists.intro
      apply Exists.intro
      refine⟨fun wr=>?_,fun wr nr hJ hE=>?_⟩
      ·go_simp
       first|exact⟨rfl,rfl⟩|rfl
      exact⟨_,_,(by omega),Bk base g _ _ _ hJ (by omega)⟩
     intro (y2:Int);simp only[PT]
     repeat(refine dE (fun wr nr hJ=>by clear hJ;exact CL) ?_;simp only[PT])
     refine Aa (fun w3 hJ hF=>?_)
     clear hF;have E3:=E1.trans hJ.1;go_wp2_with fail
     refine(Eh base bc g gc (n+20) (c+1) cm ⟨6,0,0,0,y1,0,0,y2,0⟩ _ (HH.o.go E3 hJ.2 (by omega))).mono ?_
     rintro e w4 ⟨rfl,hU,hC⟩;go_wp2_with fail
     go_end0
     exact Gj HH.o E3 hU hC (by omega) (by omega)
    ·refine(Mn base bc g gc (n+138) (c+2) cm v l _ (HH.o.draw E1 hS2)).mono ?_
     rintro e w3 ⟨y1,rfl,_,hE3,hS3⟩;have E3:=E1.trans hE3;have hc3:=HC.o _ E3;simp only[As] at hc3;go_wp2_with fail
     refine(Eh base bc g gc (n+138) (c+1) cm ⟨7,0,y1,0,0,q,0,r,0⟩ _ (HH.o.go E3 hS3 (by omega))).mono ?_
     rintro e w4 ⟨rfl,hU,hC⟩;go_wp2_with fail
     go_end0
     exact Gj HH.o E3 hU hC (by omega) (by omega)
    ·refine(Mn base bc g gc (n+138) (c+2) cm v l _ (HH.o.draw E1 hS2)).mono ?_
     rintro e w3 ⟨y1,rfl,_,hE3,hS3⟩;have E3:=E1.trans hE3;have hc3:=HC.o _ E3;simp only[As] at hc3;go_wp2_with fail
     refine(Eh base bc g gc (n+138) (c+1) cm ⟨8,0,0,0,y1,q,0,r,0⟩ _ (HH.o.go E3 hS3 (by omega))).mono ?_
     rintro e w4 ⟨rfl,hU,hC⟩;go_wp2_with fail
     go_end0
     exact Gj HH.o E3 hU hC (by omega) (by omega)
    ·refine(Bk base g (n+138) _ _ hS2 (by omega)).mono ?_
     rintro e w3 ⟨y1,rfl,_,hE3,hS3⟩;have E3:=E1.trans hE3;have hc3:=HC.o _ E3;simp only[As] at hc3;go_wp2_with fail
     refine(Eh base bc g gc (n+138) (c+1) cm ⟨9,0,y1,0,0,q,0,r,0⟩ _ (HH.o.go E3 hS3 (by omega))).mono ?_
     rintro e w4 ⟨rfl,hU,hC⟩;go_wp2_with fail
     go_end0
     exact Gj HH.o E3 hU hC (by omega) (by omega)
    ·refine(Bk base g (n+138) _ _ hS2 (by omega)).mono ?_
     rintro e w3 ⟨y1,rfl,_,hE3,hS3⟩;have E3:=E1.trans hE3;have hc3:=HC.o _ E3;simp only[As] at hc3;go_wp2_with fail
     refine(Eh base bc g gc (n+138) (c+1) cm ⟨10,0,0,0,y1,q,0,r,0⟩ _ (HH.o.go E3 hS3 (by omega))).mono ?_
     rintro e w4 ⟨rfl,hU,hC⟩;go_wp2_with fail
     go_end0
     exact Gj HH.o E3 hU hC (by omega) (by omega)
    ·refine(Bk base g (n+138) _ _ hS2 (by omega)).mono ?_
     rintro e w3 ⟨y1,rfl,_,hE3,hS3⟩;have E3:=E1.trans hE3;have hc3:=HC.o _ E3;simp only[As] at hc3;go_wp2_with fail
     refine(Eh base bc g gc (n+138) (c+1) cm ⟨14,0,0,0,0,q,0,r,y1⟩ _ (HH.o.go E3 hS3 (by omega))).mono ?_
     rintro e w4 ⟨rfl,hU,hC⟩;go_wp2_with fail
     go_end0
     exact Gj HH.o E3 hU hC (by omega) (by omega)
    ·refine Am 28 (JS base g (n+50) _) (Ext [g]) (Bw [(10,Dt),(15,Dt),(21,Dt),(26,Dt)]) (by kernel_rfl) (by kernel_rfl) JS.less ?_ (JS.start (Stm.less hS2 (by omega))) ?_
     ·repeat(first|exact Ah.nil|refine Ah.cons Dt.stays ?_|refine Ah.cons Ik.stays ?_|refine Ah.cons Fr.stays ?_|refine Ah.cons Jt.stays ?_|refine Ah.cons Kx.stays ?_|refine Ah.cons Gs.stays ?_|refine Ah.cons Ju.stays ?_|refine Ah.cons Ef.stays ?_)
     simp only[TK]
     repeat(refine dE (fun wr nr hJ=>by(have hcw:=HC.o wr (E1.trans hJ.1);simp only[As] at hcw);clear hJ;exact CL) ?_;simp only[PT])
     refine Ca rfl rfl ?_ ?_
     ·apply Exists.intro
      apply Exists.intro
      refine⟨fun wr=>?_,fun wr nr hJ hE=>?_⟩
      ·go_simp
       first|exact⟨rfl,rfl⟩|rfl
      exact⟨_,_,(by omega),Bk base g _ _ _ hJ (by omega)⟩
     intro (y1:Int);simp only[PT]
     repeat(refine dE (fun wr nr hJ=>by(have hcw:=HC.o wr (E1.trans hJ.1);simp only[As] at hcw);clear hJ;exact CL) ?_;simp only[PT])
     refine Ca rfl rfl ?_ ?_
     ·apply Exists.intro
      apply Exists.intro
      refine⟨fun wr=>?_,fun wr nr hJ hE=>?_⟩
      ·go_simp
       first|exact⟨rfl,rfl⟩|rfl
      exact⟨_,_,(by omega),Ch base g _ _ _ _ hJ (by omega) (by omega)⟩
     intro (y2:Int);simp only[PT]
     repeat(refine dE (fun wr nr hJ=>by(have hcw:=HC.o wr (E1.trans hJ.1);simp only[As] at hcw);clear hJ;exact CL) ?_;simp only[PT])
     refine Ca rfl rfl ?_ ?_
     ·apply Exists.intro
      apply Exists.intro
      refine⟨fun wr=>?_,fun wr nr hJ hE=>?_⟩
      ·go_simp
       first|exact⟨rfl,rfl⟩|rfl
      exact⟨_,_,(by omega),Bk base g _ _ _ hJ (by omega)⟩
     intro (y3:Int);simp only[PT]
     repeat(refine dE (fun wr nr hJ=>by(have hcw:=HC.o wr (E1.trans hJ.1);simp only[As] at hcw);clear hJ;exact CL) ?_;simp only[PT])
     refine Ca rfl rfl ?_ ?_
     ·apply Exists.intro
      apply Exists.intro
      refine⟨fun wr=>?_,fun wr nr hJ hE=>?_⟩
      ·go_simp
       first|exact⟨rfl,rfl⟩|rfl
      exact⟨_,_,(by omega),Ch base g _ _ _ _ hJ (by omega) (by omega)⟩
     intro (y4:Int);simp only[PT]
     repeat(refine dE (fun wr nr hJ=>by clear hJ;exact CL) ?_;simp only[PT])
     refine Aa (fun w3 hJ hF=>?_)
     clear hF;have E3:=E1.trans hJ.1;go_wp2_with fail
     refine(Eh base bc g gc (n+50) (c+1) cm ⟨18,y2,y1,0,0,q,0,y3,y4⟩ _ (HH.o.go E3 hJ.2 (by omega))).mono ?_
     rintro e w4 ⟨rfl,hU,v4,l4,hC⟩;have HC4:=hd hC.cells;have HH4:=hd hC;have hc4:=HC4.o w4 er;simp only[As] at hc4;clear hC;go_wp2_with fail
     refine(Hw base g (n+49) _ _ HH4.o.stm (by omega)).mono ?_
     rintro e w5 ⟨b5,rfl,hE5,hS5⟩;have hc5:=HC4.o w5 hE5;simp only[As] at hc5;cases b5
     ·go_wp2_with fail
      go_end0
      exact Gj HH.o E3 (hU.trans (Dx.of_ext hE5 (by have:=HH4.o.blk.lt;have:=HH4.o.bb;omega) (fun x hx=>.inl hx))) (HH4.o.go hE5 hS5 (Nat.le_refl _)) (by omega) (by omega)
     ·go_wp2_with fail
      refine Am 12 (JS base g n _) (Ext [g]) (Bw [(10,Dt)]) (by kernel_rfl) (by kernel_rfl) JS.less ?_ (JS.start (Stm.less hS5 (by omega))) ?_
      ·repeat(first|exact Ah.nil|refine Ah.cons Dt.stays ?_|refine Ah.cons Ik.stays ?_|refine Ah.cons Fr.stays ?_|refine Ah.cons Jt.stays ?_|refine Ah.cons Kx.stays ?_|refine Ah.cons Gs.stays ?_|refine Ah.cons Ju.stays ?_|refine Ah.cons Ef.stays ?_)
      simp only[TK]
      repeat(refine dE (fun wr nr hJ=>by(have hcw:=HC4.o wr (hE5.trans hJ.1);simp only[As] at hcw);clear hJ;exact CL) ?_;simp only[PT])
      refine Ca rfl rfl ?_ ?_
      ·apply Exists.intro
       apply Exists.intro
       refine⟨fun wr=>?_,fun wr nr hJ hE=>?_⟩
       ·go_simp
        first|exact⟨rfl,rfl⟩|rfl
       exact⟨_,_,(by omega),Bk base g _ _ _ hJ (by omega)⟩
      intro (z1:Int);simp only[PT]
      repeat(refine dE (fun wr nr hJ=>by clear hJ;exact CL) ?_;simp only[PT])
      refine Aa (fun w6 hJ hF=>?_)
      clear hF;have E6:=hE5.trans hJ.1;go_wp2_with fail
      refine(Eh base bc g gc n c cm ⟨19,0,z1,0,0,0,0,0,0⟩ _ (HH4.o.go E6 hJ.2 (by omega))).mono ?_
      rintro e w7 ⟨rfl,hU7,hC7⟩;go_wp2_with fail
      go_end0
      exact Gj HH.o E3 (hU.trans ((Dx.of_ext E6 (by have:=HH4.o.blk.lt;have:=HH4.o.bb;omega) (fun x hx=>.inl hx)).trans hU7)) hC7 (by omega) (by omega)
end Go.Proofs.YtkgmhggliifkjaaGreat
