import Derived.Test.YtkgmhggliifkjaaGreatP23
namespace Go.Proofs.YtkgmhggliifkjaaGreat
open Go.RowKit Go.Proofs.Tryz
set_option linter.all false
set_option maxHeartbeats 8000000
set_option maxRecDepth 100000
def Km (d:Nat):Nat:=3000*5 ^ d
def Jz (d:Nat):Nat:=20*5 ^ d
theorem Adk (d:Nat):Km (d+1)=5*Km d:=by unfold Km;rw[Nat.pow_succ];omega
theorem Adl (d:Nat):Jz (d+1)=5*Jz d:=by unfold Jz;rw[Nat.pow_succ];omega
theorem Abq (d:Nat):3000<=Km d:=by unfold Km;have:=Nat.one_le_pow d 5 (by omega);omega
theorem Abr (d:Nat):20<=Jz d:=by unfold Jz;have:=Nat.one_le_pow d 5 (by omega);omega
theorem Rk {w:World}{base:Nat}{e:TypeId}{size n:Nat}{v:Value}{xs:List Value}(h:w.ownsRow base e size v n xs) :
  ∃A cap,v=.slice A n cap/\n<=cap/\(0<n->∃g,A=some ⟨g,0,none⟩/\base<=g/\g<w.heap.size):=by
 rcases h.2 with⟨rfl,rfl⟩|⟨g,cap,cur,rfl,hb,hg,hnc,_⟩
 ·exact⟨none,0,rfl,Nat.le_refl _,fun h=>absurd h (by omega)⟩
 ·exact⟨_,cap,rfl,hnc,fun _=>⟨g,rfl,hb,(Array.getElem?_eq_some_iff.1 hg).1⟩⟩
theorem Ins.cells_get_set (x:Ins)(f:Nat)(y:Int)(hf:f<9):(x.set f y).cells=x.cells.set f y:=by
 match f,hf with
 | 0,_|1,_|2,_|3,_|4,_|5,_|6,_|7,_|8,_=>rfl
theorem Mz (l:List Ins)(i f:Nat)(y:Int)(hi:i<l.length)(hf:f<9):codeCells (l.set i ((l[i]).set f y))=(codeCells l).set (i*9+f) (.int .i64 y):=by
 induction l generalizing i with
 | nil=>simp at hi
 | cons x l ih=>
  have hcons:∀(y:Ins) (ys:List Ins),codeCells (y :: ys)=y.cells ++ codeCells ys:=fun y ys=>by simp[codeCells]
  cases i with
  | zero=>
   simp only[List.set_cons_zero,List.getElem_cons_zero,hcons,Nat.zero_mul,Nat.zero_add];rw[Ins.cells_get_set x f y hf,List.set_append_left _ _ (by simp[Ins.cells];omega)]
  | succ i=>
   simp only[List.set_cons_succ,List.getElem_cons_succ,hcons];rw[List.set_append_right _ _ (by simp[Ins.cells];omega),ih i (by simpa using hi)];have:(i+1)*9+f-x.cells.length=i*9+f:=by simp[Ins.cells];omega
   rw[this]
theorem Ff.store {w:World}{base bc g gc n c g1 cap:Nat}{cm:CM}{l:List Ins}(h:Ff w base bc g gc n c cm (.slice (some g1) l.length cap) l)(i f:Nat)(y:Int)(hi:i<l.length)(hf:f<9) :
  Ff (w.setCell ⟨g1,i*9+f,none⟩ y) base bc g gc n c cm (.slice (some g1) l.length cap) (l.set i ((l[i]).set f y)):=by
 have hb:=Bf h.own g1 rfl;have hne:g1≠gc:=fun e=>Kw h.own h.blk (by decide) (by simp[Value.ownBlock,e])
 refine⟨h.stm.setAt (by have:=h.gb;omega) (by have:=h.bas;omega),h.blk.far (fun e=>hne e.symm) _,?_,by simpa using h.room,h.gb,h.bb,h.bas,h.lan,h.que,h.set⟩
 rw[Mz l i f y hi hf,List.length_set];exact(h.own.stored (i*9+f) _).1
structure Agz (base bc g gc n c:Nat)(cm:CM)(w wx:World):Prop where
 up:Dx bc [g] w wx
 cdr:Cdr wx base bc g gc n c cm
theorem Ib {base bc g gc n m N c c' c'':Nat}{cm:CM}{v:Value}{l:List Ins}{w w1 w2:World}(h:Ff w base bc g gc N c'' cm v l)(hE:Ext [g] w w1)(hU:Dx bc [g] w1 w2)(hC:Cdr w2 base bc g gc m c' cm)(hn:n<=m)(hc:c<=c') :
  Agz base bc g gc n c cm w w2:=by
 have hb:bc<=w.heap.size:=by have:=h.blk.lt;have:=h.bb;omega
 exact⟨(Dx.of_ext hE hb (fun x hx=>.inl hx)).trans hU,hC.less hn hc⟩
def Qj (d:Nat):Prop:=∀(base bc g gc n c:Nat) (cm:CM) (w:World),Cdr w base bc g gc (n+Km d) (c+Jz d) cm->
  Calls prog 56 #[.pointer (some gc),d] w (Abp base bc g gc n c cm w)
theorem Xl (d:Nat)(hd9:d<=1000)(ih:∀d',d=d'+1->Qj d'):Qj d:=by
 intro base bc g gc n c cm w h;obtain⟨v,l,h⟩:=h;obtain⟨A,cap,rfl,hcap,hA⟩:=Rk h.own;have HC:=hd h.cells;have hc0:=HC.o w er;have hset:=h.set;have hque:=h.que;have hlan:=h.lan;have hroom:=h.room;have HH:=hd h;have hlt:=h.blk.lt;have hDg:=Abq d;have hAg:=Abr d;have IH:=hd ih;clear h hA ih;simp only[As] at hc0;go_enter func56,ntmps56
 go_wp2_with fail
 refine(Bk base g (n+Km d-1) _ _ (HH.o.stm.less (by omega)) (by omega)).mono ?_
 rintro e w1 ⟨r1,rfl,⟨hr0,hr1⟩,hE1,hS1⟩;have hc1:=HC.o w1 hE1;simp only[As] at hc1;clear hc0 hr1;go_upto_block 0 with fail
 go_cut [] (fun wx=>Agz base bc g gc (n+600) (c+1) cm w wx)
 case first=>
  go_wp2_with fail
  ·refine Am 18 (JS base g (n+700) _) (Ext [g]) (Bw [(5,Dt),(14,Dt),(15,Fr 7 g),(16,Dt)]) (by kernel_rfl) (by kernel_rfl) JS.less ?_ (JS.start (Stm.less hS1 (by omega))) ?_
   ·repeat(first|exact Ah.nil|refine Ah.cons Dt.stays ?_|refine Ah.cons Ik.stays ?_|refine Ah.cons Fr.stays ?_|refine Ah.cons Jt.stays ?_|refine Ah.cons Kx.stays ?_|refine Ah.cons Gs.stays ?_|refine Ah.cons Ju.stays ?_|refine Ah.cons Ef.stays ?_)
   simp only[TK]
   repeat(refine dE (fun wr nr hJ=>by(have hcw:=HC.o wr (hE1.trans hJ.1);simp only[As] at hcw);clear hJ;exact CL) ?_;simp only[PT])
   refine Ca rfl rfl ?_ ?_
   ·apply Exists.intro
    apply Exists.intro
    refine⟨fun wr=>?_,fun wr nr hJ hE=>?_⟩
    ·go_simp
     first|exact⟨rfl,rfl⟩|rfl
    exact⟨_,_,(by omega),Ch base g _ _ _ _ hJ (by omega) (by omega)⟩
   intro (y1:Int);simp only[PT]
   repeat(refine dE (fun wr nr hJ=>by(have hcw:=HC.o wr (hE1.trans hJ.1);simp only[As] at hcw);clear hJ;exact CL) ?_;simp only[PT])
   refine Ca rfl rfl ?_ ?_
   ·apply Exists.intro
    apply Exists.intro
    refine⟨fun wr=>?_,fun wr nr hJ hE=>?_⟩
    ·go_simp
     first|exact⟨rfl,rfl⟩|rfl
    exact⟨_,_,(by omega),Vy base g _ _ hJ⟩
   intro (y2:Int);simp only[PT];refine Nt 7 [0,1,2,3,9,-1,y2] rfl rfl rfl ?_ ?_
   ·intro wr;go_simp;try first|rfl|exact⟨rfl,rfl⟩
   intro (z:Nat);simp only[PT]
   repeat(refine dE (fun wr nr hJ=>by(have hcw:=HC.o wr (hE1.trans hJ.1);simp only[As] at hcw);clear hJ;exact CL) ?_;simp only[PT])
   refine Nu 15 z 7 rfl rfl (by kernel_rfl) rfl (by omega) ?_ ?_
   ·intro wr;go_simp;try first|rfl|exact⟨rfl,rfl⟩
   intro (y3:Int);simp only[PT]
   repeat(refine dE (fun wr nr hJ=>by clear hJ;exact CL) ?_;simp only[PT])
   refine Aa (fun w3 hJ hF=>?_)
   clear hF;have E3:=hE1.trans hJ.1;go_wp2_with fail
   refine(Eh base bc g gc (n+700) (c+1) cm ⟨1,0,y1,0,0,0,0,y3,0⟩ _ (HH.o.go E3 hJ.2 (by omega))).mono ?_
   rintro e w4 ⟨rfl,hU,hC⟩;go_wp2_with fail
   go_meet
   exact Ib HH.o E3 hU hC (by omega) (by omega)
  ·refine(Afi base bc g gc (n+2000) (c+Jz d) cm _ l 2 6 _ (HH.o.draw hE1 (hS1.less (by omega))) (by omega)).mono ?_
   rintro e w3 ⟨x,rfl,hE3,hS3⟩;have E3:=hE1.trans hE3;go_wp2_with fail
   refine(Eh base bc g gc (n+2000) (c+1) cm x _ (HH.o.go E3 hS3 (by omega))).mono ?_
   rintro e w4 ⟨rfl,hU,hC⟩;go_wp2_with fail
   go_meet
   exact Ib HH.o E3 hU hC (by omega) (by omega)
  ·refine(Aae base bc g gc (n+700) (c+1) cm _ (HH.o.go hE1 (hS1.less (by omega)) (by omega))).mono ?_
   rintro e w4 ⟨rfl,hU,hC⟩;go_wp2_with fail
   go_meet
   exact Ib HH.o hE1 hU hC (by omega) (by omega)
  ·refine(Afi base bc g gc (n+2000) (c+Jz d) cm _ l 11 8 _ (HH.o.draw hE1 (hS1.less (by omega))) (by omega)).mono ?_
   rintro e w3 ⟨x,rfl,hE3,hS3⟩;have E3:=hE1.trans hE3;go_wp2_with fail
   refine(Eh base bc g gc (n+2000) (c+1) cm x _ (HH.o.go E3 hS3 (by omega))).mono ?_
   rintro e w4 ⟨rfl,hU,hC⟩;go_wp2_with fail
   go_meet
   exact Ib HH.o E3 hU hC (by omega) (by omega)
  ·refine Am 12 (JS base g (n+700) _) (Ext [g]) (Bw [(10,Dt)]) (by kernel_rfl) (by kernel_rfl) JS.less ?_ (JS.start (Stm.less hS1 (by omega))) ?_
   ·repeat(first|exact Ah.nil|refine Ah.cons Dt.stays ?_|refine Ah.cons Ik.stays ?_|refine Ah.cons Fr.stays ?_|refine Ah.cons Jt.stays ?_|refine Ah.cons Kx.stays ?_|refine Ah.cons Gs.stays ?_|refine Ah.cons Ju.stays ?_|refine Ah.cons Ef.stays ?_)
   simp only[TK]
   repeat(refine dE (fun wr nr hJ=>by(have hcw:=HC.o wr (hE1.trans hJ.1);simp only[As] at hcw);clear hJ;exact CL) ?_;simp only[PT])
   refine Ca rfl rfl ?_ ?_
   ·apply Exists.intro
    apply Exists.intro
    refine⟨fun wr=>?_,fun wr nr hJ hE=>?_⟩
    ·go_simp
     first|exact⟨rfl,rfl⟩|rfl
    exact⟨_,_,(by omega),Bk base g _ _ _ hJ (by omega)⟩
   intro (y1:Int);simp only[PT]
   repeat(refine dE (fun wr nr hJ=>by clear hJ;exact CL) ?_;simp only[PT])
   refine Aa (fun w3 hJ hF=>?_)
   clear hF;have E3:=hE1.trans hJ.1;go_wp2_with fail
   refine(Eh base bc g gc (n+700) (c+1) cm ⟨19,0,y1,0,0,0,0,0,0⟩ _ (HH.o.go E3 hJ.2 (by omega))).mono ?_
   rintro e w4 ⟨rfl,hU,hC⟩;go_wp2_with fail
   go_meet
   exact Ib HH.o E3 hU hC (by omega) (by omega)
  ·refine Am 48 (JS base g (n+700) _) (Ext [g]) (Bw [(5,Dt),(7,Dt),(10,Dt),(15,Dt),(25,Dt),(31,Dt),(38,Dt),(40,Gs 5 g),(45,Ef 5),(46,Ju g),(47,Kx)]) (by kernel_rfl) (by kernel_rfl) JS.less ?_ (JS.start (Stm.less hS1 (by omega))) ?_
   ·repeat(first|exact Ah.nil|refine Ah.cons Dt.stays ?_|refine Ah.cons Ik.stays ?_|refine Ah.cons Fr.stays ?_|refine Ah.cons Jt.stays ?_|refine Ah.cons Kx.stays ?_|refine Ah.cons Gs.stays ?_|refine Ah.cons Ju.stays ?_|refine Ah.cons Ef.stays ?_)
   simp only[TK]
   repeat(refine dE (fun wr nr hJ=>by(have hcw:=HC.o wr (hE1.trans hJ.1);simp only[As] at hcw);clear hJ;exact CL) ?_;simp only[PT])
   refine Ca rfl rfl ?_ ?_
   ·apply Exists.intro
    apply Exists.intro
    refine⟨fun wr=>?_,fun wr nr hJ hE=>?_⟩
    ·go_simp
     first|exact⟨rfl,rfl⟩|rfl
    exact⟨_,_,(by omega),Bk base g _ _ _ hJ (by omega)⟩
   intro (y1:Int);simp only[PT]
   repeat(refine dE (fun wr nr hJ=>by(have hcw:=HC.o wr (hE1.trans hJ.1);simp only[As] at hcw);clear hJ;exact CL) ?_;simp only[PT])
   refine Ca rfl rfl ?_ ?_
   ·apply Exists.intro
    apply Exists.intro
    refine⟨fun wr=>?_,fun wr nr hJ hE=>?_⟩
    ·go_simp
     first|exact⟨rfl,rfl⟩|rfl
    exact⟨_,_,(by omega),Mn base bc g gc _ (c+Jz d) cm _ l _ (HH.o.draw (hE1.trans hE) hJ)⟩
   intro (y2:Int);simp only[PT]
   repeat(refine dE (fun wr nr hJ=>by(have hcw:=HC.o wr (hE1.trans hJ.1);simp only[As] at hcw);clear hJ;exact CL) ?_;simp only[PT])
   refine Ca rfl rfl ?_ ?_
   ·apply Exists.intro
    apply Exists.intro
    refine⟨fun wr=>?_,fun wr nr hJ hE=>?_⟩
    ·go_simp
     first|exact⟨rfl,rfl⟩|rfl
    exact⟨_,_,(by omega),Mn base bc g gc _ (c+Jz d) cm _ l _ (HH.o.draw (hE1.trans hE) hJ)⟩
   intro (y3:Int);simp only[PT]
   repeat(refine dE (fun wr nr hJ=>by(have hcw:=HC.o wr (hE1.trans hJ.1);simp only[As] at hcw);clear hJ;exact CL) ?_;simp only[PT])
   refine Ca rfl rfl ?_ ?_
   ·apply Exists.intro
    apply Exists.intro
    refine⟨fun wr=>?_,fun wr nr hJ hE=>?_⟩
    ·go_simp
     first|exact⟨rfl,rfl⟩|rfl
    exact⟨_,_,(by omega),Bk base g _ _ _ hJ (by omega)⟩
   intro (y4:Int);simp only[PT]
   repeat(refine dE (fun wr nr hJ=>by(have hcw:=HC.o wr (hE1.trans hJ.1);simp only[As] at hcw);clear hJ;exact CL) ?_;simp only[PT])
   refine Ca rfl rfl ?_ ?_
   ·apply Exists.intro
    apply Exists.intro
    refine⟨fun wr=>?_,fun wr nr hJ hE=>?_⟩
    ·go_simp
     first|exact⟨rfl,rfl⟩|rfl
    exact⟨_,_,(by omega),Bk base g _ _ _ hJ (by omega)⟩
   intro (y5:Int);simp only[PT]
   repeat(refine dE (fun wr nr hJ=>by(have hcw:=HC.o wr (hE1.trans hJ.1);simp only[As] at hcw);clear hJ;exact CL) ?_;simp only[PT])
   refine Ca rfl rfl ?_ ?_
   ·apply Exists.intro
    apply Exists.intro
    refine⟨fun wr=>?_,fun wr nr hJ hE=>?_⟩
    ·go_simp
     first|exact⟨rfl,rfl⟩|rfl
    exact⟨_,_,(by omega),Bk base g _ _ _ hJ (by omega)⟩
   intro (y6:Int);simp only[PT]
   repeat(refine dE (fun wr nr hJ=>by(have hcw:=HC.o wr (hE1.trans hJ.1);simp only[As] at hcw);clear hJ;exact CL) ?_;simp only[PT])
   refine Ca rfl rfl ?_ ?_
   ·apply Exists.intro
    apply Exists.intro
    refine⟨fun wr=>?_,fun wr nr hJ hE=>?_⟩
    ·go_simp
     first|exact⟨rfl,rfl⟩|rfl
    exact⟨_,_,(by omega),Bk base g _ _ _ hJ (by omega)⟩
   intro (y7:Int);simp only[PT]
   repeat(refine dE (fun wr nr hJ=>by(have hcw:=HC.o wr (hE1.trans hJ.1);simp only[As] at hcw);clear hJ;exact CL) ?_;simp only[PT])
   refine Aef 5 [⟨12,0,y1,y2,0,0,0,0,0⟩,⟨13,0,y3,y4,0,0,0,y5,0⟩,⟨15,0,0,y6,0,0,0,0,0⟩,⟨16,0,0,0,0,0,0,0,0⟩,⟨17,0,y7,0,0,0,0,0,0⟩] rfl rfl rfl ?_ ?_
   ·intro wr;go_simp;try first|rfl|exact⟨rfl,rfl⟩
   intro (z:Nat);simp only[PT]
   repeat(refine dE (fun wr nr hJ=>by(have hcw:=HC.o wr (hE1.trans hJ.1);simp only[As] at hcw);clear hJ;exact CL) ?_;simp only[PT])
   refine Ts 5 (by omega) rfl rfl ?_ ?_
   ·apply Exists.intro
    apply Exists.intro
    refine⟨fun wr=>?_,fun wr nr hJ hE=>?_⟩
    ·go_simp
     first|exact⟨rfl,rfl⟩|rfl
    exact⟨_,(by omega),Bk base g _ _ _ hJ (by omega)⟩
   intro (y8:Int);simp only[PT];refine Agc 40 45 z 5 y8 rfl rfl (by kernel_rfl) rfl (by kernel_rfl) rfl ?_ ?_
   ·intro wr hr0 hr1;replace hr1:y8<5:=hr1;go_simp;try first|rfl|exact⟨rfl,rfl⟩
   intro p;simp only[PT];refine Agd 46 p rfl rfl (by kernel_rfl) rfl ?_ ?_
   ·intro wr xi hx;have c0:=hx 0 _ rfl;have c1:=hx 1 _ rfl;have c2:=hx 2 _ rfl;have c3:=hx 3 _ rfl;have c4:=hx 4 _ rfl;have c5:=hx 5 _ rfl;have c6:=hx 6 _ rfl;have c7:=hx 7 _ rfl;have c8:=hx 8 _ rfl;clear hx;simp only[Nat.add_zero] at c0;go_simp;try first|rfl|exact⟨rfl,rfl⟩
   intro x;simp only[PT]
   repeat(refine dE (fun wr nr hJ=>by clear hJ;exact CL) ?_;simp only[PT])
   refine Aa (fun w3 hJ hF=>?_)
   clear hF;have E3:=hE1.trans hJ.1;go_wp2_with fail
   refine(Eh base bc g gc (n+700) (c+1) cm x _ (HH.o.go E3 hJ.2 (by omega))).mono ?_
   rintro e w4 ⟨rfl,hU,hC⟩;go_wp2_with fail
   go_meet
   exact Ib HH.o E3 hU hC (by omega) (by omega)
  ·refine Am 25 (JS base g (n+Km d-100) _) (Ext [g]) (Bw [(5,Dt),(10,Fr 5 g),(11,Dt),(16,Fr 4 g),(17,Dt),(22,Fr 5 g),(23,Dt)]) (by kernel_rfl) (by kernel_rfl) JS.less ?_ (JS.start (Stm.less hS1 (by omega))) ?_
   ·repeat(first|exact Ah.nil|refine Ah.cons Dt.stays ?_|refine Ah.cons Ik.stays ?_|refine Ah.cons Fr.stays ?_|refine Ah.cons Jt.stays ?_|refine Ah.cons Kx.stays ?_|refine Ah.cons Gs.stays ?_|refine Ah.cons Ju.stays ?_|refine Ah.cons Ef.stays ?_)
   simp only[TK]
   repeat(refine dE (fun wr nr hJ=>by(have hcw:=HC.o wr (hE1.trans hJ.1);simp only[As] at hcw);clear hJ;exact CL) ?_;simp only[PT])
   refine Ca rfl rfl ?_ ?_
   ·apply Exists.intro
    apply Exists.intro
    refine⟨fun wr=>?_,fun wr nr hJ hE=>?_⟩
    ·go_simp
     first|exact⟨rfl,rfl⟩|rfl
    exact⟨_,_,(by omega),Ch base g _ _ _ _ hJ (by omega) (by omega)⟩
   intro (y1:Int);simp only[PT]
   repeat(refine dE (fun wr nr hJ=>by(have hcw:=HC.o wr (hE1.trans hJ.1);simp only[As] at hcw);clear hJ;exact CL) ?_;simp only[PT])
   refine Nt 5 [0,1,1,2,-1] rfl rfl rfl ?_ ?_
   ·intro wr;go_simp;try first|rfl|exact⟨rfl,rfl⟩
   intro (z1:Nat);simp only[PT]
   repeat(refine dE (fun wr nr hJ=>by(have hcw:=HC.o wr (hE1.trans hJ.1);simp only[As] at hcw);clear hJ;exact CL) ?_;simp only[PT])
   refine Nu 10 z1 5 rfl rfl (by kernel_rfl) rfl (by omega) ?_ ?_
   ·intro wr;go_simp;try first|rfl|exact⟨rfl,rfl⟩
   intro (y2:Int);simp only[PT]
   repeat(refine dE (fun wr nr hJ=>by(have hcw:=HC.o wr (hE1.trans hJ.1);simp only[As] at hcw);clear hJ;exact CL) ?_;simp only[PT])
   refine Nt 4 [0,0,1,5] rfl rfl rfl ?_ ?_
   ·intro wr;go_simp;try first|rfl|exact⟨rfl,rfl⟩
   intro (z2:Nat);simp only[PT]
   repeat(refine dE (fun wr nr hJ=>by(have hcw:=HC.o wr (hE1.trans hJ.1);simp only[As] at hcw);clear hJ;exact CL) ?_;simp only[PT])
   refine Nu 16 z2 4 rfl rfl (by kernel_rfl) rfl (by omega) ?_ ?_
   ·intro wr;go_simp;try first|rfl|exact⟨rfl,rfl⟩
   intro (y3:Int);simp only[PT]
   repeat(refine dE (fun wr nr hJ=>by(have hcw:=HC.o wr (hE1.trans hJ.1);simp only[As] at hcw);clear hJ;exact CL) ?_;simp only[PT])
   refine Nt 5 [0,1,2,3,4] rfl rfl rfl ?_ ?_
   ·intro wr;go_simp;try first|rfl|exact⟨rfl,rfl⟩
   intro (z3:Nat);simp only[PT]
   repeat(refine dE (fun wr nr hJ=>by(have hcw:=HC.o wr (hE1.trans hJ.1);simp only[As] at hcw);clear hJ;exact CL) ?_;simp only[PT])
   refine Nu 22 z3 5 rfl rfl (by kernel_rfl) rfl (by omega) ?_ ?_
   ·intro wr;go_simp;try first|rfl|exact⟨rfl,rfl⟩
   intro (y4:Int);simp only[PT]
   repeat(refine dE (fun wr nr hJ=>by clear hJ;exact CL) ?_;simp only[PT])
   refine Aa (fun w3 hJ hF=>?_)
   clear hF;have E3:=hE1.trans hJ.1;go_wp2_with fail
   refine(Eh base bc g gc (n+Km d-100) (c+Jz d-1) cm ⟨3,0,y1,0,0,y2,0,y3,y4⟩ _ (HH.o.go E3 hJ.2 (by omega))).mono ?_
   rintro e w4 ⟨rfl,hU,v4,l4,hC⟩;have HH4:=hd hC;have hc4:=hC.cells w4 er;simp only[As] at hc4;clear hC;go_wp2_with fail
   refine(Ch base g (n+Km d-101) _ _ _ (HH4.o.stm.less (by omega)) (by omega) (by omega)).mono ?_
   rintro e w5 ⟨r5,rfl,⟨hr50,hr51⟩,hE5,hS5⟩;go_wp2_with fail
   obtain⟨d',hdd⟩:∃d',d=d'+1:=⟨d-1,by omega⟩;have hI:Qj d':=IH.o d' hdd;have hD5:Km d=5*Km d':=by rw[hdd];exact Adk d'
   have hA5:Jz d=5*Jz d':=by rw[hdd];exact Adl d'
   have hDg':=Abq d';have hAg':=Abr d';have hC5:Cdr w5 base bc g gc (n+400+(4-0)*Km d') (c+4+(4-0)*Jz d') cm:=(HH4.o.go hE5 hS5 (Nat.le_refl _)).less (by omega) (by omega);have hU5:Dx bc [g] w4 w5:=Dx.of_ext hE5 (by have:=HH4.o.blk.lt;have:=HH4.o.bb;omega) (fun x hx=>.inl hx);have hbs5:bc<=w5.heap.size:=by have:=HH4.o.blk.lt;have:=HH4.o.bb;have:=hE5.size;omega
   have HD5:=hd hD5;have HA5:=hd hA5;have HDD:=hd hdd;clear hD5 hA5 hdd hc4 hc1;go_loopw [159] (fun i wr=>∃k:Nat,i=.int .i64 k/\(k:Int)<=r5/\Dx bc [g] w5 wr/\Cdr wr base bc g gc (n+400+(4-k)*Km d') (c+4+(4-k)*Jz d') cm) (fun i _=>(r5-intOf i).toNat)
   case atStart=>exact⟨0,rfl,by omega,Dx.refl _ _ _,hC5⟩
   case round=>
    obtain⟨k,rfl,hk,hUk,hCk⟩:=hrel;have hd1:=HDD.o;by_cases hlt:(k:Int)<r5
    ·have e1:(4-k)*Km d'=(4-(k+1))*Km d'+Km d':=by rw[show 4-k=(4-(k+1))+1 by omega,Nat.succ_mul]
     have e2:(4-k)*Jz d'=(4-(k+1))*Jz d'+Jz d':=by rw[show 4-k=(4-(k+1))+1 by omega,Nat.succ_mul]
     rw[e1,e2] at hCk;have hCk':Cdr wr base bc g gc (n+400+(4-(k+1))*Km d'+Km d') (c+4+(4-(k+1))*Jz d'+Jz d') cm:=hCk.less (by omega) (by omega);have ed:((d:Int)-1)=(d':Int):=by omega
     have HED:=hd ed;clear e1 e2 ed hd1 hCk;go_wp2_with fail
     rw[HED.o];refine(hI base bc g gc (n+400+(4-(k+1))*Km d') (c+4+(4-(k+1))*Jz d') cm _ hCk').mono ?_
     rintro e w7 ⟨rfl,hU7,hC7⟩;go_wp2_with fail
     go_roundw
     case rel=>exact⟨k+1,by go_num,by omega,hUk.trans hU7,hC7⟩
     case measure=>simp[intOf];omega
    ·clear hd1;go_wp2_with fail
     refine(Eh base bc g gc (n+400) (c+1) cm ⟨4,0,0,0,0,0,0,0,0⟩ _ (hCk.less (by omega) (by omega))).mono ?_
     rintro e w7 ⟨rfl,hU7,hC7⟩;go_wp2_with fail
     refine bodyPost_ret (results_none rfl _ _ _) rfl ?_
     have hm:=Ib HH.o E3 (hU.trans (hU5.trans (hUk.trans hU7))) hC7 (Nat.le_refl _) (Nat.le_refl _);exact⟨rfl,hm.up,hm.cdr.less (by omega) (by omega)⟩
  ·go_meet
   exact Ib HH.o hE1 (Dx.refl _ _ _) (HH.o.go hE1 hS1 (Nat.le_refl _)) (by omega) (by omega)
 case rest=>
  clear hc1 hS1 hE1;obtain⟨hU1,v1,l1,h1⟩:=hcut;obtain⟨A1,cap1,rfl,hcap1,hA1⟩:=Rk h1.own;have HC1:=hd h1.cells;have hc1:=HC1.o wc er;simp only[As] at hc1;have hbs1:bc<=wc.heap.size:=by have:=h1.blk.lt;have:=h1.bb;omega
  have hroom1:=h1.room;have HH1:=hd h1;have HU1:=hd hU1;clear h1 hU1
  have hfin:∀wx,Ext [g] wc wx->Stm wx base g n->Abp base bc g gc n c cm w (.returned (.tuple #[])) wx:=fun wx hE hS=>
   ⟨rfl,HU1.o.trans (Dx.of_ext hE hbs1 (fun x hx=>.inl hx)),(HH1.o.go hE hS (by omega))⟩
  have HF:=hd hfin;clear hfin;by_cases hgt:l.length<l1.length
  ·obtain⟨g1,rfl,hg1,hg1s⟩:=hA1 (by omega);go_wp2_with fail
   refine(Hw base g (n+599) _ _ HH1.o.stm (by omega)).mono ?_
   rintro e w5 ⟨b5,rfl,hE5,hS5⟩;have hc5:=HC1.o w5 hE5;simp only[As] at hc5;cases b5
   ·go_wp2_with fail
    go_end0
    exact HF.o _ hE5 (hS5.less (by omega))
   ·have hgc5:gc<w5.heap.size:=by have:=hE5.size;have:=HH1.o.blk.lt;omega
    have hg15:g1<w5.heap.size:=by have:=hE5.size;omega
    have ho5:w5.ownsRow bc 76 9 (.slice (some g1) l1.length cap1) l1.length (codeCells l1):=An HH1.o.own hE5 (fun k hk=>by have:=Bf HH1.o.own k hk;have:=HH1.o.gb;simp;omega)
    have hcell:∀j u,(l1[l.length]).cells[j]? = some u->w5.cell? ⟨g1,l.length*9+j,none⟩=some u:=fun j u hu=>by
     have hj:j<9:=by have:=(ils hu).1;simpa[Ins.cells] using this
     rw[ho5.cellAt (l.length*9+j) (by omega)];exact Da l1 l.length _ (List.getElem?_eq_getElem hgt) j u hu
    have hcop:=hcell 0 _ rfl;simp only[Nat.add_zero] at hcop;have HO5:=hd ho5;clear ho5 hcell;go_wp2_with fail
    refine(Ny (some w5.heap.size) 6 [1,2,5,6,7,8] _ _ (RdI.new _ _ _) (by simp)).mono ?_
    rintro e w6 ⟨rfl,rfl⟩;generalize decide ((l1[l.length]).op∈[1,2,5,6,7,8])=b6;have hE6:Ext [g] wc (w5.alloc (.cells (Db [1,2,5,6,7,8]) 3)):=hE5.alloc _;have hS6:=hS5.alloc (.cells (Db [1,2,5,6,7,8]) 3);cases b6
    ·go_wp2_with fail
     go_end0
     exact HF.o _ hE6 (hS6.less (by omega))
    ·go_wp2_with fail
     refine Am 10 (JS base g (n+100) _) (Ext [g]) (Bw [(9,Dt)]) (by kernel_rfl) (by kernel_rfl) JS.less ?_ (JS.start (Stm.less hS6 (by omega))) ?_
     ·repeat(first|exact Ah.nil|refine Ah.cons Dt.stays ?_|refine Ah.cons Ik.stays ?_|refine Ah.cons Fr.stays ?_|refine Ah.cons Jt.stays ?_|refine Ah.cons Kx.stays ?_|refine Ah.cons Gs.stays ?_|refine Ah.cons Ju.stays ?_|refine Ah.cons Ef.stays ?_)
     simp only[TK]
     repeat(refine dE (fun wr nr hJ=>by(have hcw:=HC1.o wr (hE6.trans hJ.1);simp only[As] at hcw);clear hJ;exact CL) ?_;simp only[PT])
     refine Ca rfl rfl ?_ ?_
     ·apply Exists.intro
      apply Exists.intro
      refine⟨fun wr=>?_,fun wr nr hJ hE=>?_⟩
      ·go_simp
       first|exact⟨rfl,rfl⟩|rfl
      exact⟨_,_,(by omega),Ch base g _ _ _ _ hJ (by omega) (by omega)⟩
     intro (y1:Int);simp only[PT];refine Aa (fun w7 hJ hF=>?_)
     clear hF;have E7:=hE6.trans hJ.1;have h7:=HH1.o.draw E7 hJ.2;have hb7:=h7.own.cellAt (l.length*9+6) (by omega);have hf7:=h7.own.frozenAt (l.length*9+6);have hi7:(codeCells l1)[l.length*9+6]? = some (.int .i64 (l1[l.length]).p):=Da l1 l.length _ (List.getElem?_eq_getElem hgt) 6 _ rfl;rw[hi7] at hb7;have HH7:=hd h7;clear h7 hi7;go_wp2_with fail
     go_end0
     have hst:=(HH7.o.store l.length 6 y1 hgt (by omega)).less (Nat.le_refl _) (show c<=c+1 by omega);exact⟨rfl,HU1.o.trans ((Dx.of_ext E7 hbs1 (fun x hx=>.inl hx)).setCell (.inr hg1) _),(Ff.cdr hst).less (by omega) (Nat.le_refl _)⟩
  ·go_wp2_with fail
   go_end0
   exact HF.o _ er (HH1.o.stm.less (by omega))
theorem Abs:∀d,d<=1000->Qj d
 | 0,h=>Xl 0 h (fun d' e=>by omega)
 | d+1,h=>Xl (d+1) h (fun d' e=>by
                          have:d=d':=by omega
                          subst this;exact Abs d (by omega))
end Go.Proofs.YtkgmhggliifkjaaGreat
