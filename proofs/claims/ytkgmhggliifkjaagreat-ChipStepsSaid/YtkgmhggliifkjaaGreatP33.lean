import Derived.Test.YtkgmhggliifkjaaGreatP31
namespace Go.Proofs.YtkgmhggliifkjaaGreat
open Go.RowKit Go.Proofs.Tryz
set_option linter.all false
set_option maxHeartbeats 8000000
set_option maxRecDepth 4000
attribute [local irreducible] Ax
theorem Ld (b:Bool)(w:World):Calls prog 163 #[.bool b] w fun e w'=>e=.returned (.int .i64 (if b then 1 else 0))/\w=w':=by
 cases b
 all_goals
  go_enter func163,ntmps163
  go_wp2_with fail
  go_ret
  exact⟨rfl,rfl⟩
theorem Xy (n lo hi:Int)(w:World)(h:lo<=hi):Calls prog 162 #[n,lo,hi] w fun e w'=>e=.returned (.int .i64 (min (max n lo) hi))/\w=w':=by
 have H:=hd h;clear h;go_enter func162,ntmps162
 go_wp2_with fail
 go_ret
 exact⟨Ai (by have:=H.o;omega),rfl⟩
theorem Aq (a n:Int)(w:World)(hn:1<=n)(ha : -4611686018427387904<=a/\a<=4611686018427387904):Calls prog 164 #[a,n] w fun e w'=>e=.returned (.int .i64 (a / n))/\w=w':=by
 have HA:=hd ha
 have hb : -4611686018427387904<=a.tdiv n/\a.tdiv n<=4611686018427387904:=by
  have h2:(a.tdiv n).natAbs<=a.natAbs:=by rw[Int.natAbs_tdiv];exact Nat.div_le_self _ _
  omega
 have HB:=hd hb;clear ha hb;go_enter func164,ntmps164
 go_wp2_with fail
 ·go_ret
  have hlt:a.tmod n<0:=by assumption
  have he:=Mx hn hlt;exact⟨Ai (by have h1:=HB.o;rw[<-he];unfold wrap64;omega),rfl⟩
 ·go_ret
  have hge:0<=a.tmod n:=by assumption
  have he:=My hn hge;exact⟨Ai (by have h1:=HB.o;rw[<-he];unfold wrap64;omega),rfl⟩
def XIn (w:World)(g:Nat)(l:List Int):Prop:=g<w.heap.size/\∀j x,l[j]? = some x->w.cell? ⟨g,j,none⟩=some (.int .i64 x)
theorem XIn.nil {w w':World}{g:Nat}{l:List Int}(h:XIn w g l)(hE:Ext [] w w'):XIn w' g l:=⟨nl h.1 hE.size,fun j x hj=>hE.held (h.2 j x hj) (by simp)⟩
set_option maxRecDepth 100000
theorem Xz (la ca:Nat)(A:Option Addr)(lo hi nn n m a b c:Int)(g cap:Nat)(w:World)(ha:isW a)(hb:isW b)(hc:isW c)(h:XIn w g [a,b]) :
  Calls prog 145 #[.agg #[(4:Int),.slice A la ca,.string ⟨#[]⟩,.slice none 0 0,.string ⟨#[]⟩,.slice none 0 0,lo,hi,nn,(0:Int),.slice none 0 0,.slice none 0 0],.slice (some g) 2 cap] w fun e w'=>e=.returned (.int .i64 (opS 4 n m a b c))/\Ext [] w w':=by
 unfold isW at ha hb hc;obtain⟨ha0,ha1⟩:=ha;obtain⟨hb0,hb1⟩:=hb;obtain⟨hc0,hc1⟩:=hc;have HX:=hd h;have HE0:=hd ((Ext.refl [] w).alloc (.cells #[(4:Int),.slice A la ca,.string ⟨#[]⟩,.slice none 0 0,.string ⟨#[]⟩,.slice none 0 0,lo,hi,nn,(0:Int),.slice none 0 0,.slice none 0 0] 189));have HB0:=hd (Blk.new w 189 #[(4:Int),.slice A la ca,.string ⟨#[]⟩,.slice none 0 0,.string ⟨#[]⟩,.slice none 0 0,lo,hi,nn,(0:Int),.slice none 0 0,.slice none 0 0]);clear h;go_enter func145,ntmps145
 go_upto_region 3 with fail
 generalize w.alloc (.cells #[(4:Int),.slice A la ca,.string ⟨#[]⟩,.slice none 0 0,.string ⟨#[]⟩,.slice none 0 0,lo,hi,nn,(0:Int),.slice none 0 0,.slice none 0 0] 189)=w0 at *;generalize hwl:w.heap.size=bl at *;refine rgE 6 [] ?_
 simp only[TK]
 repeat(refine dE (fun wr nr hJ=>by(have qx:=(HB0.o.ext hJ (by simp)).cell;have qxl:=(HB0.o.ext hJ (by simp)).lt;have q0:=(HX.o.nil (HE0.o.trans hJ)).2 0 _ rfl;have q1:=(HX.o.nil (HE0.o.trans hJ)).2 1 _ rfl;have ql:=(HX.o.nil (HE0.o.trans hJ)).1);clear hJ;exact CL) ?_;simp only[PT])
 refine Aa (fun w1 hJ hF=>?_)
 have HE1:=hd hJ;clear hF hJ;go_wp2_with fail
 refine(Fj _ _).mono ?_
 rintro e w2 ⟨rfl,rfl⟩;go_wp2_with fail
 go_ret
 exact⟨rfl,HE0.o.trans HE1.o⟩
theorem Ya (la ca:Nat)(A:Option Addr)(lo hi nn n m a b c:Int)(g cap:Nat)(w:World)(ha:isW a)(hb:isW b)(hc:isW c)(h:XIn w g [a,b]) :
  Calls prog 145 #[.agg #[(5:Int),.slice A la ca,.string ⟨#[]⟩,.slice none 0 0,.string ⟨#[]⟩,.slice none 0 0,lo,hi,nn,(0:Int),.slice none 0 0,.slice none 0 0],.slice (some g) 2 cap] w fun e w'=>e=.returned (.int .i64 (opS 5 n m a b c))/\Ext [] w w':=by
 unfold isW at ha hb hc;obtain⟨ha0,ha1⟩:=ha;obtain⟨hb0,hb1⟩:=hb;obtain⟨hc0,hc1⟩:=hc;have HX:=hd h;have HE0:=hd ((Ext.refl [] w).alloc (.cells #[(5:Int),.slice A la ca,.string ⟨#[]⟩,.slice none 0 0,.string ⟨#[]⟩,.slice none 0 0,lo,hi,nn,(0:Int),.slice none 0 0,.slice none 0 0] 189));have HB0:=hd (Blk.new w 189 #[(5:Int),.slice A la ca,.string ⟨#[]⟩,.slice none 0 0,.string ⟨#[]⟩,.slice none 0 0,lo,hi,nn,(0:Int),.slice none 0 0,.slice none 0 0]);clear h;go_enter func145,ntmps145
 go_upto_region 5 with fail
 generalize w.alloc (.cells #[(5:Int),.slice A la ca,.string ⟨#[]⟩,.slice none 0 0,.string ⟨#[]⟩,.slice none 0 0,lo,hi,nn,(0:Int),.slice none 0 0,.slice none 0 0] 189)=w0 at *;generalize hwl:w.heap.size=bl at *;refine rgE 6 [] ?_
 simp only[TK]
 repeat(refine dE (fun wr nr hJ=>by(have qx:=(HB0.o.ext hJ (by simp)).cell;have qxl:=(HB0.o.ext hJ (by simp)).lt;have q0:=(HX.o.nil (HE0.o.trans hJ)).2 0 _ rfl;have q1:=(HX.o.nil (HE0.o.trans hJ)).2 1 _ rfl;have ql:=(HX.o.nil (HE0.o.trans hJ)).1);clear hJ;exact CL) ?_;simp only[PT])
 refine Aa (fun w1 hJ hF=>?_)
 have HE1:=hd hJ;clear hF hJ;go_wp2_with fail
 refine(Fj _ _).mono ?_
 rintro e w2 ⟨rfl,rfl⟩;go_wp2_with fail
 go_ret
 exact⟨rfl,HE0.o.trans HE1.o⟩
theorem Yb (la ca:Nat)(A:Option Addr)(lo hi nn n m a b c:Int)(g cap:Nat)(w:World)(ha:isW a)(hb:isW b)(hc:isW c)(h:XIn w g [a,b]) :
  Calls prog 145 #[.agg #[(6:Int),.slice A la ca,.string ⟨#[]⟩,.slice none 0 0,.string ⟨#[]⟩,.slice none 0 0,lo,hi,nn,(0:Int),.slice none 0 0,.slice none 0 0],.slice (some g) 2 cap] w fun e w'=>e=.returned (.int .i64 (opS 6 n m a b c))/\Ext [] w w':=by
 unfold isW at ha hb hc;obtain⟨ha0,ha1⟩:=ha;obtain⟨hb0,hb1⟩:=hb;obtain⟨hc0,hc1⟩:=hc;have HX:=hd h;have HE0:=hd ((Ext.refl [] w).alloc (.cells #[(6:Int),.slice A la ca,.string ⟨#[]⟩,.slice none 0 0,.string ⟨#[]⟩,.slice none 0 0,lo,hi,nn,(0:Int),.slice none 0 0,.slice none 0 0] 189));have HB0:=hd (Blk.new w 189 #[(6:Int),.slice A la ca,.string ⟨#[]⟩,.slice none 0 0,.string ⟨#[]⟩,.slice none 0 0,lo,hi,nn,(0:Int),.slice none 0 0,.slice none 0 0])
 have hab : -4611686018427387904<=a*b/\a*b<=4611686018427387904:=by
  have h1:=Int.natAbs_mul a b;have h2:a.natAbs<=2147483648:=by omega
  have h3:b.natAbs<=2147483648:=by omega
  have h4:=Nat.mul_le_mul h2 h3;rw[<-h1] at h4;omega
 obtain⟨hab0,hab1⟩:=hab;have hww:wrap64 (a*b)=a*b:=by generalize a*b=q at *;unfold wrap64;omega
 clear h;go_enter func145,ntmps145
 go_upto_region 7 with fail
 generalize w.alloc (.cells #[(6:Int),.slice A la ca,.string ⟨#[]⟩,.slice none 0 0,.string ⟨#[]⟩,.slice none 0 0,lo,hi,nn,(0:Int),.slice none 0 0,.slice none 0 0] 189)=w0 at *;generalize hwl:w.heap.size=bl at *;refine rgE 6 [] ?_
 simp only[TK]
 repeat(refine dE (fun wr nr hJ=>by(have qx:=(HB0.o.ext hJ (by simp)).cell;have qxl:=(HB0.o.ext hJ (by simp)).lt;have q0:=(HX.o.nil (HE0.o.trans hJ)).2 0 _ rfl;have q1:=(HX.o.nil (HE0.o.trans hJ)).2 1 _ rfl;have ql:=(HX.o.nil (HE0.o.trans hJ)).1);clear hJ;exact CL) ?_;simp only[PT])
 refine Aa (fun w1 hJ hF=>?_)
 have HE1:=hd hJ;clear hF hJ;go_wp2_with fail
 refine(Fj _ _).mono ?_
 rintro e w2 ⟨rfl,rfl⟩;go_wp2_with fail
 go_ret
 exact⟨rfl,HE0.o.trans HE1.o⟩
theorem Yc (la ca:Nat)(A:Option Addr)(lo hi nn n m a b c:Int)(g cap:Nat)(w:World)(ha:isW a)(hb:isW b)(hc:isW c)(h:XIn w g [a,b]) :
  Calls prog 145 #[.agg #[(7:Int),.slice A la ca,.string ⟨#[]⟩,.slice none 0 0,.string ⟨#[]⟩,.slice none 0 0,lo,hi,nn,(0:Int),.slice none 0 0,.slice none 0 0],.slice (some g) 2 cap] w fun e w'=>e=.returned (.int .i64 (opS 7 n m a b c))/\Ext [] w w':=by
 unfold isW at ha hb hc;obtain⟨ha0,ha1⟩:=ha;obtain⟨hb0,hb1⟩:=hb;obtain⟨hc0,hc1⟩:=hc;have HX:=hd h;have HE0:=hd ((Ext.refl [] w).alloc (.cells #[(7:Int),.slice A la ca,.string ⟨#[]⟩,.slice none 0 0,.string ⟨#[]⟩,.slice none 0 0,lo,hi,nn,(0:Int),.slice none 0 0,.slice none 0 0] 189));have HB0:=hd (Blk.new w 189 #[(7:Int),.slice A la ca,.string ⟨#[]⟩,.slice none 0 0,.string ⟨#[]⟩,.slice none 0 0,lo,hi,nn,(0:Int),.slice none 0 0,.slice none 0 0]);clear h;go_enter func145,ntmps145
 go_upto_region 9 with fail
 generalize w.alloc (.cells #[(7:Int),.slice A la ca,.string ⟨#[]⟩,.slice none 0 0,.string ⟨#[]⟩,.slice none 0 0,lo,hi,nn,(0:Int),.slice none 0 0,.slice none 0 0] 189)=w0 at *;generalize hwl:w.heap.size=bl at *;refine rgE 6 [] ?_
 simp only[TK]
 repeat(refine dE (fun wr nr hJ=>by(have qx:=(HB0.o.ext hJ (by simp)).cell;have qxl:=(HB0.o.ext hJ (by simp)).lt;have q0:=(HX.o.nil (HE0.o.trans hJ)).2 0 _ rfl;have q1:=(HX.o.nil (HE0.o.trans hJ)).2 1 _ rfl;have ql:=(HX.o.nil (HE0.o.trans hJ)).1);clear hJ;exact CL) ?_;simp only[PT])
 refine Aa (fun w1 hJ hF=>?_)
 have HE1:=hd hJ;clear hF hJ;go_wp2_with fail
 go_ret
 exact⟨rfl,HE0.o.trans HE1.o⟩
theorem Yd (la ca:Nat)(A:Option Addr)(lo hi nn n m a b c:Int)(g cap:Nat)(w:World)(ha:isW a)(hb:isW b)(hc:isW c)(h:XIn w g [a,b]) :
  Calls prog 145 #[.agg #[(8:Int),.slice A la ca,.string ⟨#[]⟩,.slice none 0 0,.string ⟨#[]⟩,.slice none 0 0,lo,hi,nn,(0:Int),.slice none 0 0,.slice none 0 0],.slice (some g) 2 cap] w fun e w'=>e=.returned (.int .i64 (opS 8 n m a b c))/\Ext [] w w':=by
 unfold isW at ha hb hc;obtain⟨ha0,ha1⟩:=ha;obtain⟨hb0,hb1⟩:=hb;obtain⟨hc0,hc1⟩:=hc;have HX:=hd h;have HE0:=hd ((Ext.refl [] w).alloc (.cells #[(8:Int),.slice A la ca,.string ⟨#[]⟩,.slice none 0 0,.string ⟨#[]⟩,.slice none 0 0,lo,hi,nn,(0:Int),.slice none 0 0,.slice none 0 0] 189));have HB0:=hd (Blk.new w 189 #[(8:Int),.slice A la ca,.string ⟨#[]⟩,.slice none 0 0,.string ⟨#[]⟩,.slice none 0 0,lo,hi,nn,(0:Int),.slice none 0 0,.slice none 0 0]);clear h;go_enter func145,ntmps145
 go_upto_region 11 with fail
 generalize w.alloc (.cells #[(8:Int),.slice A la ca,.string ⟨#[]⟩,.slice none 0 0,.string ⟨#[]⟩,.slice none 0 0,lo,hi,nn,(0:Int),.slice none 0 0,.slice none 0 0] 189)=w0 at *;generalize hwl:w.heap.size=bl at *;refine rgE 6 [] ?_
 simp only[TK]
 repeat(refine dE (fun wr nr hJ=>by(have qx:=(HB0.o.ext hJ (by simp)).cell;have qxl:=(HB0.o.ext hJ (by simp)).lt;have q0:=(HX.o.nil (HE0.o.trans hJ)).2 0 _ rfl;have q1:=(HX.o.nil (HE0.o.trans hJ)).2 1 _ rfl;have ql:=(HX.o.nil (HE0.o.trans hJ)).1);clear hJ;exact CL) ?_;simp only[PT])
 refine Aa (fun w1 hJ hF=>?_)
 have HE1:=hd hJ;clear hF hJ;go_wp2_with fail
 go_ret
 exact⟨rfl,HE0.o.trans HE1.o⟩
theorem Ye (la ca:Nat)(A:Option Addr)(lo hi nn n m a b c:Int)(g cap:Nat)(w:World)(ha:isW a)(hb:isW b)(hc:isW c)(h:XIn w g [a,b]) :
  Calls prog 145 #[.agg #[(9:Int),.slice A la ca,.string ⟨#[]⟩,.slice none 0 0,.string ⟨#[]⟩,.slice none 0 0,lo,hi,nn,(0:Int),.slice none 0 0,.slice none 0 0],.slice (some g) 2 cap] w fun e w'=>e=.returned (.int .i64 (opS 9 n m a b c))/\Ext [] w w':=by
 unfold isW at ha hb hc;obtain⟨ha0,ha1⟩:=ha;obtain⟨hb0,hb1⟩:=hb;obtain⟨hc0,hc1⟩:=hc;have HX:=hd h;have HE0:=hd ((Ext.refl [] w).alloc (.cells #[(9:Int),.slice A la ca,.string ⟨#[]⟩,.slice none 0 0,.string ⟨#[]⟩,.slice none 0 0,lo,hi,nn,(0:Int),.slice none 0 0,.slice none 0 0] 189));have HB0:=hd (Blk.new w 189 #[(9:Int),.slice A la ca,.string ⟨#[]⟩,.slice none 0 0,.string ⟨#[]⟩,.slice none 0 0,lo,hi,nn,(0:Int),.slice none 0 0,.slice none 0 0]);clear h;by_cases hz:a<b
 ·have hz2:decide (a<b)=true:=by simpa using hz
  have HZ:=hd hz;clear hz;go_enter func145,ntmps145
  go_upto_region 13 with fail
  generalize w.alloc (.cells #[(9:Int),.slice A la ca,.string ⟨#[]⟩,.slice none 0 0,.string ⟨#[]⟩,.slice none 0 0,lo,hi,nn,(0:Int),.slice none 0 0,.slice none 0 0] 189)=w0 at *;generalize hwl:w.heap.size=bl at *;refine rgE 6 [] ?_
  simp only[TK]
  repeat(refine dE (fun wr nr hJ=>by(have qx:=(HB0.o.ext hJ (by simp)).cell;have qxl:=(HB0.o.ext hJ (by simp)).lt;have q0:=(HX.o.nil (HE0.o.trans hJ)).2 0 _ rfl;have q1:=(HX.o.nil (HE0.o.trans hJ)).2 1 _ rfl;have ql:=(HX.o.nil (HE0.o.trans hJ)).1);clear hJ;exact CL) ?_;simp only[PT])
  refine Aa (fun w1 hJ hF=>?_)
  have HE1:=hd hJ;clear hF hJ;go_wp2_with fail
  refine(Ld _ _).mono ?_
  rintro e w2 ⟨rfl,rfl⟩;go_wp2_with fail
  go_ret
  exact⟨Ai (by simp[opS,HZ.o]),HE0.o.trans HE1.o⟩
 ·have hz2:decide (a<b)=false:=by simpa using hz
  have HZ:=hd hz;clear hz;go_enter func145,ntmps145
  go_upto_region 13 with fail
  generalize w.alloc (.cells #[(9:Int),.slice A la ca,.string ⟨#[]⟩,.slice none 0 0,.string ⟨#[]⟩,.slice none 0 0,lo,hi,nn,(0:Int),.slice none 0 0,.slice none 0 0] 189)=w0 at *;generalize hwl:w.heap.size=bl at *;refine rgE 6 [] ?_
  simp only[TK]
  repeat(refine dE (fun wr nr hJ=>by(have qx:=(HB0.o.ext hJ (by simp)).cell;have qxl:=(HB0.o.ext hJ (by simp)).lt;have q0:=(HX.o.nil (HE0.o.trans hJ)).2 0 _ rfl;have q1:=(HX.o.nil (HE0.o.trans hJ)).2 1 _ rfl;have ql:=(HX.o.nil (HE0.o.trans hJ)).1);clear hJ;exact CL) ?_;simp only[PT])
  refine Aa (fun w1 hJ hF=>?_)
  have HE1:=hd hJ;clear hF hJ;go_wp2_with fail
  refine(Ld _ _).mono ?_
  rintro e w2 ⟨rfl,rfl⟩;go_wp2_with fail
  go_ret
  exact⟨Ai (by simp[opS,HZ.o]),HE0.o.trans HE1.o⟩
theorem Vi (la ca:Nat)(A:Option Addr)(lo hi nn n m a b c:Int)(g cap:Nat)(w:World)(ha:isW a)(hb:isW b)(hc:isW c)(h:XIn w g [a,b]) :
  Calls prog 145 #[.agg #[(10:Int),.slice A la ca,.string ⟨#[]⟩,.slice none 0 0,.string ⟨#[]⟩,.slice none 0 0,lo,hi,nn,(0:Int),.slice none 0 0,.slice none 0 0],.slice (some g) 2 cap] w fun e w'=>e=.returned (.int .i64 (opS 10 n m a b c))/\Ext [] w w':=by
 unfold isW at ha hb hc;obtain⟨ha0,ha1⟩:=ha;obtain⟨hb0,hb1⟩:=hb;obtain⟨hc0,hc1⟩:=hc;have HX:=hd h;have HE0:=hd ((Ext.refl [] w).alloc (.cells #[(10:Int),.slice A la ca,.string ⟨#[]⟩,.slice none 0 0,.string ⟨#[]⟩,.slice none 0 0,lo,hi,nn,(0:Int),.slice none 0 0,.slice none 0 0] 189));have HB0:=hd (Blk.new w 189 #[(10:Int),.slice A la ca,.string ⟨#[]⟩,.slice none 0 0,.string ⟨#[]⟩,.slice none 0 0,lo,hi,nn,(0:Int),.slice none 0 0,.slice none 0 0]);clear h;by_cases hz:a=b
 ·have hz2:(a==b)=true:=by simpa using hz
  have HZ:=hd hz;clear hz;go_enter func145,ntmps145
  go_upto_region 15 with fail
  generalize w.alloc (.cells #[(10:Int),.slice A la ca,.string ⟨#[]⟩,.slice none 0 0,.string ⟨#[]⟩,.slice none 0 0,lo,hi,nn,(0:Int),.slice none 0 0,.slice none 0 0] 189)=w0 at *;generalize hwl:w.heap.size=bl at *;refine rgE 6 [] ?_
  simp only[TK]
  repeat(refine dE (fun wr nr hJ=>by(have qx:=(HB0.o.ext hJ (by simp)).cell;have qxl:=(HB0.o.ext hJ (by simp)).lt;have q0:=(HX.o.nil (HE0.o.trans hJ)).2 0 _ rfl;have q1:=(HX.o.nil (HE0.o.trans hJ)).2 1 _ rfl;have ql:=(HX.o.nil (HE0.o.trans hJ)).1);clear hJ;exact CL) ?_;simp only[PT])
  refine Aa (fun w1 hJ hF=>?_)
  have HE1:=hd hJ;clear hF hJ;go_wp2_with fail
  refine(Ld _ _).mono ?_
  rintro e w2 ⟨rfl,rfl⟩;go_wp2_with fail
  go_ret
  exact⟨Ai (by simp[opS,HZ.o]),HE0.o.trans HE1.o⟩
 ·have hz2:(a==b)=false:=by simpa using hz
  have HZ:=hd hz;clear hz;go_enter func145,ntmps145
  go_upto_region 15 with fail
  generalize w.alloc (.cells #[(10:Int),.slice A la ca,.string ⟨#[]⟩,.slice none 0 0,.string ⟨#[]⟩,.slice none 0 0,lo,hi,nn,(0:Int),.slice none 0 0,.slice none 0 0] 189)=w0 at *;generalize hwl:w.heap.size=bl at *;refine rgE 6 [] ?_
  simp only[TK]
  repeat(refine dE (fun wr nr hJ=>by(have qx:=(HB0.o.ext hJ (by simp)).cell;have qxl:=(HB0.o.ext hJ (by simp)).lt;have q0:=(HX.o.nil (HE0.o.trans hJ)).2 0 _ rfl;have q1:=(HX.o.nil (HE0.o.trans hJ)).2 1 _ rfl;have ql:=(HX.o.nil (HE0.o.trans hJ)).1);clear hJ;exact CL) ?_;simp only[PT])
  refine Aa (fun w1 hJ hF=>?_)
  have HE1:=hd hJ;clear hF hJ;go_wp2_with fail
  refine(Ld _ _).mono ?_
  rintro e w2 ⟨rfl,rfl⟩;go_wp2_with fail
  go_ret
  exact⟨Ai (by simp[opS,HZ.o]),HE0.o.trans HE1.o⟩
theorem Vj (la ca:Nat)(A:Option Addr)(lo hi nn n m a b c:Int)(g cap:Nat)(w:World)(ha:isW a)(hb:isW b)(hc:isW c)(h:XIn w g [a]) :
  Calls prog 145 #[.agg #[(11:Int),.slice A la ca,.string ⟨#[]⟩,.slice none 0 0,.string ⟨#[]⟩,.slice none 0 0,lo,hi,nn,(0:Int),.slice none 0 0,.slice none 0 0],.slice (some g) 1 cap] w fun e w'=>e=.returned (.int .i64 (opS 11 n m a b c))/\Ext [] w w':=by
 unfold isW at ha hb hc;obtain⟨ha0,ha1⟩:=ha;obtain⟨hb0,hb1⟩:=hb;obtain⟨hc0,hc1⟩:=hc;have HX:=hd h;have HE0:=hd ((Ext.refl [] w).alloc (.cells #[(11:Int),.slice A la ca,.string ⟨#[]⟩,.slice none 0 0,.string ⟨#[]⟩,.slice none 0 0,lo,hi,nn,(0:Int),.slice none 0 0,.slice none 0 0] 189));have HB0:=hd (Blk.new w 189 #[(11:Int),.slice A la ca,.string ⟨#[]⟩,.slice none 0 0,.string ⟨#[]⟩,.slice none 0 0,lo,hi,nn,(0:Int),.slice none 0 0,.slice none 0 0]);clear h;go_enter func145,ntmps145
 go_upto_region 17 with fail
 generalize w.alloc (.cells #[(11:Int),.slice A la ca,.string ⟨#[]⟩,.slice none 0 0,.string ⟨#[]⟩,.slice none 0 0,lo,hi,nn,(0:Int),.slice none 0 0,.slice none 0 0] 189)=w0 at *;generalize hwl:w.heap.size=bl at *;have q0:=(HX.o.nil HE0.o).2 0 _ rfl;have ql:=(HX.o.nil HE0.o).1;go_wp2_with fail
 refine(Fj _ _).mono ?_
 rintro e w2 ⟨rfl,rfl⟩;go_wp2_with fail
 go_ret
 exact⟨rfl,HE0.o⟩
theorem Vk (la ca:Nat)(A:Option Addr)(lo hi nn n m a b c:Int)(g cap:Nat)(w:World)(ha:isW a)(hb:isW b)(hc:isW c)(h12:lo=n/\hi=m/\n<=m)(h:XIn w g [a]) :
  Calls prog 145 #[.agg #[(12:Int),.slice A la ca,.string ⟨#[]⟩,.slice none 0 0,.string ⟨#[]⟩,.slice none 0 0,lo,hi,nn,(0:Int),.slice none 0 0,.slice none 0 0],.slice (some g) 1 cap] w fun e w'=>e=.returned (.int .i64 (opS 12 n m a b c))/\Ext [] w w':=by
 unfold isW at ha hb hc;obtain⟨ha0,ha1⟩:=ha;obtain⟨hb0,hb1⟩:=hb;obtain⟨hc0,hc1⟩:=hc;have HX:=hd h;have HE0:=hd ((Ext.refl [] w).alloc (.cells #[(12:Int),.slice A la ca,.string ⟨#[]⟩,.slice none 0 0,.string ⟨#[]⟩,.slice none 0 0,lo,hi,nn,(0:Int),.slice none 0 0,.slice none 0 0] 189));have HB0:=hd (Blk.new w 189 #[(12:Int),.slice A la ca,.string ⟨#[]⟩,.slice none 0 0,.string ⟨#[]⟩,.slice none 0 0,lo,hi,nn,(0:Int),.slice none 0 0,.slice none 0 0]);obtain⟨rfl,rfl,hnm⟩:=h12;clear h;go_enter func145,ntmps145
 go_upto_region 19 with fail
 generalize w.alloc (.cells #[(12:Int),.slice A la ca,.string ⟨#[]⟩,.slice none 0 0,.string ⟨#[]⟩,.slice none 0 0,lo,hi,nn,(0:Int),.slice none 0 0,.slice none 0 0] 189)=w0 at *;generalize hwl:w.heap.size=bl at *;refine rgE 7 [] ?_
 simp only[TK]
 repeat(refine dE (fun wr nr hJ=>by(have qx:=(HB0.o.ext hJ (by simp)).cell;have qxl:=(HB0.o.ext hJ (by simp)).lt;have q0:=(HX.o.nil (HE0.o.trans hJ)).2 0 _ rfl;have ql:=(HX.o.nil (HE0.o.trans hJ)).1);clear hJ;exact CL) ?_;simp only[PT])
 refine Aa (fun w1 hJ hF=>?_)
 have HE1:=hd hJ;clear hF hJ;go_wp2_with fail
 refine(Xy _ _ _ _ hnm).mono ?_
 rintro e w2 ⟨rfl,rfl⟩;go_wp2_with fail
 go_ret
 exact⟨rfl,HE0.o.trans HE1.o⟩
theorem Vl (la ca:Nat)(A:Option Addr)(lo hi nn n m a b c:Int)(g cap:Nat)(w:World)(ha:isW a)(hb:isW b)(hc:isW c)(h14:nn=n/\1<=n/\n<=2147483647)(h:XIn w g [a]) :
  Calls prog 145 #[.agg #[(14:Int),.slice A la ca,.string ⟨#[]⟩,.slice none 0 0,.string ⟨#[]⟩,.slice none 0 0,lo,hi,nn,(0:Int),.slice none 0 0,.slice none 0 0],.slice (some g) 1 cap] w fun e w'=>e=.returned (.int .i64 (opS 14 n m a b c))/\Ext [] w w':=by
 unfold isW at ha hb hc;obtain⟨ha0,ha1⟩:=ha;obtain⟨hb0,hb1⟩:=hb;obtain⟨hc0,hc1⟩:=hc;have HX:=hd h;have HE0:=hd ((Ext.refl [] w).alloc (.cells #[(14:Int),.slice A la ca,.string ⟨#[]⟩,.slice none 0 0,.string ⟨#[]⟩,.slice none 0 0,lo,hi,nn,(0:Int),.slice none 0 0,.slice none 0 0] 189));have HB0:=hd (Blk.new w 189 #[(14:Int),.slice A la ca,.string ⟨#[]⟩,.slice none 0 0,.string ⟨#[]⟩,.slice none 0 0,lo,hi,nn,(0:Int),.slice none 0 0,.slice none 0 0]);obtain⟨rfl,hn0,hn1⟩:=h14;clear h;go_enter func145,ntmps145
 go_upto_region 23 with fail
 generalize w.alloc (.cells #[(14:Int),.slice A la ca,.string ⟨#[]⟩,.slice none 0 0,.string ⟨#[]⟩,.slice none 0 0,lo,hi,nn,(0:Int),.slice none 0 0,.slice none 0 0] 189)=w0 at *;generalize hwl:w.heap.size=bl at *;refine rgE 5 [] ?_
 simp only[TK]
 repeat(refine dE (fun wr nr hJ=>by(have qx:=(HB0.o.ext hJ (by simp)).cell;have qxl:=(HB0.o.ext hJ (by simp)).lt;have q0:=(HX.o.nil (HE0.o.trans hJ)).2 0 _ rfl;have ql:=(HX.o.nil (HE0.o.trans hJ)).1);clear hJ;exact CL) ?_;simp only[PT])
 refine Aa (fun w1 hJ hF=>?_)
 have HE1:=hd hJ;clear hF hJ;go_wp2_with fail
 refine(Aq _ _ _ hn0 (by omega)).mono ?_
 rintro e w2 ⟨rfl,rfl⟩;go_wp2_with fail
 go_ret
 exact⟨rfl,HE0.o.trans HE1.o⟩
theorem Vm (la ca:Nat)(A:Option Addr)(lo hi nn n m a b c:Int)(g cap:Nat)(w:World)(ha:isW a)(hb:isW b)(hc:isW c)(h:XIn w g [a,b,c]) :
  Calls prog 145 #[.agg #[(15:Int),.slice A la ca,.string ⟨#[]⟩,.slice none 0 0,.string ⟨#[]⟩,.slice none 0 0,lo,hi,nn,(0:Int),.slice none 0 0,.slice none 0 0],.slice (some g) 3 cap] w fun e w'=>e=.returned (.int .i64 (opS 15 n m a b c))/\Ext [] w w':=by
 unfold isW at ha hb hc;obtain⟨ha0,ha1⟩:=ha;obtain⟨hb0,hb1⟩:=hb;obtain⟨hc0,hc1⟩:=hc;have HX:=hd h;have HE0:=hd ((Ext.refl [] w).alloc (.cells #[(15:Int),.slice A la ca,.string ⟨#[]⟩,.slice none 0 0,.string ⟨#[]⟩,.slice none 0 0,lo,hi,nn,(0:Int),.slice none 0 0,.slice none 0 0] 189));have HB0:=hd (Blk.new w 189 #[(15:Int),.slice A la ca,.string ⟨#[]⟩,.slice none 0 0,.string ⟨#[]⟩,.slice none 0 0,lo,hi,nn,(0:Int),.slice none 0 0,.slice none 0 0]);clear h;by_cases hz:a=0
 ·subst hz;go_enter func145,ntmps145
  go_upto_region 27 with fail
  generalize w.alloc (.cells #[(15:Int),.slice A la ca,.string ⟨#[]⟩,.slice none 0 0,.string ⟨#[]⟩,.slice none 0 0,lo,hi,nn,(0:Int),.slice none 0 0,.slice none 0 0] 189)=w0 at *;generalize hwl:w.heap.size=bl at *;have q0:=(HX.o.nil HE0.o).2 0 _ rfl;have q1:=(HX.o.nil HE0.o).2 1 _ rfl;have q2:=(HX.o.nil HE0.o).2 2 _ rfl;have ql:=(HX.o.nil HE0.o).1;go_wp2_with fail
  go_ret
  exact⟨Ai (by simp[opS]),HE0.o⟩
 ·have hz2:(a==0)=false:=by simpa using hz
  have HZ:=hd hz;clear hz;go_enter func145,ntmps145
  go_upto_region 27 with fail
  generalize w.alloc (.cells #[(15:Int),.slice A la ca,.string ⟨#[]⟩,.slice none 0 0,.string ⟨#[]⟩,.slice none 0 0,lo,hi,nn,(0:Int),.slice none 0 0,.slice none 0 0] 189)=w0 at *;generalize hwl:w.heap.size=bl at *;have q0:=(HX.o.nil HE0.o).2 0 _ rfl;have q1:=(HX.o.nil HE0.o).2 1 _ rfl;have q2:=(HX.o.nil HE0.o).2 2 _ rfl;have ql:=(HX.o.nil HE0.o).1;go_wp2_with fail
  go_ret
  exact⟨Ai (by simp[opS,HZ.o]),HE0.o⟩
end Go.Proofs.YtkgmhggliifkjaaGreat
