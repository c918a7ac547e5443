import Derived.Test.YtkgmhggliifkjaaGreatP33
namespace Go.Proofs.YtkgmhggliifkjaaGreat
open Go.RowKit Go.Proofs.Tryz
set_option linter.all false
set_option maxHeartbeats 8000000
set_option maxRecDepth 100000
attribute [local irreducible] Ax
theorem Vn (la ca:Nat)(A:Option Addr)(lo hi nn n m a b c:Int)(g cap:Nat)(w:World)(ha:isW a)(hb:isW b)(hc:isW c)(h13:nn=n/\1<=n/\n<=31)(h:XIn w g [a]) :
  Calls prog 145 #[.agg #[(13:Int),.slice A la ca,.string ⟨#[]⟩,.slice none 0 0,.string ⟨#[]⟩,.slice none 0 0,lo,hi,nn,(0:Int),.slice none 0 0,.slice none 0 0],.slice (some g) 1 cap] w fun e w'=>e=.returned (.int .i64 (opS 13 n m a b c))/\Ext [] w w':=by
 unfold isW at ha hb hc;obtain⟨ha0,ha1⟩:=ha;obtain⟨hb0,hb1⟩:=hb;obtain⟨hc0,hc1⟩:=hc;have HX:=hd h;have HE0:=hd ((Ext.refl [] w).alloc (.cells #[(13:Int),.slice A la ca,.string ⟨#[]⟩,.slice none 0 0,.string ⟨#[]⟩,.slice none 0 0,lo,hi,nn,(0:Int),.slice none 0 0,.slice none 0 0] 189));have HB0:=hd (Blk.new w 189 #[(13:Int),.slice A la ca,.string ⟨#[]⟩,.slice none 0 0,.string ⟨#[]⟩,.slice none 0 0,lo,hi,nn,(0:Int),.slice none 0 0,.slice none 0 0]);obtain⟨rfl,hn0,hn1⟩:=h13;clear h;have hn2:nn=1\/nn=2\/nn=3\/nn=4\/nn=5\/nn=6\/nn=7\/nn=8\/nn=9\/nn=10\/nn=11\/nn=12\/nn=13\/nn=14\/nn=15\/nn=16\/nn=17\/nn=18\/nn=19\/nn=20\/nn=21\/nn=22\/nn=23\/nn=24\/nn=25\/nn=26\/nn=27\/nn=28\/nn=29\/nn=30\/nn=31:=by omega
 clear hn0 hn1;rcases hn2 with rfl|rfl|rfl|rfl|rfl|rfl|rfl|rfl|rfl|rfl|rfl|rfl|rfl|rfl|rfl|rfl|rfl|rfl|rfl|rfl|rfl|rfl|rfl|rfl|rfl|rfl|rfl|rfl|rfl|rfl|rfl
 ·go_enter func145,ntmps145
  go_upto_region 21 with fail
  generalize w.alloc (.cells #[(13:Int),.slice A la ca,.string ⟨#[]⟩,.slice none 0 0,.string ⟨#[]⟩,.slice none 0 0,lo,hi,(1:Int),(0:Int),.slice none 0 0,.slice none 0 0] 189)=w0 at *;generalize hwl:w.heap.size=bl at *;refine rgE 11 [] ?_
  simp only[TK]
  repeat(refine dE (fun wr nr hJ=>by(have qx:=(HB0.o.ext hJ (by simp)).cell;have qxl:=(HB0.o.ext hJ (by simp)).lt;have q0:=(HX.o.nil (HE0.o.trans hJ)).2 0 _ rfl;have ql:=(HX.o.nil (HE0.o.trans hJ)).1);clear hJ;exact CL) ?_;simp only[PT])
  refine Aa (fun w1 hJ hF=>?_)
  have HE1:=hd hJ;clear hF hJ;go_wp2_with fail
  refine(Aq _ _ _ (by decide) (by omega)).mono ?_
  rintro e w2 ⟨rfl,rfl⟩;go_wp2_with fail
  go_ret
  exact⟨Ai (by simp[opS]),HE0.o.trans HE1.o⟩
 ·go_enter func145,ntmps145
  go_upto_region 21 with fail
  generalize w.alloc (.cells #[(13:Int),.slice A la ca,.string ⟨#[]⟩,.slice none 0 0,.string ⟨#[]⟩,.slice none 0 0,lo,hi,(2:Int),(0:Int),.slice none 0 0,.slice none 0 0] 189)=w0 at *;generalize hwl:w.heap.size=bl at *;refine rgE 11 [] ?_
  simp only[TK]
  repeat(refine dE (fun wr nr hJ=>by(have qx:=(HB0.o.ext hJ (by simp)).cell;have qxl:=(HB0.o.ext hJ (by simp)).lt;have q0:=(HX.o.nil (HE0.o.trans hJ)).2 0 _ rfl;have ql:=(HX.o.nil (HE0.o.trans hJ)).1);clear hJ;exact CL) ?_;simp only[PT])
  refine Aa (fun w1 hJ hF=>?_)
  have HE1:=hd hJ;clear hF hJ;go_wp2_with fail
  refine(Aq _ _ _ (by decide) (by omega)).mono ?_
  rintro e w2 ⟨rfl,rfl⟩;go_wp2_with fail
  go_ret
  exact⟨Ai (by simp[opS]),HE0.o.trans HE1.o⟩
 ·go_enter func145,ntmps145
  go_upto_region 21 with fail
  generalize w.alloc (.cells #[(13:Int),.slice A la ca,.string ⟨#[]⟩,.slice none 0 0,.string ⟨#[]⟩,.slice none 0 0,lo,hi,(3:Int),(0:Int),.slice none 0 0,.slice none 0 0] 189)=w0 at *;generalize hwl:w.heap.size=bl at *;refine rgE 11 [] ?_
  simp only[TK]
  repeat(refine dE (fun wr nr hJ=>by(have qx:=(HB0.o.ext hJ (by simp)).cell;have qxl:=(HB0.o.ext hJ (by simp)).lt;have q0:=(HX.o.nil (HE0.o.trans hJ)).2 0 _ rfl;have ql:=(HX.o.nil (HE0.o.trans hJ)).1);clear hJ;exact CL) ?_;simp only[PT])
  refine Aa (fun w1 hJ hF=>?_)
  have HE1:=hd hJ;clear hF hJ;go_wp2_with fail
  refine(Aq _ _ _ (by decide) (by omega)).mono ?_
  rintro e w2 ⟨rfl,rfl⟩;go_wp2_with fail
  go_ret
  exact⟨Ai (by simp[opS]),HE0.o.trans HE1.o⟩
 ·go_enter func145,ntmps145
  go_upto_region 21 with fail
  generalize w.alloc (.cells #[(13:Int),.slice A la ca,.string ⟨#[]⟩,.slice none 0 0,.string ⟨#[]⟩,.slice none 0 0,lo,hi,(4:Int),(0:Int),.slice none 0 0,.slice none 0 0] 189)=w0 at *;generalize hwl:w.heap.size=bl at *;refine rgE 11 [] ?_
  simp only[TK]
  repeat(refine dE (fun wr nr hJ=>by(have qx:=(HB0.o.ext hJ (by simp)).cell;have qxl:=(HB0.o.ext hJ (by simp)).lt;have q0:=(HX.o.nil (HE0.o.trans hJ)).2 0 _ rfl;have ql:=(HX.o.nil (HE0.o.trans hJ)).1);clear hJ;exact CL) ?_;simp only[PT])
  refine Aa (fun w1 hJ hF=>?_)
  have HE1:=hd hJ;clear hF hJ;go_wp2_with fail
  refine(Aq _ _ _ (by decide) (by omega)).mono ?_
  rintro e w2 ⟨rfl,rfl⟩;go_wp2_with fail
  go_ret
  exact⟨Ai (by simp[opS]),HE0.o.trans HE1.o⟩
 ·go_enter func145,ntmps145
  go_upto_region 21 with fail
  generalize w.alloc (.cells #[(13:Int),.slice A la ca,.string ⟨#[]⟩,.slice none 0 0,.string ⟨#[]⟩,.slice none 0 0,lo,hi,(5:Int),(0:Int),.slice none 0 0,.slice none 0 0] 189)=w0 at *;generalize hwl:w.heap.size=bl at *;refine rgE 11 [] ?_
  simp only[TK]
  repeat(refine dE (fun wr nr hJ=>by(have qx:=(HB0.o.ext hJ (by simp)).cell;have qxl:=(HB0.o.ext hJ (by simp)).lt;have q0:=(HX.o.nil (HE0.o.trans hJ)).2 0 _ rfl;have ql:=(HX.o.nil (HE0.o.trans hJ)).1);clear hJ;exact CL) ?_;simp only[PT])
  refine Aa (fun w1 hJ hF=>?_)
  have HE1:=hd hJ;clear hF hJ;go_wp2_with fail
  refine(Aq _ _ _ (by decide) (by omega)).mono ?_
  rintro e w2 ⟨rfl,rfl⟩;go_wp2_with fail
  go_ret
  exact⟨Ai (by simp[opS]),HE0.o.trans HE1.o⟩
 ·go_enter func145,ntmps145
  go_upto_region 21 with fail
  generalize w.alloc (.cells #[(13:Int),.slice A la ca,.string ⟨#[]⟩,.slice none 0 0,.string ⟨#[]⟩,.slice none 0 0,lo,hi,(6:Int),(0:Int),.slice none 0 0,.slice none 0 0] 189)=w0 at *;generalize hwl:w.heap.size=bl at *;refine rgE 11 [] ?_
  simp only[TK]
  repeat(refine dE (fun wr nr hJ=>by(have qx:=(HB0.o.ext hJ (by simp)).cell;have qxl:=(HB0.o.ext hJ (by simp)).lt;have q0:=(HX.o.nil (HE0.o.trans hJ)).2 0 _ rfl;have ql:=(HX.o.nil (HE0.o.trans hJ)).1);clear hJ;exact CL) ?_;simp only[PT])
  refine Aa (fun w1 hJ hF=>?_)
  have HE1:=hd hJ;clear hF hJ;go_wp2_with fail
  refine(Aq _ _ _ (by decide) (by omega)).mono ?_
  rintro e w2 ⟨rfl,rfl⟩;go_wp2_with fail
  go_ret
  exact⟨Ai (by simp[opS]),HE0.o.trans HE1.o⟩
 ·go_enter func145,ntmps145
  go_upto_region 21 with fail
  generalize w.alloc (.cells #[(13:Int),.slice A la ca,.string ⟨#[]⟩,.slice none 0 0,.string ⟨#[]⟩,.slice none 0 0,lo,hi,(7:Int),(0:Int),.slice none 0 0,.slice none 0 0] 189)=w0 at *;generalize hwl:w.heap.size=bl at *;refine rgE 11 [] ?_
  simp only[TK]
  repeat(refine dE (fun wr nr hJ=>by(have qx:=(HB0.o.ext hJ (by simp)).cell;have qxl:=(HB0.o.ext hJ (by simp)).lt;have q0:=(HX.o.nil (HE0.o.trans hJ)).2 0 _ rfl;have ql:=(HX.o.nil (HE0.o.trans hJ)).1);clear hJ;exact CL) ?_;simp only[PT])
  refine Aa (fun w1 hJ hF=>?_)
  have HE1:=hd hJ;clear hF hJ;go_wp2_with fail
  refine(Aq _ _ _ (by decide) (by omega)).mono ?_
  rintro e w2 ⟨rfl,rfl⟩;go_wp2_with fail
  go_ret
  exact⟨Ai (by simp[opS]),HE0.o.trans HE1.o⟩
 ·go_enter func145,ntmps145
  go_upto_region 21 with fail
  generalize w.alloc (.cells #[(13:Int),.slice A la ca,.string ⟨#[]⟩,.slice none 0 0,.string ⟨#[]⟩,.slice none 0 0,lo,hi,(8:Int),(0:Int),.slice none 0 0,.slice none 0 0] 189)=w0 at *;generalize hwl:w.heap.size=bl at *;refine rgE 11 [] ?_
  simp only[TK]
  repeat(refine dE (fun wr nr hJ=>by(have qx:=(HB0.o.ext hJ (by simp)).cell;have qxl:=(HB0.o.ext hJ (by simp)).lt;have q0:=(HX.o.nil (HE0.o.trans hJ)).2 0 _ rfl;have ql:=(HX.o.nil (HE0.o.trans hJ)).1);clear hJ;exact CL) ?_;simp only[PT])
  refine Aa (fun w1 hJ hF=>?_)
  have HE1:=hd hJ;clear hF hJ;go_wp2_with fail
  refine(Aq _ _ _ (by decide) (by omega)).mono ?_
  rintro e w2 ⟨rfl,rfl⟩;go_wp2_with fail
  go_ret
  exact⟨Ai (by simp[opS]),HE0.o.trans HE1.o⟩
 ·go_enter func145,ntmps145
  go_upto_region 21 with fail
  generalize w.alloc (.cells #[(13:Int),.slice A la ca,.string ⟨#[]⟩,.slice none 0 0,.string ⟨#[]⟩,.slice none 0 0,lo,hi,(9:Int),(0:Int),.slice none 0 0,.slice none 0 0] 189)=w0 at *;generalize hwl:w.heap.size=bl at *;refine rgE 11 [] ?_
  simp only[TK]
  repeat(refine dE (fun wr nr hJ=>by(have qx:=(HB0.o.ext hJ (by simp)).cell;have qxl:=(HB0.o.ext hJ (by simp)).lt;have q0:=(HX.o.nil (HE0.o.trans hJ)).2 0 _ rfl;have ql:=(HX.o.nil (HE0.o.trans hJ)).1);clear hJ;exact CL) ?_;simp only[PT])
  refine Aa (fun w1 hJ hF=>?_)
  have HE1:=hd hJ;clear hF hJ;go_wp2_with fail
  refine(Aq _ _ _ (by decide) (by omega)).mono ?_
  rintro e w2 ⟨rfl,rfl⟩;go_wp2_with fail
  go_ret
  exact⟨Ai (by simp[opS]),HE0.o.trans HE1.o⟩
 ·go_enter func145,ntmps145
  go_upto_region 21 with fail
  generalize w.alloc (.cells #[(13:Int),.slice A la ca,.string ⟨#[]⟩,.slice none 0 0,.string ⟨#[]⟩,.slice none 0 0,lo,hi,(10:Int),(0:Int),.slice none 0 0,.slice none 0 0] 189)=w0 at *;generalize hwl:w.heap.size=bl at *;refine rgE 11 [] ?_
  simp only[TK]
  repeat(refine dE (fun wr nr hJ=>by(have qx:=(HB0.o.ext hJ (by simp)).cell;have qxl:=(HB0.o.ext hJ (by simp)).lt;have q0:=(HX.o.nil (HE0.o.trans hJ)).2 0 _ rfl;have ql:=(HX.o.nil (HE0.o.trans hJ)).1);clear hJ;exact CL) ?_;simp only[PT])
  refine Aa (fun w1 hJ hF=>?_)
  have HE1:=hd hJ;clear hF hJ;go_wp2_with fail
  refine(Aq _ _ _ (by decide) (by omega)).mono ?_
  rintro e w2 ⟨rfl,rfl⟩;go_wp2_with fail
  go_ret
  exact⟨Ai (by simp[opS]),HE0.o.trans HE1.o⟩
 ·go_enter func145,ntmps145
  go_upto_region 21 with fail
  generalize w.alloc (.cells #[(13:Int),.slice A la ca,.string ⟨#[]⟩,.slice none 0 0,.string ⟨#[]⟩,.slice none 0 0,lo,hi,(11:Int),(0:Int),.slice none 0 0,.slice none 0 0] 189)=w0 at *;generalize hwl:w.heap.size=bl at *;refine rgE 11 [] ?_
  simp only[TK]
  repeat(refine dE (fun wr nr hJ=>by(have qx:=(HB0.o.ext hJ (by simp)).cell;have qxl:=(HB0.o.ext hJ (by simp)).lt;have q0:=(HX.o.nil (HE0.o.trans hJ)).2 0 _ rfl;have ql:=(HX.o.nil (HE0.o.trans hJ)).1);clear hJ;exact CL) ?_;simp only[PT])
  refine Aa (fun w1 hJ hF=>?_)
  have HE1:=hd hJ;clear hF hJ;go_wp2_with fail
  refine(Aq _ _ _ (by decide) (by omega)).mono ?_
  rintro e w2 ⟨rfl,rfl⟩;go_wp2_with fail
  go_ret
  exact⟨Ai (by simp[opS]),HE0.o.trans HE1.o⟩
 ·go_enter func145,ntmps145
  go_upto_region 21 with fail
  generalize w.alloc (.cells #[(13:Int),.slice A la ca,.string ⟨#[]⟩,.slice none 0 0,.string ⟨#[]⟩,.slice none 0 0,lo,hi,(12:Int),(0:Int),.slice none 0 0,.slice none 0 0] 189)=w0 at *;generalize hwl:w.heap.size=bl at *;refine rgE 11 [] ?_
  simp only[TK]
  repeat(refine dE (fun wr nr hJ=>by(have qx:=(HB0.o.ext hJ (by simp)).cell;have qxl:=(HB0.o.ext hJ (by simp)).lt;have q0:=(HX.o.nil (HE0.o.trans hJ)).2 0 _ rfl;have ql:=(HX.o.nil (HE0.o.trans hJ)).1);clear hJ;exact CL) ?_;simp only[PT])
  refine Aa (fun w1 hJ hF=>?_)
  have HE1:=hd hJ;clear hF hJ;go_wp2_with fail
  refine(Aq _ _ _ (by decide) (by omega)).mono ?_
  rintro e w2 ⟨rfl,rfl⟩;go_wp2_with fail
  go_ret
  exact⟨Ai (by simp[opS]),HE0.o.trans HE1.o⟩
 ·go_enter func145,ntmps145
  go_upto_region 21 with fail
  generalize w.alloc (.cells #[(13:Int),.slice A la ca,.string ⟨#[]⟩,.slice none 0 0,.string ⟨#[]⟩,.slice none 0 0,lo,hi,(13:Int),(0:Int),.slice none 0 0,.slice none 0 0] 189)=w0 at *;generalize hwl:w.heap.size=bl at *;refine rgE 11 [] ?_
  simp only[TK]
  repeat(refine dE (fun wr nr hJ=>by(have qx:=(HB0.o.ext hJ (by simp)).cell;have qxl:=(HB0.o.ext hJ (by simp)).lt;have q0:=(HX.o.nil (HE0.o.trans hJ)).2 0 _ rfl;have ql:=(HX.o.nil (HE0.o.trans hJ)).1);clear hJ;exact CL) ?_;simp only[PT])
  refine Aa (fun w1 hJ hF=>?_)
  have HE1:=hd hJ;clear hF hJ;go_wp2_with fail
  refine(Aq _ _ _ (by decide) (by omega)).mono ?_
  rintro e w2 ⟨rfl,rfl⟩;go_wp2_with fail
  go_ret
  exact⟨Ai (by simp[opS]),HE0.o.trans HE1.o⟩
 ·go_enter func145,ntmps145
  go_upto_region 21 with fail
  generalize w.alloc (.cells #[(13:Int),.slice A la ca,.string ⟨#[]⟩,.slice none 0 0,.string ⟨#[]⟩,.slice none 0 0,lo,hi,(14:Int),(0:Int),.slice none 0 0,.slice none 0 0] 189)=w0 at *;generalize hwl:w.heap.size=bl at *;refine rgE 11 [] ?_
  simp only[TK]
  repeat(refine dE (fun wr nr hJ=>by(have qx:=(HB0.o.ext hJ (by simp)).cell;have qxl:=(HB0.o.ext hJ (by simp)).lt;have q0:=(HX.o.nil (HE0.o.trans hJ)).2 0 _ rfl;have ql:=(HX.o.nil (HE0.o.trans hJ)).1);clear hJ;exact CL) ?_;simp only[PT])
  refine Aa (fun w1 hJ hF=>?_)
  have HE1:=hd hJ;clear hF hJ;go_wp2_with fail
  refine(Aq _ _ _ (by decide) (by omega)).mono ?_
  rintro e w2 ⟨rfl,rfl⟩;go_wp2_with fail
  go_ret
  exact⟨Ai (by simp[opS]),HE0.o.trans HE1.o⟩
 ·go_enter func145,ntmps145
  go_upto_region 21 with fail
  generalize w.alloc (.cells #[(13:Int),.slice A la ca,.string ⟨#[]⟩,.slice none 0 0,.string ⟨#[]⟩,.slice none 0 0,lo,hi,(15:Int),(0:Int),.slice none 0 0,.slice none 0 0] 189)=w0 at *;generalize hwl:w.heap.size=bl at *;refine rgE 11 [] ?_
  simp only[TK]
  repeat(refine dE (fun wr nr hJ=>by(have qx:=(HB0.o.ext hJ (by simp)).cell;have qxl:=(HB0.o.ext hJ (by simp)).lt;have q0:=(HX.o.nil (HE0.o.trans hJ)).2 0 _ rfl;have ql:=(HX.o.nil (HE0.o.trans hJ)).1);clear hJ;exact CL) ?_;simp only[PT])
  refine Aa (fun w1 hJ hF=>?_)
  have HE1:=hd hJ;clear hF hJ;go_wp2_with fail
  refine(Aq _ _ _ (by decide) (by omega)).mono ?_
  rintro e w2 ⟨rfl,rfl⟩;go_wp2_with fail
  go_ret
  exact⟨Ai (by simp[opS]),HE0.o.trans HE1.o⟩
 ·go_enter func145,ntmps145
  go_upto_region 21 with fail
  generalize w.alloc (.cells #[(13:Int),.slice A la ca,.string ⟨#[]⟩,.slice none 0 0,.string ⟨#[]⟩,.slice none 0 0,lo,hi,(16:Int),(0:Int),.slice none 0 0,.slice none 0 0] 189)=w0 at *;generalize hwl:w.heap.size=bl at *;refine rgE 11 [] ?_
  simp only[TK]
  repeat(refine dE (fun wr nr hJ=>by(have qx:=(HB0.o.ext hJ (by simp)).cell;have qxl:=(HB0.o.ext hJ (by simp)).lt;have q0:=(HX.o.nil (HE0.o.trans hJ)).2 0 _ rfl;have ql:=(HX.o.nil (HE0.o.trans hJ)).1);clear hJ;exact CL) ?_;simp only[PT])
  refine Aa (fun w1 hJ hF=>?_)
  have HE1:=hd hJ;clear hF hJ;go_wp2_with fail
  refine(Aq _ _ _ (by decide) (by omega)).mono ?_
  rintro e w2 ⟨rfl,rfl⟩;go_wp2_with fail
  go_ret
  exact⟨Ai (by simp[opS]),HE0.o.trans HE1.o⟩
 ·go_enter func145,ntmps145
  go_upto_region 21 with fail
  generalize w.alloc (.cells #[(13:Int),.slice A la ca,.string ⟨#[]⟩,.slice none 0 0,.string ⟨#[]⟩,.slice none 0 0,lo,hi,(17:Int),(0:Int),.slice none 0 0,.slice none 0 0] 189)=w0 at *;generalize hwl:w.heap.size=bl at *;refine rgE 11 [] ?_
  simp only[TK]
  repeat(refine dE (fun wr nr hJ=>by(have qx:=(HB0.o.ext hJ (by simp)).cell;have qxl:=(HB0.o.ext hJ (by simp)).lt;have q0:=(HX.o.nil (HE0.o.trans hJ)).2 0 _ rfl;have ql:=(HX.o.nil (HE0.o.trans hJ)).1);clear hJ;exact CL) ?_;simp only[PT])
  refine Aa (fun w1 hJ hF=>?_)
  have HE1:=hd hJ;clear hF hJ;go_wp2_with fail
  refine(Aq _ _ _ (by decide) (by omega)).mono ?_
  rintro e w2 ⟨rfl,rfl⟩;go_wp2_with fail
  go_ret
  exact⟨Ai (by simp[opS]),HE0.o.trans HE1.o⟩
 ·go_enter func145,ntmps145
  go_upto_region 21 with fail
  generalize w.alloc (.cells #[(13:Int),.slice A la ca,.string ⟨#[]⟩,.slice none 0 0,.string ⟨#[]⟩,.slice none 0 0,lo,hi,(18:Int),(0:Int),.slice none 0 0,.slice none 0 0] 189)=w0 at *;generalize hwl:w.heap.size=bl at *;refine rgE 11 [] ?_
  simp only[TK]
  repeat(refine dE (fun wr nr hJ=>by(have qx:=(HB0.o.ext hJ (by simp)).cell;have qxl:=(HB0.o.ext hJ (by simp)).lt;have q0:=(HX.o.nil (HE0.o.trans hJ)).2 0 _ rfl;have ql:=(HX.o.nil (HE0.o.trans hJ)).1);clear hJ;exact CL) ?_;simp only[PT])
  refine Aa (fun w1 hJ hF=>?_)
  have HE1:=hd hJ;clear hF hJ;go_wp2_with fail
  refine(Aq _ _ _ (by decide) (by omega)).mono ?_
  rintro e w2 ⟨rfl,rfl⟩;go_wp2_with fail
  go_ret
  exact⟨Ai (by simp[opS]),HE0.o.trans HE1.o⟩
 ·go_enter func145,ntmps145
  go_upto_region 21 with fail
  generalize w.alloc (.cells #[(13:Int),.slice A la ca,.string ⟨#[]⟩,.slice none 0 0,.string ⟨#[]⟩,.slice none 0 0,lo,hi,(19:Int),(0:Int),.slice none 0 0,.slice none 0 0] 189)=w0 at *;generalize hwl:w.heap.size=bl at *;refine rgE 11 [] ?_
  simp only[TK]
  repeat(refine dE (fun wr nr hJ=>by(have qx:=(HB0.o.ext hJ (by simp)).cell;have qxl:=(HB0.o.ext hJ (by simp)).lt;have q0:=(HX.o.nil (HE0.o.trans hJ)).2 0 _ rfl;have ql:=(HX.o.nil (HE0.o.trans hJ)).1);clear hJ;exact CL) ?_;simp only[PT])
  refine Aa (fun w1 hJ hF=>?_)
  have HE1:=hd hJ;clear hF hJ;go_wp2_with fail
  refine(Aq _ _ _ (by decide) (by omega)).mono ?_
  rintro e w2 ⟨rfl,rfl⟩;go_wp2_with fail
  go_ret
  exact⟨Ai (by simp[opS]),HE0.o.trans HE1.o⟩
 ·go_enter func145,ntmps145
  go_upto_region 21 with fail
  generalize w.alloc (.cells #[(13:Int),.slice A la ca,.string ⟨#[]⟩,.slice none 0 0,.string ⟨#[]⟩,.slice none 0 0,lo,hi,(20:Int),(0:Int),.slice none 0 0,.slice none 0 0] 189)=w0 at *;generalize hwl:w.heap.size=bl at *;refine rgE 11 [] ?_
  simp only[TK]
  repeat(refine dE (fun wr nr hJ=>by(have qx:=(HB0.o.ext hJ (by simp)).cell;have qxl:=(HB0.o.ext hJ (by simp)).lt;have q0:=(HX.o.nil (HE0.o.trans hJ)).2 0 _ rfl;have ql:=(HX.o.nil (HE0.o.trans hJ)).1);clear hJ;exact CL) ?_;simp only[PT])
  refine Aa (fun w1 hJ hF=>?_)
  have HE1:=hd hJ;clear hF hJ;go_wp2_with fail
  refine(Aq _ _ _ (by decide) (by omega)).mono ?_
  rintro e w2 ⟨rfl,rfl⟩;go_wp2_with fail
  go_ret
  exact⟨Ai (by simp[opS]),HE0.o.trans HE1.o⟩
 ·go_enter func145,ntmps145
  go_upto_region 21 with fail
  generalize w.alloc (.cells #[(13:Int),.slice A la ca,.string ⟨#[]⟩,.slice none 0 0,.string ⟨#[]⟩,.slice none 0 0,lo,hi,(21:Int),(0:Int),.slice none 0 0,.slice none 0 0] 189)=w0 at *;generalize hwl:w.heap.size=bl at *;refine rgE 11 [] ?_
  simp only[TK]
  repeat(refine dE (fun wr nr hJ=>by(have qx:=(HB0.o.ext hJ (by simp)).cell;have qxl:=(HB0.o.ext hJ (by simp)).lt;have q0:=(HX.o.nil (HE0.o.trans hJ)).2 0 _ rfl;have ql:=(HX.o.nil (HE0.o.trans hJ)).1);clear hJ;exact CL) ?_;simp only[PT])
  refine Aa (fun w1 hJ hF=>?_)
  have HE1:=hd hJ;clear hF hJ;go_wp2_with fail
  refine(Aq _ _ _ (by decide) (by omega)).mono ?_
  rintro e w2 ⟨rfl,rfl⟩;go_wp2_with fail
  go_ret
  exact⟨Ai (by simp[opS]),HE0.o.trans HE1.o⟩
 ·go_enter func145,ntmps145
  go_upto_region 21 with fail
  generalize w.alloc (.cells #[(13:Int),.slice A la ca,.string ⟨#[]⟩,.slice none 0 0,.string ⟨#[]⟩,.slice none 0 0,lo,hi,(22:Int),(0:Int),.slice none 0 0,.slice none 0 0] 189)=w0 at *;generalize hwl:w.heap.size=bl at *;refine rgE 11 [] ?_
  simp only[TK]
  repeat(refine dE (fun wr nr hJ=>by(have qx:=(HB0.o.ext hJ (by simp)).cell;have qxl:=(HB0.o.ext hJ (by simp)).lt;have q0:=(HX.o.nil (HE0.o.trans hJ)).2 0 _ rfl;have ql:=(HX.o.nil (HE0.o.trans hJ)).1);clear hJ;exact CL) ?_;simp only[PT])
  refine Aa (fun w1 hJ hF=>?_)
  have HE1:=hd hJ;clear hF hJ;go_wp2_with fail
  refine(Aq _ _ _ (by decide) (by omega)).mono ?_
  rintro e w2 ⟨rfl,rfl⟩;go_wp2_with fail
  go_ret
  exact⟨Ai (by simp[opS]),HE0.o.trans HE1.o⟩
 ·go_enter func145,ntmps145
  go_upto_region 21 with fail
  generalize w.alloc (.cells #[(13:Int),.slice A la ca,.string ⟨#[]⟩,.slice none 0 0,.string ⟨#[]⟩,.slice none 0 0,lo,hi,(23:Int),(0:Int),.slice none 0 0,.slice none 0 0] 189)=w0 at *;generalize hwl:w.heap.size=bl at *;refine rgE 11 [] ?_
  simp only[TK]
  repeat(refine dE (fun wr nr hJ=>by(have qx:=(HB0.o.ext hJ (by simp)).cell;have qxl:=(HB0.o.ext hJ (by simp)).lt;have q0:=(HX.o.nil (HE0.o.trans hJ)).2 0 _ rfl;have ql:=(HX.o.nil (HE0.o.trans hJ)).1);clear hJ;exact CL) ?_;simp only[PT])
  refine Aa (fun w1 hJ hF=>?_)
  have HE1:=hd hJ;clear hF hJ;go_wp2_with fail
  refine(Aq _ _ _ (by decide) (by omega)).mono ?_
  rintro e w2 ⟨rfl,rfl⟩;go_wp2_with fail
  go_ret
  exact⟨Ai (by simp[opS]),HE0.o.trans HE1.o⟩
 ·go_enter func145,ntmps145
  go_upto_region 21 with fail
  generalize w.alloc (.cells #[(13:Int),.slice A la ca,.string ⟨#[]⟩,.slice none 0 0,.string ⟨#[]⟩,.slice none 0 0,lo,hi,(24:Int),(0:Int),.slice none 0 0,.slice none 0 0] 189)=w0 at *;generalize hwl:w.heap.size=bl at *;refine rgE 11 [] ?_
  simp only[TK]
  repeat(refine dE (fun wr nr hJ=>by(have qx:=(HB0.o.ext hJ (by simp)).cell;have qxl:=(HB0.o.ext hJ (by simp)).lt;have q0:=(HX.o.nil (HE0.o.trans hJ)).2 0 _ rfl;have ql:=(HX.o.nil (HE0.o.trans hJ)).1);clear hJ;exact CL) ?_;simp only[PT])
  refine Aa (fun w1 hJ hF=>?_)
  have HE1:=hd hJ;clear hF hJ;go_wp2_with fail
  refine(Aq _ _ _ (by decide) (by omega)).mono ?_
  rintro e w2 ⟨rfl,rfl⟩;go_wp2_with fail
  go_ret
  exact⟨Ai (by simp[opS]),HE0.o.trans HE1.o⟩
 ·go_enter func145,ntmps145
  go_upto_region 21 with fail
  generalize w.alloc (.cells #[(13:Int),.slice A la ca,.string ⟨#[]⟩,.slice none 0 0,.string ⟨#[]⟩,.slice none 0 0,lo,hi,(25:Int),(0:Int),.slice none 0 0,.slice none 0 0] 189)=w0 at *;generalize hwl:w.heap.size=bl at *;refine rgE 11 [] ?_
  simp only[TK]
  repeat(refine dE (fun wr nr hJ=>by(have qx:=(HB0.o.ext hJ (by simp)).cell;have qxl:=(HB0.o.ext hJ (by simp)).lt;have q0:=(HX.o.nil (HE0.o.trans hJ)).2 0 _ rfl;have ql:=(HX.o.nil (HE0.o.trans hJ)).1);clear hJ;exact CL) ?_;simp only[PT])
  refine Aa (fun w1 hJ hF=>?_)
  have HE1:=hd hJ;clear hF hJ;go_wp2_with fail
  refine(Aq _ _ _ (by decide) (by omega)).mono ?_
  rintro e w2 ⟨rfl,rfl⟩;go_wp2_with fail
  go_ret
  exact⟨Ai (by simp[opS]),HE0.o.trans HE1.o⟩
 ·go_enter func145,ntmps145
  go_upto_region 21 with fail
  generalize w.alloc (.cells #[(13:Int),.slice A la ca,.string ⟨#[]⟩,.slice none 0 0,.string ⟨#[]⟩,.slice none 0 0,lo,hi,(26:Int),(0:Int),.slice none 0 0,.slice none 0 0] 189)=w0 at *;generalize hwl:w.heap.size=bl at *;refine rgE 11 [] ?_
  simp only[TK]
  repeat(refine dE (fun wr nr hJ=>by(have qx:=(HB0.o.ext hJ (by simp)).cell;have qxl:=(HB0.o.ext hJ (by simp)).lt;have q0:=(HX.o.nil (HE0.o.trans hJ)).2 0 _ rfl;have ql:=(HX.o.nil (HE0.o.trans hJ)).1);clear hJ;exact CL) ?_;simp only[PT])
  refine Aa (fun w1 hJ hF=>?_)
  have HE1:=hd hJ;clear hF hJ;go_wp2_with fail
  refine(Aq _ _ _ (by decide) (by omega)).mono ?_
  rintro e w2 ⟨rfl,rfl⟩;go_wp2_with fail
  go_ret
  exact⟨Ai (by simp[opS]),HE0.o.trans HE1.o⟩
 ·go_enter func145,ntmps145
  go_upto_region 21 with fail
  generalize w.alloc (.cells #[(13:Int),.slice A la ca,.string ⟨#[]⟩,.slice none 0 0,.string ⟨#[]⟩,.slice none 0 0,lo,hi,(27:Int),(0:Int),.slice none 0 0,.slice none 0 0] 189)=w0 at *;generalize hwl:w.heap.size=bl at *;refine rgE 11 [] ?_
  simp only[TK]
  repeat(refine dE (fun wr nr hJ=>by(have qx:=(HB0.o.ext hJ (by simp)).cell;have qxl:=(HB0.o.ext hJ (by simp)).lt;have q0:=(HX.o.nil (HE0.o.trans hJ)).2 0 _ rfl;have ql:=(HX.o.nil (HE0.o.trans hJ)).1);clear hJ;exact CL) ?_;simp only[PT])
  refine Aa (fun w1 hJ hF=>?_)
  have HE1:=hd hJ;clear hF hJ;go_wp2_with fail
  refine(Aq _ _ _ (by decide) (by omega)).mono ?_
  rintro e w2 ⟨rfl,rfl⟩;go_wp2_with fail
  go_ret
  exact⟨Ai (by simp[opS]),HE0.o.trans HE1.o⟩
 ·go_enter func145,ntmps145
  go_upto_region 21 with fail
  generalize w.alloc (.cells #[(13:Int),.slice A la ca,.string ⟨#[]⟩,.slice none 0 0,.string ⟨#[]⟩,.slice none 0 0,lo,hi,(28:Int),(0:Int),.slice none 0 0,.slice none 0 0] 189)=w0 at *;generalize hwl:w.heap.size=bl at *;refine rgE 11 [] ?_
  simp only[TK]
  repeat(refine dE (fun wr nr hJ=>by(have qx:=(HB0.o.ext hJ (by simp)).cell;have qxl:=(HB0.o.ext hJ (by simp)).lt;have q0:=(HX.o.nil (HE0.o.trans hJ)).2 0 _ rfl;have ql:=(HX.o.nil (HE0.o.trans hJ)).1);clear hJ;exact CL) ?_;simp only[PT])
  refine Aa (fun w1 hJ hF=>?_)
  have HE1:=hd hJ;clear hF hJ;go_wp2_with fail
  refine(Aq _ _ _ (by decide) (by omega)).mono ?_
  rintro e w2 ⟨rfl,rfl⟩;go_wp2_with fail
  go_ret
  exact⟨Ai (by simp[opS]),HE0.o.trans HE1.o⟩
 ·go_enter func145,ntmps145
  go_upto_region 21 with fail
  generalize w.alloc (.cells #[(13:Int),.slice A la ca,.string ⟨#[]⟩,.slice none 0 0,.string ⟨#[]⟩,.slice none 0 0,lo,hi,(29:Int),(0:Int),.slice none 0 0,.slice none 0 0] 189)=w0 at *;generalize hwl:w.heap.size=bl at *;refine rgE 11 [] ?_
  simp only[TK]
  repeat(refine dE (fun wr nr hJ=>by(have qx:=(HB0.o.ext hJ (by simp)).cell;have qxl:=(HB0.o.ext hJ (by simp)).lt;have q0:=(HX.o.nil (HE0.o.trans hJ)).2 0 _ rfl;have ql:=(HX.o.nil (HE0.o.trans hJ)).1);clear hJ;exact CL) ?_;simp only[PT])
  refine Aa (fun w1 hJ hF=>?_)
  have HE1:=hd hJ;clear hF hJ;go_wp2_with fail
  refine(Aq _ _ _ (by decide) (by omega)).mono ?_
  rintro e w2 ⟨rfl,rfl⟩;go_wp2_with fail
  go_ret
  exact⟨Ai (by simp[opS]),HE0.o.trans HE1.o⟩
 ·go_enter func145,ntmps145
  go_upto_region 21 with fail
  generalize w.alloc (.cells #[(13:Int),.slice A la ca,.string ⟨#[]⟩,.slice none 0 0,.string ⟨#[]⟩,.slice none 0 0,lo,hi,(30:Int),(0:Int),.slice none 0 0,.slice none 0 0] 189)=w0 at *;generalize hwl:w.heap.size=bl at *;refine rgE 11 [] ?_
  simp only[TK]
  repeat(refine dE (fun wr nr hJ=>by(have qx:=(HB0.o.ext hJ (by simp)).cell;have qxl:=(HB0.o.ext hJ (by simp)).lt;have q0:=(HX.o.nil (HE0.o.trans hJ)).2 0 _ rfl;have ql:=(HX.o.nil (HE0.o.trans hJ)).1);clear hJ;exact CL) ?_;simp only[PT])
  refine Aa (fun w1 hJ hF=>?_)
  have HE1:=hd hJ;clear hF hJ;go_wp2_with fail
  refine(Aq _ _ _ (by decide) (by omega)).mono ?_
  rintro e w2 ⟨rfl,rfl⟩;go_wp2_with fail
  go_ret
  exact⟨Ai (by simp[opS]),HE0.o.trans HE1.o⟩
 ·go_enter func145,ntmps145
  go_upto_region 21 with fail
  generalize w.alloc (.cells #[(13:Int),.slice A la ca,.string ⟨#[]⟩,.slice none 0 0,.string ⟨#[]⟩,.slice none 0 0,lo,hi,(31:Int),(0:Int),.slice none 0 0,.slice none 0 0] 189)=w0 at *;generalize hwl:w.heap.size=bl at *;refine rgE 11 [] ?_
  simp only[TK]
  repeat(refine dE (fun wr nr hJ=>by(have qx:=(HB0.o.ext hJ (by simp)).cell;have qxl:=(HB0.o.ext hJ (by simp)).lt;have q0:=(HX.o.nil (HE0.o.trans hJ)).2 0 _ rfl;have ql:=(HX.o.nil (HE0.o.trans hJ)).1);clear hJ;exact CL) ?_;simp only[PT])
  refine Aa (fun w1 hJ hF=>?_)
  have HE1:=hd hJ;clear hF hJ;go_wp2_with fail
  refine(Aq _ _ _ (by decide) (by omega)).mono ?_
  rintro e w2 ⟨rfl,rfl⟩;go_wp2_with fail
  go_ret
  exact⟨Ai (by simp[opS]),HE0.o.trans HE1.o⟩
end Go.Proofs.YtkgmhggliifkjaaGreat
