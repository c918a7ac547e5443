import Derived.Test.YtkgmhggliifkjaaGreatP08
import Derived.Lib.MinMax
import Derived.IntWalk
namespace Go.Proofs.YtkgmhggliifkjaaGreat
open Go.RowKit Go.Proofs.Tryz
set_option linter.all false
set_option maxHeartbeats 8000000
set_option maxRecDepth 4000
attribute [local irreducible] Ax
theorem Ja (n:Int)(w:World):Calls prog 114 #[n] w fun e w'=>e=.returned (.int .i64 (w32 n))/\w=w':=by
 go_enter func114,ntmps114
 go_wp2_with fail
 go_ret
 exact⟨Ai (by unfold wrap64 wrap32 w32;omega),rfl⟩
theorem Ml (b:Bool)(w:World):Calls prog 115 #[.bool b] w fun e w'=>e=.returned (.int .i64 (if b then 1 else 0))/\w=w':=by
 cases b
 all_goals
  go_enter func115,ntmps115
  go_wp2_with fail
  go_ret
  exact⟨rfl,rfl⟩
theorem Mx {a n:Int}(hn:1<=n)(h:a.tmod n<0):a.tdiv n-1=a / n:=by
 have h1:=Int.tmod_add_mul_tdiv a n;have h2:=Abh a n hn;refine((Int.ediv_emod_unique (by omega)).2 ⟨?_,?_,?_⟩:a / n=a.tdiv n-1/\a % n=a.tmod n+n).1.symm
 ·rw[Int.mul_sub,Int.mul_one];omega
 ·omega
 ·omega
theorem My {a n:Int}(hn:1<=n)(h:0<=a.tmod n):a.tdiv n=a / n:=by
 have h1:=Int.tmod_add_mul_tdiv a n;have h2:=Abi a n hn;exact((Int.ediv_emod_unique (by omega)).2 ⟨h1,h,h2⟩:a / n=a.tdiv n/\a % n=a.tmod n).1.symm
set_option maxRecDepth 100000
theorem Sv (o d ra rb rc p n m a b c:Int)(w:World)(hn:1<=n/\n<=31)(ha0 : -2147483648<=a)(ha1:a<=2147483647) :
  Calls prog 80 #[.agg #[o,(13:Int),d,ra,rb,rc,p,n,m],a,b,c] w fun e w'=>e=.returned (.int .i64 (opS 13 n m a b c))/\Ext [] w w':=by
 have hn2:n=1\/n=2\/n=3\/n=4\/n=5\/n=6\/n=7\/n=8\/n=9\/n=10\/n=11\/n=12\/n=13\/n=14\/n=15\/n=16\/n=17\/n=18\/n=19\/n=20\/n=21\/n=22\/n=23\/n=24\/n=25\/n=26\/n=27\/n=28\/n=29\/n=30\/n=31:=by omega
 clear hn;rcases hn2 with rfl|rfl|rfl|rfl|rfl|rfl|rfl|rfl|rfl|rfl|rfl|rfl|rfl|rfl|rfl|rfl|rfl|rfl|rfl|rfl|rfl|rfl|rfl|rfl|rfl|rfl|rfl|rfl|rfl|rfl|rfl
 all_goals
  go_enter func80,ntmps80
  go_wp2_with fail
  go_quiet (fail)
  go_wp2_with fail
  go_ret
  exact⟨Ai (by simp[opS]),(er.alloc _).drewN _⟩
theorem Pl (o k d ra rb rc p n m a b c:Int)(w:World)(hk:4<=k/\k<=15)(hc:(k=12->n<=m)/\(k=13->1<=n/\n<=31)/\(k=14->1<=n))(hn:isW n)(hm:isW m)(ha:isW a)(hb:isW b)(hcc:isW c) :
  Calls prog 80 #[.agg #[o,k,d,ra,rb,rc,p,n,m],a,b,c] w fun e w'=>e=.returned (.int .i64 (opS k n m a b c))/\Ext [] w w':=by
 unfold isW at hn hm ha hb hcc;obtain⟨hn0,hn1⟩:=hn;obtain⟨hm0,hm1⟩:=hm;obtain⟨ha0,ha1⟩:=ha;obtain⟨hb0,hb1⟩:=hb;obtain⟨hcc0,hcc1⟩:=hcc;have hk2:k=4\/k=5\/k=6\/k=7\/k=8\/k=9\/k=10\/k=11\/k=12\/k=13\/k=14\/k=15:=by omega
 obtain⟨hc12,hc13,hc14⟩:=hc;rcases hk2 with rfl|rfl|rfl|rfl|rfl|rfl|rfl|rfl|rfl|rfl|rfl|rfl
 ·clear hc12 hc13 hc14 hk;go_enter func80,ntmps80
  go_wp2_with (go_at_call 114;refine(Ja _ _).mono ?_;rintro e w' ⟨rfl,rfl⟩)
  go_ret
  exact⟨rfl,er.alloc _⟩
 ·clear hc12 hc13 hc14 hk;go_enter func80,ntmps80
  go_wp2_with (go_at_call 114;refine(Ja _ _).mono ?_;rintro e w' ⟨rfl,rfl⟩)
  go_ret
  exact⟨rfl,er.alloc _⟩
 ·clear hc12 hc13 hc14 hk
  have hab : -4611686018427387904<=a*b/\a*b<=4611686018427387904:=by
   have h1:=Int.natAbs_mul a b;have h2:a.natAbs<=2147483648:=by omega
   have h3:b.natAbs<=2147483648:=by omega
   have h4:=Nat.mul_le_mul h2 h3;rw[<-h1] at h4;omega
  obtain⟨hab0,hab1⟩:=hab;have hww:wrap64 (a*b)=a*b:=by generalize a*b=q at *;unfold wrap64;omega
  go_enter func80,ntmps80
  go_wp2_with (go_at_call 114;refine(Ja _ _).mono ?_;rintro e w' ⟨rfl,rfl⟩)
  go_ret
  exact⟨rfl,er.alloc _⟩
 ·clear hc12 hc13 hc14 hk;go_enter func80,ntmps80
  go_wp2_with fail
  go_ret
  exact⟨rfl,er.alloc _⟩
 ·clear hc12 hc13 hc14 hk;go_enter func80,ntmps80
  go_wp2_with fail
  go_ret
  exact⟨rfl,er.alloc _⟩
 ·clear hc12 hc13 hc14 hk;by_cases h:a<b
  ·go_enter func80,ntmps80
   go_wp2_with (go_at_call 115;refine(Ml _ _).mono ?_;rintro e w' ⟨rfl,rfl⟩)
   go_ret
   exact⟨Ai (by simp[opS,h]),er.alloc _⟩
  ·go_enter func80,ntmps80
   go_wp2_with (go_at_call 115;refine(Ml _ _).mono ?_;rintro e w' ⟨rfl,rfl⟩)
   go_ret
   exact⟨Ai (by simp[opS,h]),er.alloc _⟩
 ·clear hc12 hc13 hc14 hk;by_cases h:a=b
  ·subst h;go_enter func80,ntmps80
   go_wp2_with (go_at_call 115;refine(Ml _ _).mono ?_;rintro e w' ⟨rfl,rfl⟩)
   go_ret
   exact⟨Ai (by simp[opS]),er.alloc _⟩
  ·have hb2:(a==b)=false:=by simpa using h
   have H:=hd h;clear h;go_enter func80,ntmps80
   go_wp2_with (go_at_call 115;refine(Ml _ _).mono ?_;rintro e w' ⟨rfl,rfl⟩)
   go_ret
   exact⟨Ai (by simp[opS,H.o]),er.alloc _⟩
 ·clear hc12 hc13 hc14 hk;go_enter func80,ntmps80
  go_wp2_with (go_at_call 114;refine(Ja _ _).mono ?_;rintro e w' ⟨rfl,rfl⟩)
  go_ret
  exact⟨rfl,er.alloc _⟩
 ·have h12:=hc12 rfl;clear hc12 hc13 hc14 hk;go_enter func80,ntmps80
  go_wp2_with fail
  go_ret
  exact⟨rfl,er.alloc _⟩
 ·exact Sv o d ra rb rc p n m a b c w (hc13 rfl) ha0 ha1
 ·have h14:=hc14 rfl;clear hc12 hc13 hc14 hk;go_enter func80,ntmps80
  go_wp2_with fail
  ·go_ret
   have hlt:a.tmod n<0:=by assumption
   have he:=Mx h14 hlt;exact⟨Ai (by show wrap64 (a.tdiv n-1)=a / n;rw[he];have:=Xb h14 (a:=a) ⟨ha0,ha1⟩;unfold isW at this;unfold wrap64;omega),er.alloc _⟩
  ·go_ret
   have hge:0<=a.tmod n:=by assumption
   have he:=My h14 hge;exact⟨Ai (by show a.tdiv n=a / n;exact he),er.alloc _⟩
 ·clear hc12 hc13 hc14 hk;by_cases h:a=0
  ·subst h;go_enter func80,ntmps80
   go_wp2_with fail
   go_ret
   exact⟨Ai (by simp[opS]),er.alloc _⟩
  ·have hb2:(a==0)=false:=by simpa using h
   have H:=hd h;clear h;go_enter func80,ntmps80
   go_wp2_with fail
   go_ret
   exact⟨Ai (by simp[opS,H.o]),er.alloc _⟩
end Go.Proofs.YtkgmhggliifkjaaGreat
