import Derived.Test.YtkgmhggliifkjaaGreatP04
namespace Go.Proofs.YtkgmhggliifkjaaGreat
open Go.RowKit Go.Proofs.Tryz
set_option linter.all false
set_option maxHeartbeats 8000000
set_option maxRecDepth 100000
def Bq (x:Int):Prop:=0<=x/\x<=1000
section
variable {w wr:World} {c0 c1 c2 c3 c4:Array Value} {t0 t1 t2 t3 t4:TypeId}
theorem Dz:Ext [] w (((((w.alloc (.cells c0 t0)).alloc (.cells c1 t1)).alloc (.cells c2 t2)).alloc (.cells c3 t3)).alloc (.cells c4 t4)):=
 ((((er.alloc _).alloc _).alloc _).alloc _).alloc _
theorem Bu {n:Nat}(h:JE (((((w.alloc (.cells c0 t0)).alloc (.cells c1 t1)).alloc (.cells c2 t2)).alloc (.cells c3 t3)).alloc (.cells c4 t4)) n wr) :
  (∀i,wr.cell? ⟨w.heap.size,i,none⟩=c0[i]?)/\(∀i,wr.cell? ⟨w.heap.size+1,i,none⟩=c1[i]?)/\(∀i,wr.cell? ⟨w.heap.size+1+1,i,none⟩=c2[i]?)/\(∀i,wr.cell? ⟨w.heap.size+1+1+1,i,none⟩=c3[i]?)/\
   (∀i,wr.cell? ⟨w.heap.size+1+1+1+1,i,none⟩=c4[i]?):=by
 have h':Ext [] _ wr:=h;have b0:=((((Blk.new w t0 c0).alloc (.cells c1 t1)).alloc (.cells c2 t2)).alloc (.cells c3 t3)).alloc (.cells c4 t4);have b1:=(((Blk.new' (w.alloc (.cells c0 t0)) t1 c1 (w.heap.size+1) (by simp)).alloc (.cells c2 t2)).alloc (.cells c3 t3)).alloc (.cells c4 t4);have b2:=((Blk.new' ((w.alloc (.cells c0 t0)).alloc (.cells c1 t1)) t2 c2 (w.heap.size+1+1) (by simp)).alloc (.cells c3 t3)).alloc (.cells c4 t4);have b3:=(Blk.new' (((w.alloc (.cells c0 t0)).alloc (.cells c1 t1)).alloc (.cells c2 t2)) t3 c3 (w.heap.size+1+1+1) (by simp)).alloc (.cells c4 t4);have b4:=Blk.new' ((((w.alloc (.cells c0 t0)).alloc (.cells c1 t1)).alloc (.cells c2 t2)).alloc (.cells c3 t3)) t4 c4 (w.heap.size+1+1+1+1) (by simp);exact⟨(b0.ext h' (by simp)).cell,(b1.ext h' (by simp)).cell,(b2.ext h' (by simp)).cell,(b3.ext h' (by simp)).cell,(b4.ext h' (by simp)).cell⟩
end
theorem Za (m0 m1 m2 m3 m4 k d a b c p n m:Int)(w:World)(hb:Bq m1)(hq:Bq m4)(hl:Bq m3) :
  Calls prog 102 #[.agg #[m0,m1,m2,m3,m4],.agg (Ins.cells ⟨1,k,d,a,b,c,p,n,m⟩).toArray] w (Bb [Ao 68,⟨78,⟨#[]⟩,-2147483648,2147483647⟩] w):=by
 obtain⟨hb0,hb1⟩:=hb;obtain⟨hq0,hq1⟩:=hq;obtain⟨hl0,hl1⟩:=hl;simp only[Ins.cells];go_enter func102,ntmps102
 go_wp2_with fail
 refine rgE 3 [(1,Bv (.agg #[.int .u8 68,.string ⟨#[114]⟩,(0:Int),(15:Int)]))] ?_
 simp only[TK]
 repeat(refine dE (fun wr nr hJ=>by(obtain⟨q0,q1,q2,q3,q4⟩:=Bu hJ);clear hJ;exact CL) ?_;simp only[PT])
 refine Bj rfl rfl ?_ ?_
 ·apply Exists.intro
  apply Exists.intro
  refine⟨fun wr=>?_,fun wr nr hJ=>?_⟩
  ·go_simp
   first|exact⟨rfl,rfl⟩|rfl
  ·exact Bm 68 _
 simp only[PT]
 repeat(refine dE (fun wr nr hJ=>by(obtain⟨q0,q1,q2,q3,q4⟩:=Bu hJ);clear hJ;exact CL) ?_;simp only[PT])
 refine Aa (fun w1 hJ hF=>?_)
 clear hF;go_wp2_with fail
 go_ret
 exact⟨_,_,rfl,RdF.blk (fs:=[Ao 68,⟨78,⟨#[]⟩,-2147483648,2147483647⟩]) (Blk.new _ _ _),(Dz.trans hJ).alloc _⟩
theorem Zb (m0 m1 m2 m3 m4 k d a b c p n m:Int)(w:World)(hb:Bq m1)(hq:Bq m4)(hl:Bq m3) :
  Calls prog 102 #[.agg #[m0,m1,m2,m3,m4],.agg (Ins.cells ⟨3,k,d,a,b,c,p,n,m⟩).toArray] w (Bb [Ao 68,⟨67,⟨#[]⟩,-1000,1000⟩,⟨78,⟨#[]⟩,-2147483648,2147483647⟩,⟨77,⟨#[]⟩,0,1000000⟩] w):=by
 obtain⟨hb0,hb1⟩:=hb;obtain⟨hq0,hq1⟩:=hq;obtain⟨hl0,hl1⟩:=hl;simp only[Ins.cells];go_enter func102,ntmps102
 go_wp2_with fail
 refine rgE 5 [(1,Bv (.agg #[.int .u8 68,.string ⟨#[114]⟩,(0:Int),(15:Int)]))] ?_
 simp only[TK]
 repeat(refine dE (fun wr nr hJ=>by(obtain⟨q0,q1,q2,q3,q4⟩:=Bu hJ);clear hJ;exact CL) ?_;simp only[PT])
 refine Bj rfl rfl ?_ ?_
 ·apply Exists.intro
  apply Exists.intro
  refine⟨fun wr=>?_,fun wr nr hJ=>?_⟩
  ·go_simp
   first|exact⟨rfl,rfl⟩|rfl
  ·exact Bm 68 _
 simp only[PT]
 repeat(refine dE (fun wr nr hJ=>by(obtain⟨q0,q1,q2,q3,q4⟩:=Bu hJ);clear hJ;exact CL) ?_;simp only[PT])
 refine Aa (fun w1 hJ hF=>?_)
 clear hF;go_wp2_with fail
 go_ret
 exact⟨_,_,rfl,RdF.blk (fs:=[Ao 68,⟨67,⟨#[]⟩,-1000,1000⟩,⟨78,⟨#[]⟩,-2147483648,2147483647⟩,⟨77,⟨#[]⟩,0,1000000⟩]) (Blk.new _ _ _),(Dz.trans hJ).alloc _⟩
theorem Zc (m0 m1 m2 m3 m4 k d a b c p n m:Int)(w:World)(hb:Bq m1)(hq:Bq m4)(hl:Bq m3) :
  Calls prog 102 #[.agg #[m0,m1,m2,m3,m4],.agg (Ins.cells ⟨4,k,d,a,b,c,p,n,m⟩).toArray] w (Bb [] w):=by
 obtain⟨hb0,hb1⟩:=hb;obtain⟨hq0,hq1⟩:=hq;obtain⟨hl0,hl1⟩:=hl;simp only[Ins.cells];go_enter func102,ntmps102
 go_wp2_with fail
 go_ret
 refine⟨none,_,rfl,.inl rfl,?_⟩
 exact Dz
theorem Zd (m0 m1 m2 m3 m4 k d a b c p n m:Int)(w:World)(hb:Bq m1)(hq:Bq m4)(hl:Bq m3) :
  Calls prog 102 #[.agg #[m0,m1,m2,m3,m4],.agg (Ins.cells ⟨5,k,d,a,b,c,p,n,m⟩).toArray] w (Bb [Ao 68,Ao 65,⟨78,⟨#[]⟩,-2147483648,2147483647⟩] w):=by
 obtain⟨hb0,hb1⟩:=hb;obtain⟨hq0,hq1⟩:=hq;obtain⟨hl0,hl1⟩:=hl;simp only[Ins.cells];go_enter func102,ntmps102
 go_wp2_with fail
 refine rgE 5 [(1,Bv (.agg #[.int .u8 68,.string ⟨#[114]⟩,(0:Int),(15:Int)])),(3,Bv (.agg #[.int .u8 65,.string ⟨#[114]⟩,(0:Int),(15:Int)]))] ?_
 simp only[TK]
 repeat(refine dE (fun wr nr hJ=>by(obtain⟨q0,q1,q2,q3,q4⟩:=Bu hJ);clear hJ;exact CL) ?_;simp only[PT])
 refine Bj rfl rfl ?_ ?_
 ·apply Exists.intro
  apply Exists.intro
  refine⟨fun wr=>?_,fun wr nr hJ=>?_⟩
  ·go_simp
   first|exact⟨rfl,rfl⟩|rfl
  ·exact Bm 68 _
 simp only[PT]
 repeat(refine dE (fun wr nr hJ=>by(obtain⟨q0,q1,q2,q3,q4⟩:=Bu hJ);clear hJ;exact CL) ?_;simp only[PT])
 refine Bj rfl rfl ?_ ?_
 ·apply Exists.intro
  apply Exists.intro
  refine⟨fun wr=>?_,fun wr nr hJ=>?_⟩
  ·go_simp
   first|exact⟨rfl,rfl⟩|rfl
  ·exact Bm 65 _
 simp only[PT]
 repeat(refine dE (fun wr nr hJ=>by(obtain⟨q0,q1,q2,q3,q4⟩:=Bu hJ);clear hJ;exact CL) ?_;simp only[PT])
 refine Aa (fun w1 hJ hF=>?_)
 clear hF;go_wp2_with fail
 go_ret
 exact⟨_,_,rfl,RdF.blk (fs:=[Ao 68,Ao 65,⟨78,⟨#[]⟩,-2147483648,2147483647⟩]) (Blk.new _ _ _),(Dz.trans hJ).alloc _⟩
theorem Ze (m0 m1 m2 m3 m4 k d a b c p n m:Int)(w:World)(hb:Bq m1)(hq:Bq m4)(hl:Bq m3) :
  Calls prog 102 #[.agg #[m0,m1,m2,m3,m4],.agg (Ins.cells ⟨6,k,d,a,b,c,p,n,m⟩).toArray] w (Bb [Ao 65,Ao 66,⟨78,⟨#[]⟩,-2147483648,2147483647⟩] w):=by
 obtain⟨hb0,hb1⟩:=hb;obtain⟨hq0,hq1⟩:=hq;obtain⟨hl0,hl1⟩:=hl;simp only[Ins.cells];go_enter func102,ntmps102
 go_wp2_with fail
 refine rgE 5 [(1,Bv (.agg #[.int .u8 65,.string ⟨#[114]⟩,(0:Int),(15:Int)])),(3,Bv (.agg #[.int .u8 66,.string ⟨#[114]⟩,(0:Int),(15:Int)]))] ?_
 simp only[TK]
 repeat(refine dE (fun wr nr hJ=>by(obtain⟨q0,q1,q2,q3,q4⟩:=Bu hJ);clear hJ;exact CL) ?_;simp only[PT])
 refine Bj rfl rfl ?_ ?_
 ·apply Exists.intro
  apply Exists.intro
  refine⟨fun wr=>?_,fun wr nr hJ=>?_⟩
  ·go_simp
   first|exact⟨rfl,rfl⟩|rfl
  ·exact Bm 65 _
 simp only[PT]
 repeat(refine dE (fun wr nr hJ=>by(obtain⟨q0,q1,q2,q3,q4⟩:=Bu hJ);clear hJ;exact CL) ?_;simp only[PT])
 refine Bj rfl rfl ?_ ?_
 ·apply Exists.intro
  apply Exists.intro
  refine⟨fun wr=>?_,fun wr nr hJ=>?_⟩
  ·go_simp
   first|exact⟨rfl,rfl⟩|rfl
  ·exact Bm 66 _
 simp only[PT]
 repeat(refine dE (fun wr nr hJ=>by(obtain⟨q0,q1,q2,q3,q4⟩:=Bu hJ);clear hJ;exact CL) ?_;simp only[PT])
 refine Aa (fun w1 hJ hF=>?_)
 clear hF;go_wp2_with fail
 go_ret
 exact⟨_,_,rfl,RdF.blk (fs:=[Ao 65,Ao 66,⟨78,⟨#[]⟩,-2147483648,2147483647⟩]) (Blk.new _ _ _),(Dz.trans hJ).alloc _⟩
theorem Zf (m0 m1 m2 m3 m4 k d a b c p n m:Int)(w:World)(hb:Bq m1)(hq:Bq m4)(hl:Bq m3) :
  Calls prog 102 #[.agg #[m0,m1,m2,m3,m4],.agg (Ins.cells ⟨7,k,d,a,b,c,p,n,m⟩).toArray] w (Bb [Ao 68,Ao 65,⟨67,⟨#[98]⟩,0,m1-1⟩,⟨78,⟨#[]⟩,-2147483648,2147483647⟩] w):=by
 obtain⟨hb0,hb1⟩:=hb;obtain⟨hq0,hq1⟩:=hq;obtain⟨hl0,hl1⟩:=hl;simp only[Ins.cells];go_enter func102,ntmps102
 go_wp2_with fail
 refine rgE 6 [(1,Bv (.agg #[.int .u8 68,.string ⟨#[114]⟩,(0:Int),(15:Int)])),(3,Bv (.agg #[.int .u8 65,.string ⟨#[114]⟩,(0:Int),(15:Int)]))] ?_
 simp only[TK]
 repeat(refine dE (fun wr nr hJ=>by(obtain⟨q0,q1,q2,q3,q4⟩:=Bu hJ);clear hJ;exact CL) ?_;simp only[PT])
 refine Bj rfl rfl ?_ ?_
 ·apply Exists.intro
  apply Exists.intro
  refine⟨fun wr=>?_,fun wr nr hJ=>?_⟩
  ·go_simp
   first|exact⟨rfl,rfl⟩|rfl
  ·exact Bm 68 _
 simp only[PT]
 repeat(refine dE (fun wr nr hJ=>by(obtain⟨q0,q1,q2,q3,q4⟩:=Bu hJ);clear hJ;exact CL) ?_;simp only[PT])
 refine Bj rfl rfl ?_ ?_
 ·apply Exists.intro
  apply Exists.intro
  refine⟨fun wr=>?_,fun wr nr hJ=>?_⟩
  ·go_simp
   first|exact⟨rfl,rfl⟩|rfl
  ·exact Bm 65 _
 simp only[PT]
 repeat(refine dE (fun wr nr hJ=>by(obtain⟨q0,q1,q2,q3,q4⟩:=Bu hJ);clear hJ;exact CL) ?_;simp only[PT])
 refine Aa (fun w1 hJ hF=>?_)
 clear hF;go_wp2_with fail
 go_ret
 exact⟨_,_,rfl,RdF.blk (fs:=[Ao 68,Ao 65,⟨67,⟨#[98]⟩,0,m1-1⟩,⟨78,⟨#[]⟩,-2147483648,2147483647⟩]) (Blk.new _ _ _),(Dz.trans hJ).alloc _⟩
theorem Zg (m0 m1 m2 m3 m4 k d a b c p n m:Int)(w:World)(hb:Bq m1)(hq:Bq m4)(hl:Bq m3) :
  Calls prog 102 #[.agg #[m0,m1,m2,m3,m4],.agg (Ins.cells ⟨8,k,d,a,b,c,p,n,m⟩).toArray] w (Bb [Ao 65,Ao 66,⟨67,⟨#[98]⟩,0,m1-1⟩,⟨78,⟨#[]⟩,-2147483648,2147483647⟩] w):=by
 obtain⟨hb0,hb1⟩:=hb;obtain⟨hq0,hq1⟩:=hq;obtain⟨hl0,hl1⟩:=hl;simp only[Ins.cells];go_enter func102,ntmps102
 go_wp2_with fail
 refine rgE 6 [(1,Bv (.agg #[.int .u8 65,.string ⟨#[114]⟩,(0:Int),(15:Int)])),(3,Bv (.agg #[.int .u8 66,.string ⟨#[114]⟩,(0:Int),(15:Int)]))] ?_
 simp only[TK]
 repeat(refine dE (fun wr nr hJ=>by(obtain⟨q0,q1,q2,q3,q4⟩:=Bu hJ);clear hJ;exact CL) ?_;simp only[PT])
 refine Bj rfl rfl ?_ ?_
 ·apply Exists.intro
  apply Exists.intro
  refine⟨fun wr=>?_,fun wr nr hJ=>?_⟩
  ·go_simp
   first|exact⟨rfl,rfl⟩|rfl
  ·exact Bm 65 _
 simp only[PT]
 repeat(refine dE (fun wr nr hJ=>by(obtain⟨q0,q1,q2,q3,q4⟩:=Bu hJ);clear hJ;exact CL) ?_;simp only[PT])
 refine Bj rfl rfl ?_ ?_
 ·apply Exists.intro
  apply Exists.intro
  refine⟨fun wr=>?_,fun wr nr hJ=>?_⟩
  ·go_simp
   first|exact⟨rfl,rfl⟩|rfl
  ·exact Bm 66 _
 simp only[PT]
 repeat(refine dE (fun wr nr hJ=>by(obtain⟨q0,q1,q2,q3,q4⟩:=Bu hJ);clear hJ;exact CL) ?_;simp only[PT])
 refine Aa (fun w1 hJ hF=>?_)
 clear hF;go_wp2_with fail
 go_ret
 exact⟨_,_,rfl,RdF.blk (fs:=[Ao 65,Ao 66,⟨67,⟨#[98]⟩,0,m1-1⟩,⟨78,⟨#[]⟩,-2147483648,2147483647⟩]) (Blk.new _ _ _),(Dz.trans hJ).alloc _⟩
theorem Zh (m0 m1 m2 m3 m4 k d a b c p n m:Int)(w:World)(hb:Bq m1)(hq:Bq m4)(hl:Bq m3) :
  Calls prog 102 #[.agg #[m0,m1,m2,m3,m4],.agg (Ins.cells ⟨9,k,d,a,b,c,p,n,m⟩).toArray] w (Bb [Ba 68,Ao 65,⟨67,⟨#[98]⟩,0,m1-1⟩,⟨78,⟨#[]⟩,-2147483648,2147483647⟩] w):=by
 obtain⟨hb0,hb1⟩:=hb;obtain⟨hq0,hq1⟩:=hq;obtain⟨hl0,hl1⟩:=hl;simp only[Ins.cells];go_enter func102,ntmps102
 go_wp2_with fail
 refine rgE 6 [(1,Bv (.agg #[.int .u8 68,.string ⟨#[118]⟩,(0:Int),(7:Int)])),(3,Bv (.agg #[.int .u8 65,.string ⟨#[114]⟩,(0:Int),(15:Int)]))] ?_
 simp only[TK]
 repeat(refine dE (fun wr nr hJ=>by(obtain⟨q0,q1,q2,q3,q4⟩:=Bu hJ);clear hJ;exact CL) ?_;simp only[PT])
 refine Bj rfl rfl ?_ ?_
 ·apply Exists.intro
  apply Exists.intro
  refine⟨fun wr=>?_,fun wr nr hJ=>?_⟩
  ·go_simp
   first|exact⟨rfl,rfl⟩|rfl
  ·exact Cp 68 _
 simp only[PT]
 repeat(refine dE (fun wr nr hJ=>by(obtain⟨q0,q1,q2,q3,q4⟩:=Bu hJ);clear hJ;exact CL) ?_;simp only[PT])
 refine Bj rfl rfl ?_ ?_
 ·apply Exists.intro
  apply Exists.intro
  refine⟨fun wr=>?_,fun wr nr hJ=>?_⟩
  ·go_simp
   first|exact⟨rfl,rfl⟩|rfl
  ·exact Bm 65 _
 simp only[PT]
 repeat(refine dE (fun wr nr hJ=>by(obtain⟨q0,q1,q2,q3,q4⟩:=Bu hJ);clear hJ;exact CL) ?_;simp only[PT])
 refine Aa (fun w1 hJ hF=>?_)
 clear hF;go_wp2_with fail
 go_ret
 exact⟨_,_,rfl,RdF.blk (fs:=[Ba 68,Ao 65,⟨67,⟨#[98]⟩,0,m1-1⟩,⟨78,⟨#[]⟩,-2147483648,2147483647⟩]) (Blk.new _ _ _),(Dz.trans hJ).alloc _⟩
theorem Wo (m0 m1 m2 m3 m4 k d a b c p n m:Int)(w:World)(hb:Bq m1)(hq:Bq m4)(hl:Bq m3) :
  Calls prog 102 #[.agg #[m0,m1,m2,m3,m4],.agg (Ins.cells ⟨10,k,d,a,b,c,p,n,m⟩).toArray] w (Bb [Ao 65,Ba 66,⟨67,⟨#[98]⟩,0,m1-1⟩,⟨78,⟨#[]⟩,-2147483648,2147483647⟩] w):=by
 obtain⟨hb0,hb1⟩:=hb;obtain⟨hq0,hq1⟩:=hq;obtain⟨hl0,hl1⟩:=hl;simp only[Ins.cells];go_enter func102,ntmps102
 go_wp2_with fail
 refine rgE 6 [(1,Bv (.agg #[.int .u8 65,.string ⟨#[114]⟩,(0:Int),(15:Int)])),(3,Bv (.agg #[.int .u8 66,.string ⟨#[118]⟩,(0:Int),(7:Int)]))] ?_
 simp only[TK]
 repeat(refine dE (fun wr nr hJ=>by(obtain⟨q0,q1,q2,q3,q4⟩:=Bu hJ);clear hJ;exact CL) ?_;simp only[PT])
 refine Bj rfl rfl ?_ ?_
 ·apply Exists.intro
  apply Exists.intro
  refine⟨fun wr=>?_,fun wr nr hJ=>?_⟩
  ·go_simp
   first|exact⟨rfl,rfl⟩|rfl
  ·exact Bm 65 _
 simp only[PT]
 repeat(refine dE (fun wr nr hJ=>by(obtain⟨q0,q1,q2,q3,q4⟩:=Bu hJ);clear hJ;exact CL) ?_;simp only[PT])
 refine Bj rfl rfl ?_ ?_
 ·apply Exists.intro
  apply Exists.intro
  refine⟨fun wr=>?_,fun wr nr hJ=>?_⟩
  ·go_simp
   first|exact⟨rfl,rfl⟩|rfl
  ·exact Cp 66 _
 simp only[PT]
 repeat(refine dE (fun wr nr hJ=>by(obtain⟨q0,q1,q2,q3,q4⟩:=Bu hJ);clear hJ;exact CL) ?_;simp only[PT])
 refine Aa (fun w1 hJ hF=>?_)
 clear hF;go_wp2_with fail
 go_ret
 exact⟨_,_,rfl,RdF.blk (fs:=[Ao 65,Ba 66,⟨67,⟨#[98]⟩,0,m1-1⟩,⟨78,⟨#[]⟩,-2147483648,2147483647⟩]) (Blk.new _ _ _),(Dz.trans hJ).alloc _⟩
theorem Wp (m0 m1 m2 m3 m4 k d a b c p n m:Int)(w:World)(hb:Bq m1)(hq:Bq m4)(hl:Bq m3) :
  Calls prog 102 #[.agg #[m0,m1,m2,m3,m4],.agg (Ins.cells ⟨12,k,d,a,b,c,p,n,m⟩).toArray] w (Bb [Ba 68,Ao 65] w):=by
 obtain⟨hb0,hb1⟩:=hb;obtain⟨hq0,hq1⟩:=hq;obtain⟨hl0,hl1⟩:=hl;simp only[Ins.cells];go_enter func102,ntmps102
 go_wp2_with fail
 refine(Cp 68 _).mono ?_
 rintro e w68 ⟨rfl,hE68⟩;go_wp2_with fail
 refine(Bm 65 _).mono ?_
 rintro e w65 ⟨rfl,hE65⟩;go_wp2_with fail
 go_ret
 refine⟨_,_,rfl,RdF.blk (fs:=[Ba 68,Ao 65]) (Blk.new' _ _ _ _ (by simp)),?_⟩
 exact(((Dz.trans hE68).trans hE65)).alloc _
theorem Wq (m0 m1 m2 m3 m4 k d a b c p n m:Int)(w:World)(hb:Bq m1)(hq:Bq m4)(hl:Bq m3) :
  Calls prog 102 #[.agg #[m0,m1,m2,m3,m4],.agg (Ins.cells ⟨13,k,d,a,b,c,p,n,m⟩).toArray] w (Bb [Ao 68,Ba 65,⟨78,⟨#[]⟩,0,m3-1⟩] w):=by
 obtain⟨hb0,hb1⟩:=hb;obtain⟨hq0,hq1⟩:=hq;obtain⟨hl0,hl1⟩:=hl;simp only[Ins.cells];go_enter func102,ntmps102
 go_wp2_with fail
 refine rgE 8 [(1,Bv (.agg #[.int .u8 68,.string ⟨#[114]⟩,(0:Int),(15:Int)])),(3,Bv (.agg #[.int .u8 65,.string ⟨#[118]⟩,(0:Int),(7:Int)]))] ?_
 simp only[TK]
 repeat(refine dE (fun wr nr hJ=>by(obtain⟨q0,q1,q2,q3,q4⟩:=Bu hJ);clear hJ;exact CL) ?_;simp only[PT])
 refine Bj rfl rfl ?_ ?_
 ·apply Exists.intro
  apply Exists.intro
  refine⟨fun wr=>?_,fun wr nr hJ=>?_⟩
  ·go_simp
   first|exact⟨rfl,rfl⟩|rfl
  ·exact Bm 68 _
 simp only[PT]
 repeat(refine dE (fun wr nr hJ=>by(obtain⟨q0,q1,q2,q3,q4⟩:=Bu hJ);clear hJ;exact CL) ?_;simp only[PT])
 refine Bj rfl rfl ?_ ?_
 ·apply Exists.intro
  apply Exists.intro
  refine⟨fun wr=>?_,fun wr nr hJ=>?_⟩
  ·go_simp
   first|exact⟨rfl,rfl⟩|rfl
  ·exact Cp 65 _
 simp only[PT]
 repeat(refine dE (fun wr nr hJ=>by(obtain⟨q0,q1,q2,q3,q4⟩:=Bu hJ);clear hJ;exact CL) ?_;simp only[PT])
 refine Aa (fun w1 hJ hF=>?_)
 clear hF;go_wp2_with fail
 go_ret
 exact⟨_,_,rfl,RdF.blk (fs:=[Ao 68,Ba 65,⟨78,⟨#[]⟩,0,m3-1⟩]) (Blk.new _ _ _),(Dz.trans hJ).alloc _⟩
theorem Wr (m0 m1 m2 m3 m4 k d a b c p n m:Int)(w:World)(hb:Bq m1)(hq:Bq m4)(hl:Bq m3) :
  Calls prog 102 #[.agg #[m0,m1,m2,m3,m4],.agg (Ins.cells ⟨14,k,d,a,b,c,p,n,m⟩).toArray] w (Bb [Ao 65,⟨67,⟨#[98]⟩,0,m1-1⟩,⟨78,⟨#[]⟩,-2147483648,2147483647⟩,⟨77,⟨#[]⟩,0,m2⟩] w):=by
 obtain⟨hb0,hb1⟩:=hb;obtain⟨hq0,hq1⟩:=hq;obtain⟨hl0,hl1⟩:=hl;simp only[Ins.cells];go_enter func102,ntmps102
 go_wp2_with fail
 refine rgE 7 [(1,Bv (.agg #[.int .u8 65,.string ⟨#[114]⟩,(0:Int),(15:Int)]))] ?_
 simp only[TK]
 repeat(refine dE (fun wr nr hJ=>by(obtain⟨q0,q1,q2,q3,q4⟩:=Bu hJ);clear hJ;exact CL) ?_;simp only[PT])
 refine Bj rfl rfl ?_ ?_
 ·apply Exists.intro
  apply Exists.intro
  refine⟨fun wr=>?_,fun wr nr hJ=>?_⟩
  ·go_simp
   first|exact⟨rfl,rfl⟩|rfl
  ·exact Bm 65 _
 simp only[PT]
 repeat(refine dE (fun wr nr hJ=>by(obtain⟨q0,q1,q2,q3,q4⟩:=Bu hJ);clear hJ;exact CL) ?_;simp only[PT])
 refine Aa (fun w1 hJ hF=>?_)
 clear hF;go_wp2_with fail
 go_ret
 exact⟨_,_,rfl,RdF.blk (fs:=[Ao 65,⟨67,⟨#[98]⟩,0,m1-1⟩,⟨78,⟨#[]⟩,-2147483648,2147483647⟩,⟨77,⟨#[]⟩,0,m2⟩]) (Blk.new _ _ _),(Dz.trans hJ).alloc _⟩
theorem Ws (m0 m1 m2 m3 m4 k d a b c p n m:Int)(w:World)(hb:Bq m1)(hq:Bq m4)(hl:Bq m3) :
  Calls prog 102 #[.agg #[m0,m1,m2,m3,m4],.agg (Ins.cells ⟨15,k,d,a,b,c,p,n,m⟩).toArray] w (Bb [Ba 65] w):=by
 obtain⟨hb0,hb1⟩:=hb;obtain⟨hq0,hq1⟩:=hq;obtain⟨hl0,hl1⟩:=hl;simp only[Ins.cells];go_enter func102,ntmps102
 go_wp2_with fail
 refine(Cp 65 _).mono ?_
 rintro e w65 ⟨rfl,hE65⟩;go_wp2_with fail
 go_ret
 refine⟨_,_,rfl,RdF.blk (fs:=[Ba 65]) (Blk.new' _ _ _ _ (by simp)),?_⟩
 exact((Dz.trans hE65)).alloc _
theorem Wt (m0 m1 m2 m3 m4 k d a b c p n m:Int)(w:World)(hb:Bq m1)(hq:Bq m4)(hl:Bq m3) :
  Calls prog 102 #[.agg #[m0,m1,m2,m3,m4],.agg (Ins.cells ⟨16,k,d,a,b,c,p,n,m⟩).toArray] w (Bb [] w):=by
 obtain⟨hb0,hb1⟩:=hb;obtain⟨hq0,hq1⟩:=hq;obtain⟨hl0,hl1⟩:=hl;simp only[Ins.cells];go_enter func102,ntmps102
 go_wp2_with fail
 go_ret
 refine⟨none,_,rfl,.inl rfl,?_⟩
 exact Dz
theorem Wu (m0 m1 m2 m3 m4 k d a b c p n m:Int)(w:World)(hb:Bq m1)(hq:Bq m4)(hl:Bq m3) :
  Calls prog 102 #[.agg #[m0,m1,m2,m3,m4],.agg (Ins.cells ⟨17,k,d,a,b,c,p,n,m⟩).toArray] w (Bb [Ba 68] w):=by
 obtain⟨hb0,hb1⟩:=hb;obtain⟨hq0,hq1⟩:=hq;obtain⟨hl0,hl1⟩:=hl;simp only[Ins.cells];go_enter func102,ntmps102
 go_wp2_with fail
 refine(Cp 68 _).mono ?_
 rintro e w68 ⟨rfl,hE68⟩;go_wp2_with fail
 go_ret
 refine⟨_,_,rfl,RdF.blk (fs:=[Ba 68]) (Blk.new' _ _ _ _ (by simp)),?_⟩
 exact((Dz.trans hE68)).alloc _
theorem Wv (m0 m1 m2 m3 m4 k d a b c p n m:Int)(w:World)(hb:Bq m1)(hq:Bq m4)(hl:Bq m3) :
  Calls prog 102 #[.agg #[m0,m1,m2,m3,m4],.agg (Ins.cells ⟨18,k,d,a,b,c,p,n,m⟩).toArray] w (Bb [⟨68,⟨#[113]⟩,0,m4-1⟩,Ao 65,Ao 66,⟨67,⟨#[98]⟩,0,m1-1⟩,⟨78,⟨#[]⟩,-2147483648,2147483647⟩,⟨77,⟨#[]⟩,1,m2⟩] w):=by
 obtain⟨hb0,hb1⟩:=hb;obtain⟨hq0,hq1⟩:=hq;obtain⟨hl0,hl1⟩:=hl;simp only[Ins.cells];go_enter func102,ntmps102
 go_wp2_with fail
 refine rgE 10 [(2,Bv (.agg #[.int .u8 65,.string ⟨#[114]⟩,(0:Int),(15:Int)])),(4,Bv (.agg #[.int .u8 66,.string ⟨#[114]⟩,(0:Int),(15:Int)]))] ?_
 simp only[TK]
 repeat(refine dE (fun wr nr hJ=>by(obtain⟨q0,q1,q2,q3,q4⟩:=Bu hJ);clear hJ;exact CL) ?_;simp only[PT])
 refine Bj rfl rfl ?_ ?_
 ·apply Exists.intro
  apply Exists.intro
  refine⟨fun wr=>?_,fun wr nr hJ=>?_⟩
  ·go_simp
   first|exact⟨rfl,rfl⟩|rfl
  ·exact Bm 65 _
 simp only[PT]
 repeat(refine dE (fun wr nr hJ=>by(obtain⟨q0,q1,q2,q3,q4⟩:=Bu hJ);clear hJ;exact CL) ?_;simp only[PT])
 refine Bj rfl rfl ?_ ?_
 ·apply Exists.intro
  apply Exists.intro
  refine⟨fun wr=>?_,fun wr nr hJ=>?_⟩
  ·go_simp
   first|exact⟨rfl,rfl⟩|rfl
  ·exact Bm 66 _
 simp only[PT]
 repeat(refine dE (fun wr nr hJ=>by(obtain⟨q0,q1,q2,q3,q4⟩:=Bu hJ);clear hJ;exact CL) ?_;simp only[PT])
 refine Aa (fun w1 hJ hF=>?_)
 clear hF;go_wp2_with fail
 go_ret
 exact⟨_,_,rfl,RdF.blk (fs:=[⟨68,⟨#[113]⟩,0,m4-1⟩,Ao 65,Ao 66,⟨67,⟨#[98]⟩,0,m1-1⟩,⟨78,⟨#[]⟩,-2147483648,2147483647⟩,⟨77,⟨#[]⟩,1,m2⟩]) (Blk.new _ _ _),(Dz.trans hJ).alloc _⟩
theorem Ww (m0 m1 m2 m3 m4 k d a b c p n m:Int)(w:World)(hb:Bq m1)(hq:Bq m4)(hl:Bq m3) :
  Calls prog 102 #[.agg #[m0,m1,m2,m3,m4],.agg (Ins.cells ⟨19,k,d,a,b,c,p,n,m⟩).toArray] w (Bb [⟨68,⟨#[113]⟩,0,m4-1⟩] w):=by
 obtain⟨hb0,hb1⟩:=hb;obtain⟨hq0,hq1⟩:=hq;obtain⟨hl0,hl1⟩:=hl;simp only[Ins.cells];go_enter func102,ntmps102
 go_wp2_with fail
 go_ret
 refine⟨_,_,rfl,RdF.blk (fs:=[⟨68,⟨#[113]⟩,0,m4-1⟩]) (Blk.new' _ _ _ _ (by simp)),?_⟩
 exact((Dz)).alloc _
end Go.Proofs.YtkgmhggliifkjaaGreat
