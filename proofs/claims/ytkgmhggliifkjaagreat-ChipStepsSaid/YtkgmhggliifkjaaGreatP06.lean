import Derived.Test.YtkgmhggliifkjaaGreatP04
namespace Go.Proofs.YtkgmhggliifkjaaGreat
open Go.RowKit Go.Proofs.Tryz
set_option linter.all false
set_option maxHeartbeats 8000000
set_option maxRecDepth 100000
def Sg:Fld:=⟨78,⟨#[]⟩,-2147483648,2147483647⟩
def Cc (k:Int)(f:Int->Fld):List Fld:=
 if k=15 then [f 68,f 65,f 66,f 67]
 else if inR k 4 10 then [f 68,f 65,f 66]
 else if k=12 then [f 68,f 65,Sg,⟨77,⟨#[]⟩,-2147483648,2147483647⟩]
 else if k=13 then [f 68,f 65,⟨78,⟨#[]⟩,1,31⟩]
 else if k=14 then [f 68,f 65,⟨78,⟨#[]⟩,1,2147483647⟩]
 else [f 68,f 65]
theorem Ds {w1:World}(base:Nat)(fs:List Fld)(n:Nat)(hn:fs.length=n)(hm:n<=maxLen)(hb:base<=w1.heap.size) :
  (w1.alloc (.cells (Al fs).toArray 154)).ownsRow base 154 4 (.slice (some w1.heap.size) n n) n (Al fs):=by
 have:=World.ownsRow_lit (base:=base) (e:=154) (size:=4) w1 (Al fs).toArray n hb hm (by rw[<-hn];simpa using Lf fs);simpa using this
theorem Em {w wa wb w':World}{v:Value}{n:Nat}{xs:List Value}(h:Ext [] w wa)(ho:wa.ownsRow w.heap.size 154 4 v n xs)(hE:Ext [] wa wb)(hg:wb.grownBy w' v.ownBlock):Ext [] w w':=
 (h.trans hE).grown hg (fun k hk=>.inr (ho.lt k hk).1)
theorem Sh (w:World) :
  Calls prog 125 #[(15:Int),.func (.func 123) #[] #[]] w (Bb [Ao 68,Ao 65,Ao 66,Ao 67] w):=by
 have H1:Hd (inR 15 4 15=true):=hd rfl;have H2:Hd (Jv 15=3):=hd rfl;obtain⟨i0,hi0,hz0,hz1,hz2⟩:=info_parts (show((prog).info? 154).map (fun i=>(i.zero,i.size,i.bytes))=some (some (.agg #[.int .u8 0,.string ⟨#[]⟩,(0:Int),(0:Int)]),4,40) by kernel_rfl);go_enter func125,ntmps125
 go_wp2_with fail
 refine(Bm 68 _).mono ?_
 rintro e w1 ⟨rfl,hE1⟩;go_wp2_with fail
 refine(Bm 65 _).mono ?_
 rintro e w2 ⟨rfl,hE2⟩;have HO0:=hd (Ds (w1:=w2) w.heap.size [Ao 68,Ao 65] 2 rfl (by decide) (by have:=(hE1.trans hE2).size;omega));have HE0:=hd ((hE1.trans hE2).alloc (.cells (Al [Ao 68,Ao 65]).toArray 154));clear hE1 hE2;go_wp2_with fail
 refine(Bs _ _).mono ?_
 rintro e w3 ⟨rfl,rfl⟩;rw[H1.o];go_wp2_with fail
 refine(Cj _ _).mono ?_
 rintro e w3 ⟨rfl,rfl⟩;rw[H2.o];go_wp2_with fail
 refine(Bm 66 _).mono ?_
 rintro e wr0 ⟨rfl,hJ0⟩
 go_wp2_with (
  refine wpList_append_lies _ rfl _ _ 150 rfl w.heap.size 154 i0 _ 4 40 underlying150 hi0 hz0 hz1 hz2 rfl (by decide) _ _ _ rfl ((An HO0.o hJ0 (by simp)).alloc _) ⟨wr0.heap.size,0,none⟩ 1 1 (Al [Ao 66]) rfl rfl ?c1 ?c2 (by decide) (by decide) (by decide) ?c5 _ rfl ?_
  case c1=>exact World.news_of_block (Blk.new' _ _ ((Al [Ao 66])).toArray _ (by simp))
  case c2=>intro u hu;simp[Al,Fld.cells,Ao,Ba] at hu;rcases hu with rfl|rfl|rfl|rfl<;>rfl
  case c5=>have q1:=HE0.o.size;have q2:=Ext.size hJ0;simp at *;omega
  intro g0 cap0 v0 ho hg ha hlt;have HE1:=hd (Em HE0.o HO0.o (Ext.alloc hJ0 _) hg);have HO1:=hd (show v0.ownsRow w.heap.size 154 4 (.slice (some g0) 3 cap0) 3 (Al [Ao 68,Ao 65,Ao 66]) from ho);clear ho hg ha)
 refine(Cj _ _).mono ?_
 rintro e w4 ⟨rfl,rfl⟩;rw[H2.o];go_wp2_with fail
 refine(Bm 67 _).mono ?_
 rintro e wr1 ⟨rfl,hJ1⟩
 go_wp2_with (
  refine wpList_append_lies _ rfl _ _ 150 rfl w.heap.size 154 i0 _ 4 40 underlying150 hi0 hz0 hz1 hz2 rfl (by decide) _ _ _ rfl ((An HO1.o hJ1 (by simp)).alloc _) ⟨wr1.heap.size,0,none⟩ 1 1 (Al [Ao 67]) rfl rfl ?c1 ?c2 (by decide) (by decide) (by decide) ?c5 _ rfl ?_
  case c1=>exact World.news_of_block (Blk.new' _ _ ((Al [Ao 67])).toArray _ (by simp))
  case c2=>intro u hu;simp[Al,Fld.cells,Ao,Ba] at hu;rcases hu with rfl|rfl|rfl|rfl<;>rfl
  case c5=>have q1:=HE1.o.size;have q2:=Ext.size hJ1;simp at *;omega
  intro g1 cap1 v1 ho hg ha hlt;have HE2:=hd (Em HE1.o HO1.o (Ext.alloc hJ1 _) hg);have HO2:=hd (show v1.ownsRow w.heap.size 154 4 (.slice (some g1) 4 cap1) 4 (Al [Ao 68,Ao 65,Ao 66,Ao 67]) from ho);clear ho hg ha)
 go_ret
 exact⟨_,_,rfl,RdF.own (fs:=[Ao 68,Ao 65,Ao 66,Ao 67]) HO2.o,HE2.o⟩
theorem Qu (k:Int)(hk:inR k 4 10=true)(w:World) :
  Calls prog 125 #[k,.func (.func 123) #[] #[]] w (Bb [Ao 68,Ao 65,Ao 66] w):=by
 have H1:Hd (inR k 4 15=true):=hd (by rw[Bi] at *;omega);have H2:Hd (Jv k=2):=hd (by rw[Bi] at hk;unfold Jv;rw[ijn (by omega),ijn (by omega)]);have h12:(k==12)=false:=by rw[Bi] at hk;simp;omega
 have h13:(k==13)=false:=by rw[Bi] at hk;simp;omega
 have h14:(k==14)=false:=by rw[Bi] at hk;simp;omega
 clear hk;obtain⟨i0,hi0,hz0,hz1,hz2⟩:=info_parts (show((prog).info? 154).map (fun i=>(i.zero,i.size,i.bytes))=some (some (.agg #[.int .u8 0,.string ⟨#[]⟩,(0:Int),(0:Int)]),4,40) by kernel_rfl);go_enter func125,ntmps125
 go_wp2_with fail
 refine(Bm 68 _).mono ?_
 rintro e w1 ⟨rfl,hE1⟩;go_wp2_with fail
 refine(Bm 65 _).mono ?_
 rintro e w2 ⟨rfl,hE2⟩;have HO0:=hd (Ds (w1:=w2) w.heap.size [Ao 68,Ao 65] 2 rfl (by decide) (by have:=(hE1.trans hE2).size;omega));have HE0:=hd ((hE1.trans hE2).alloc (.cells (Al [Ao 68,Ao 65]).toArray 154));clear hE1 hE2;go_wp2_with fail
 refine(Bs _ _).mono ?_
 rintro e w3 ⟨rfl,rfl⟩;rw[H1.o];go_wp2_with fail
 refine(Cj _ _).mono ?_
 rintro e w3 ⟨rfl,rfl⟩;rw[H2.o];go_wp2_with fail
 refine(Bm 66 _).mono ?_
 rintro e wr0 ⟨rfl,hJ0⟩
 go_wp2_with (
  refine wpList_append_lies _ rfl _ _ 150 rfl w.heap.size 154 i0 _ 4 40 underlying150 hi0 hz0 hz1 hz2 rfl (by decide) _ _ _ rfl ((An HO0.o hJ0 (by simp)).alloc _) ⟨wr0.heap.size,0,none⟩ 1 1 (Al [Ao 66]) rfl rfl ?c1 ?c2 (by decide) (by decide) (by decide) ?c5 _ rfl ?_
  case c1=>exact World.news_of_block (Blk.new' _ _ ((Al [Ao 66])).toArray _ (by simp))
  case c2=>intro u hu;simp[Al,Fld.cells,Ao,Ba] at hu;rcases hu with rfl|rfl|rfl|rfl<;>rfl
  case c5=>have q1:=HE0.o.size;have q2:=Ext.size hJ0;simp at *;omega
  intro g0 cap0 v0 ho hg ha hlt;have HE1:=hd (Em HE0.o HO0.o (Ext.alloc hJ0 _) hg);have HO1:=hd (show v0.ownsRow w.heap.size 154 4 (.slice (some g0) 3 cap0) 3 (Al [Ao 68,Ao 65,Ao 66]) from ho);clear ho hg ha)
 refine(Cj _ _).mono ?_
 rintro e w4 ⟨rfl,rfl⟩;rw[H2.o];go_wp2_with fail
 go_ret
 exact⟨_,_,rfl,RdF.own (fs:=[Ao 68,Ao 65,Ao 66]) HO1.o,HE1.o⟩
theorem Si (w:World) :
  Calls prog 125 #[(11:Int),.func (.func 123) #[] #[]] w (Bb [Ao 68,Ao 65] w):=by
 have H1:Hd (inR 11 4 15=true):=hd rfl;have H2:Hd (Jv 11=1):=hd rfl;go_enter func125,ntmps125
 go_wp2_with fail
 refine(Bm 68 _).mono ?_
 rintro e w1 ⟨rfl,hE1⟩;go_wp2_with fail
 refine(Bm 65 _).mono ?_
 rintro e w2 ⟨rfl,hE2⟩;have HO0:=hd (Ds (w1:=w2) w.heap.size [Ao 68,Ao 65] 2 rfl (by decide) (by have:=(hE1.trans hE2).size;omega));have HE0:=hd ((hE1.trans hE2).alloc (.cells (Al [Ao 68,Ao 65]).toArray 154));clear hE1 hE2;go_wp2_with fail
 refine(Bs _ _).mono ?_
 rintro e w3 ⟨rfl,rfl⟩;rw[H1.o];go_wp2_with fail
 refine(Cj _ _).mono ?_
 rintro e w3 ⟨rfl,rfl⟩;rw[H2.o];go_wp2_with fail
 refine(Cj _ _).mono ?_
 rintro e w4 ⟨rfl,rfl⟩;rw[H2.o];go_wp2_with fail
 go_ret
 exact⟨_,_,rfl,RdF.blk (fs:=[Ao 68,Ao 65]) (Blk.new _ _ _),HE0.o⟩
theorem Sj (w:World) :
  Calls prog 125 #[(12:Int),.func (.func 123) #[] #[]] w (Bb [Ao 68,Ao 65,⟨78,⟨#[]⟩,-2147483648,2147483647⟩,⟨77,⟨#[]⟩,-2147483648,2147483647⟩] w):=by
 have H1:Hd (inR 12 4 15=true):=hd rfl;have H2:Hd (Jv 12=1):=hd rfl;obtain⟨i0,hi0,hz0,hz1,hz2⟩:=info_parts (show((prog).info? 154).map (fun i=>(i.zero,i.size,i.bytes))=some (some (.agg #[.int .u8 0,.string ⟨#[]⟩,(0:Int),(0:Int)]),4,40) by kernel_rfl);go_enter func125,ntmps125
 go_wp2_with fail
 refine(Bm 68 _).mono ?_
 rintro e w1 ⟨rfl,hE1⟩;go_wp2_with fail
 refine(Bm 65 _).mono ?_
 rintro e w2 ⟨rfl,hE2⟩;have HO0:=hd (Ds (w1:=w2) w.heap.size [Ao 68,Ao 65] 2 rfl (by decide) (by have:=(hE1.trans hE2).size;omega));have HE0:=hd ((hE1.trans hE2).alloc (.cells (Al [Ao 68,Ao 65]).toArray 154));clear hE1 hE2;go_wp2_with fail
 refine(Bs _ _).mono ?_
 rintro e w3 ⟨rfl,rfl⟩;rw[H1.o];go_wp2_with fail
 refine(Cj _ _).mono ?_
 rintro e w3 ⟨rfl,rfl⟩;rw[H2.o];go_wp2_with fail
 refine(Cj _ _).mono ?_
 rintro e w4 ⟨rfl,rfl⟩;rw[H2.o]
 go_wp2_with (
  refine wpList_append_lies _ rfl _ _ 150 rfl w.heap.size 154 i0 _ 4 40 underlying150 hi0 hz0 hz1 hz2 rfl (by decide) _ _ _ rfl ((An HO0.o (Ext.refl [] _) (by simp)).alloc _) ⟨w2.heap.size+1,0,none⟩ 2 2 (Al [⟨78,⟨#[]⟩,-2147483648,2147483647⟩,⟨77,⟨#[]⟩,-2147483648,2147483647⟩]) rfl rfl ?c1 ?c2 (by decide) (by decide) (by decide) ?c5 _ rfl ?_
  case c1=>exact World.news_of_block (Blk.new' _ _ ((Al [⟨78,⟨#[]⟩,-2147483648,2147483647⟩,⟨77,⟨#[]⟩,-2147483648,2147483647⟩])).toArray _ (by simp))
  case c2=>intro u hu;simp[Al,Fld.cells,Ao,Ba] at hu;rcases hu with rfl|rfl|rfl|rfl|rfl|rfl|rfl|rfl<;>rfl
  case c5=>have q1:=HE0.o.size;simp at *;omega
  intro g0 cap0 v0 ho hg ha hlt;have HE1:=hd (Em HE0.o HO0.o (Ext.alloc (Ext.refl [] _) _) hg);have HO1:=hd (show v0.ownsRow w.heap.size 154 4 (.slice (some g0) 4 cap0) 4 (Al [Ao 68,Ao 65,⟨78,⟨#[]⟩,-2147483648,2147483647⟩,⟨77,⟨#[]⟩,-2147483648,2147483647⟩]) from ho);clear ho hg ha)
 go_ret
 exact⟨_,_,rfl,RdF.own (fs:=[Ao 68,Ao 65,⟨78,⟨#[]⟩,-2147483648,2147483647⟩,⟨77,⟨#[]⟩,-2147483648,2147483647⟩]) HO1.o,HE1.o⟩
theorem Sk (w:World) :
  Calls prog 125 #[(13:Int),.func (.func 123) #[] #[]] w (Bb [Ao 68,Ao 65,⟨78,⟨#[]⟩,1,31⟩] w):=by
 have H1:Hd (inR 13 4 15=true):=hd rfl;have H2:Hd (Jv 13=1):=hd rfl;obtain⟨i0,hi0,hz0,hz1,hz2⟩:=info_parts (show((prog).info? 154).map (fun i=>(i.zero,i.size,i.bytes))=some (some (.agg #[.int .u8 0,.string ⟨#[]⟩,(0:Int),(0:Int)]),4,40) by kernel_rfl);go_enter func125,ntmps125
 go_wp2_with fail
 refine(Bm 68 _).mono ?_
 rintro e w1 ⟨rfl,hE1⟩;go_wp2_with fail
 refine(Bm 65 _).mono ?_
 rintro e w2 ⟨rfl,hE2⟩;have HO0:=hd (Ds (w1:=w2) w.heap.size [Ao 68,Ao 65] 2 rfl (by decide) (by have:=(hE1.trans hE2).size;omega));have HE0:=hd ((hE1.trans hE2).alloc (.cells (Al [Ao 68,Ao 65]).toArray 154));clear hE1 hE2;go_wp2_with fail
 refine(Bs _ _).mono ?_
 rintro e w3 ⟨rfl,rfl⟩;rw[H1.o];go_wp2_with fail
 refine(Cj _ _).mono ?_
 rintro e w3 ⟨rfl,rfl⟩;rw[H2.o];go_wp2_with fail
 refine(Cj _ _).mono ?_
 rintro e w4 ⟨rfl,rfl⟩;rw[H2.o]
 go_wp2_with (
  refine wpList_append_lies _ rfl _ _ 150 rfl w.heap.size 154 i0 _ 4 40 underlying150 hi0 hz0 hz1 hz2 rfl (by decide) _ _ _ rfl ((An HO0.o (Ext.refl [] _) (by simp)).alloc _) ⟨w2.heap.size+1,0,none⟩ 1 1 (Al [⟨78,⟨#[]⟩,1,31⟩]) rfl rfl ?c1 ?c2 (by decide) (by decide) (by decide) ?c5 _ rfl ?_
  case c1=>exact World.news_of_block (Blk.new' _ _ ((Al [⟨78,⟨#[]⟩,1,31⟩])).toArray _ (by simp))
  case c2=>intro u hu;simp[Al,Fld.cells,Ao,Ba] at hu;rcases hu with rfl|rfl|rfl|rfl<;>rfl
  case c5=>have q1:=HE0.o.size;simp at *;omega
  intro g0 cap0 v0 ho hg ha hlt;have HE1:=hd (Em HE0.o HO0.o (Ext.alloc (Ext.refl [] _) _) hg);have HO1:=hd (show v0.ownsRow w.heap.size 154 4 (.slice (some g0) 3 cap0) 3 (Al [Ao 68,Ao 65,⟨78,⟨#[]⟩,1,31⟩]) from ho);clear ho hg ha)
 go_ret
 exact⟨_,_,rfl,RdF.own (fs:=[Ao 68,Ao 65,⟨78,⟨#[]⟩,1,31⟩]) HO1.o,HE1.o⟩
theorem Sl (w:World) :
  Calls prog 125 #[(14:Int),.func (.func 123) #[] #[]] w (Bb [Ao 68,Ao 65,⟨78,⟨#[]⟩,1,2147483647⟩] w):=by
 have H1:Hd (inR 14 4 15=true):=hd rfl;have H2:Hd (Jv 14=1):=hd rfl;obtain⟨i0,hi0,hz0,hz1,hz2⟩:=info_parts (show((prog).info? 154).map (fun i=>(i.zero,i.size,i.bytes))=some (some (.agg #[.int .u8 0,.string ⟨#[]⟩,(0:Int),(0:Int)]),4,40) by kernel_rfl);go_enter func125,ntmps125
 go_wp2_with fail
 refine(Bm 68 _).mono ?_
 rintro e w1 ⟨rfl,hE1⟩;go_wp2_with fail
 refine(Bm 65 _).mono ?_
 rintro e w2 ⟨rfl,hE2⟩;have HO0:=hd (Ds (w1:=w2) w.heap.size [Ao 68,Ao 65] 2 rfl (by decide) (by have:=(hE1.trans hE2).size;omega));have HE0:=hd ((hE1.trans hE2).alloc (.cells (Al [Ao 68,Ao 65]).toArray 154));clear hE1 hE2;go_wp2_with fail
 refine(Bs _ _).mono ?_
 rintro e w3 ⟨rfl,rfl⟩;rw[H1.o];go_wp2_with fail
 refine(Cj _ _).mono ?_
 rintro e w3 ⟨rfl,rfl⟩;rw[H2.o];go_wp2_with fail
 refine(Cj _ _).mono ?_
 rintro e w4 ⟨rfl,rfl⟩;rw[H2.o]
 go_wp2_with (
  refine wpList_append_lies _ rfl _ _ 150 rfl w.heap.size 154 i0 _ 4 40 underlying150 hi0 hz0 hz1 hz2 rfl (by decide) _ _ _ rfl ((An HO0.o (Ext.refl [] _) (by simp)).alloc _) ⟨w2.heap.size+1,0,none⟩ 1 1 (Al [⟨78,⟨#[]⟩,1,2147483647⟩]) rfl rfl ?c1 ?c2 (by decide) (by decide) (by decide) ?c5 _ rfl ?_
  case c1=>exact World.news_of_block (Blk.new' _ _ ((Al [⟨78,⟨#[]⟩,1,2147483647⟩])).toArray _ (by simp))
  case c2=>intro u hu;simp[Al,Fld.cells,Ao,Ba] at hu;rcases hu with rfl|rfl|rfl|rfl<;>rfl
  case c5=>have q1:=HE0.o.size;simp at *;omega
  intro g0 cap0 v0 ho hg ha hlt;have HE1:=hd (Em HE0.o HO0.o (Ext.alloc (Ext.refl [] _) _) hg);have HO1:=hd (show v0.ownsRow w.heap.size 154 4 (.slice (some g0) 3 cap0) 3 (Al [Ao 68,Ao 65,⟨78,⟨#[]⟩,1,2147483647⟩]) from ho);clear ho hg ha)
 go_ret
 exact⟨_,_,rfl,RdF.own (fs:=[Ao 68,Ao 65,⟨78,⟨#[]⟩,1,2147483647⟩]) HO1.o,HE1.o⟩
theorem Pw (k:Int)(hk:inR k 4 15=false)(w:World) :
  Calls prog 125 #[k,.func (.func 123) #[] #[]] w (Bb [Ao 68,Ao 65] w):=by
 have H1:Hd (inR k 4 15=false):=hd hk;clear hk;go_enter func125,ntmps125
 go_wp2_with fail
 refine(Bm 68 _).mono ?_
 rintro e w1 ⟨rfl,hE1⟩;go_wp2_with fail
 refine(Bm 65 _).mono ?_
 rintro e w2 ⟨rfl,hE2⟩;have HO0:=hd (Ds (w1:=w2) w.heap.size [Ao 68,Ao 65] 2 rfl (by decide) (by have:=(hE1.trans hE2).size;omega));have HE0:=hd ((hE1.trans hE2).alloc (.cells (Al [Ao 68,Ao 65]).toArray 154));clear hE1 hE2;go_wp2_with fail
 refine(Bs _ _).mono ?_
 rintro e w3 ⟨rfl,rfl⟩;rw[H1.o];go_wp2_with fail
 go_ret
 exact⟨_,_,rfl,RdF.blk (fs:=[Ao 68,Ao 65]) (Blk.new _ _ _),HE0.o⟩
theorem Sm (w:World) :
  Calls prog 125 #[(15:Int),.func (.func 124) #[] #[]] w (Bb [Ba 68,Ba 65,Ba 66,Ba 67] w):=by
 have H1:Hd (inR 15 4 15=true):=hd rfl;have H2:Hd (Jv 15=3):=hd rfl;obtain⟨i0,hi0,hz0,hz1,hz2⟩:=info_parts (show((prog).info? 154).map (fun i=>(i.zero,i.size,i.bytes))=some (some (.agg #[.int .u8 0,.string ⟨#[]⟩,(0:Int),(0:Int)]),4,40) by kernel_rfl);go_enter func125,ntmps125
 go_wp2_with fail
 refine(Cp 68 _).mono ?_
 rintro e w1 ⟨rfl,hE1⟩;go_wp2_with fail
 refine(Cp 65 _).mono ?_
 rintro e w2 ⟨rfl,hE2⟩;have HO0:=hd (Ds (w1:=w2) w.heap.size [Ba 68,Ba 65] 2 rfl (by decide) (by have:=(hE1.trans hE2).size;omega));have HE0:=hd ((hE1.trans hE2).alloc (.cells (Al [Ba 68,Ba 65]).toArray 154));clear hE1 hE2;go_wp2_with fail
 refine(Bs _ _).mono ?_
 rintro e w3 ⟨rfl,rfl⟩;rw[H1.o];go_wp2_with fail
 refine(Cj _ _).mono ?_
 rintro e w3 ⟨rfl,rfl⟩;rw[H2.o];go_wp2_with fail
 refine(Cp 66 _).mono ?_
 rintro e wr0 ⟨rfl,hJ0⟩
 go_wp2_with (
  refine wpList_append_lies _ rfl _ _ 150 rfl w.heap.size 154 i0 _ 4 40 underlying150 hi0 hz0 hz1 hz2 rfl (by decide) _ _ _ rfl ((An HO0.o hJ0 (by simp)).alloc _) ⟨wr0.heap.size,0,none⟩ 1 1 (Al [Ba 66]) rfl rfl ?c1 ?c2 (by decide) (by decide) (by decide) ?c5 _ rfl ?_
  case c1=>exact World.news_of_block (Blk.new' _ _ ((Al [Ba 66])).toArray _ (by simp))
  case c2=>intro u hu;simp[Al,Fld.cells,Ao,Ba] at hu;rcases hu with rfl|rfl|rfl|rfl<;>rfl
  case c5=>have q1:=HE0.o.size;have q2:=Ext.size hJ0;simp at *;omega
  intro g0 cap0 v0 ho hg ha hlt;have HE1:=hd (Em HE0.o HO0.o (Ext.alloc hJ0 _) hg);have HO1:=hd (show v0.ownsRow w.heap.size 154 4 (.slice (some g0) 3 cap0) 3 (Al [Ba 68,Ba 65,Ba 66]) from ho);clear ho hg ha)
 refine(Cj _ _).mono ?_
 rintro e w4 ⟨rfl,rfl⟩;rw[H2.o];go_wp2_with fail
 refine(Cp 67 _).mono ?_
 rintro e wr1 ⟨rfl,hJ1⟩
 go_wp2_with (
  refine wpList_append_lies _ rfl _ _ 150 rfl w.heap.size 154 i0 _ 4 40 underlying150 hi0 hz0 hz1 hz2 rfl (by decide) _ _ _ rfl ((An HO1.o hJ1 (by simp)).alloc _) ⟨wr1.heap.size,0,none⟩ 1 1 (Al [Ba 67]) rfl rfl ?c1 ?c2 (by decide) (by decide) (by decide) ?c5 _ rfl ?_
  case c1=>exact World.news_of_block (Blk.new' _ _ ((Al [Ba 67])).toArray _ (by simp))
  case c2=>intro u hu;simp[Al,Fld.cells,Ao,Ba] at hu;rcases hu with rfl|rfl|rfl|rfl<;>rfl
  case c5=>have q1:=HE1.o.size;have q2:=Ext.size hJ1;simp at *;omega
  intro g1 cap1 v1 ho hg ha hlt;have HE2:=hd (Em HE1.o HO1.o (Ext.alloc hJ1 _) hg);have HO2:=hd (show v1.ownsRow w.heap.size 154 4 (.slice (some g1) 4 cap1) 4 (Al [Ba 68,Ba 65,Ba 66,Ba 67]) from ho);clear ho hg ha)
 go_ret
 exact⟨_,_,rfl,RdF.own (fs:=[Ba 68,Ba 65,Ba 66,Ba 67]) HO2.o,HE2.o⟩
theorem Qv (k:Int)(hk:inR k 4 10=true)(w:World) :
  Calls prog 125 #[k,.func (.func 124) #[] #[]] w (Bb [Ba 68,Ba 65,Ba 66] w):=by
 have H1:Hd (inR k 4 15=true):=hd (by rw[Bi] at *;omega);have H2:Hd (Jv k=2):=hd (by rw[Bi] at hk;unfold Jv;rw[ijn (by omega),ijn (by omega)]);have h12:(k==12)=false:=by rw[Bi] at hk;simp;omega
 have h13:(k==13)=false:=by rw[Bi] at hk;simp;omega
 have h14:(k==14)=false:=by rw[Bi] at hk;simp;omega
 clear hk;obtain⟨i0,hi0,hz0,hz1,hz2⟩:=info_parts (show((prog).info? 154).map (fun i=>(i.zero,i.size,i.bytes))=some (some (.agg #[.int .u8 0,.string ⟨#[]⟩,(0:Int),(0:Int)]),4,40) by kernel_rfl);go_enter func125,ntmps125
 go_wp2_with fail
 refine(Cp 68 _).mono ?_
 rintro e w1 ⟨rfl,hE1⟩;go_wp2_with fail
 refine(Cp 65 _).mono ?_
 rintro e w2 ⟨rfl,hE2⟩;have HO0:=hd (Ds (w1:=w2) w.heap.size [Ba 68,Ba 65] 2 rfl (by decide) (by have:=(hE1.trans hE2).size;omega));have HE0:=hd ((hE1.trans hE2).alloc (.cells (Al [Ba 68,Ba 65]).toArray 154));clear hE1 hE2;go_wp2_with fail
 refine(Bs _ _).mono ?_
 rintro e w3 ⟨rfl,rfl⟩;rw[H1.o];go_wp2_with fail
 refine(Cj _ _).mono ?_
 rintro e w3 ⟨rfl,rfl⟩;rw[H2.o];go_wp2_with fail
 refine(Cp 66 _).mono ?_
 rintro e wr0 ⟨rfl,hJ0⟩
 go_wp2_with (
  refine wpList_append_lies _ rfl _ _ 150 rfl w.heap.size 154 i0 _ 4 40 underlying150 hi0 hz0 hz1 hz2 rfl (by decide) _ _ _ rfl ((An HO0.o hJ0 (by simp)).alloc _) ⟨wr0.heap.size,0,none⟩ 1 1 (Al [Ba 66]) rfl rfl ?c1 ?c2 (by decide) (by decide) (by decide) ?c5 _ rfl ?_
  case c1=>exact World.news_of_block (Blk.new' _ _ ((Al [Ba 66])).toArray _ (by simp))
  case c2=>intro u hu;simp[Al,Fld.cells,Ao,Ba] at hu;rcases hu with rfl|rfl|rfl|rfl<;>rfl
  case c5=>have q1:=HE0.o.size;have q2:=Ext.size hJ0;simp at *;omega
  intro g0 cap0 v0 ho hg ha hlt;have HE1:=hd (Em HE0.o HO0.o (Ext.alloc hJ0 _) hg);have HO1:=hd (show v0.ownsRow w.heap.size 154 4 (.slice (some g0) 3 cap0) 3 (Al [Ba 68,Ba 65,Ba 66]) from ho);clear ho hg ha)
 refine(Cj _ _).mono ?_
 rintro e w4 ⟨rfl,rfl⟩;rw[H2.o];go_wp2_with fail
 go_ret
 exact⟨_,_,rfl,RdF.own (fs:=[Ba 68,Ba 65,Ba 66]) HO1.o,HE1.o⟩
theorem Sn (w:World) :
  Calls prog 125 #[(11:Int),.func (.func 124) #[] #[]] w (Bb [Ba 68,Ba 65] w):=by
 have H1:Hd (inR 11 4 15=true):=hd rfl;have H2:Hd (Jv 11=1):=hd rfl;go_enter func125,ntmps125
 go_wp2_with fail
 refine(Cp 68 _).mono ?_
 rintro e w1 ⟨rfl,hE1⟩;go_wp2_with fail
 refine(Cp 65 _).mono ?_
 rintro e w2 ⟨rfl,hE2⟩;have HO0:=hd (Ds (w1:=w2) w.heap.size [Ba 68,Ba 65] 2 rfl (by decide) (by have:=(hE1.trans hE2).size;omega));have HE0:=hd ((hE1.trans hE2).alloc (.cells (Al [Ba 68,Ba 65]).toArray 154));clear hE1 hE2;go_wp2_with fail
 refine(Bs _ _).mono ?_
 rintro e w3 ⟨rfl,rfl⟩;rw[H1.o];go_wp2_with fail
 refine(Cj _ _).mono ?_
 rintro e w3 ⟨rfl,rfl⟩;rw[H2.o];go_wp2_with fail
 refine(Cj _ _).mono ?_
 rintro e w4 ⟨rfl,rfl⟩;rw[H2.o];go_wp2_with fail
 go_ret
 exact⟨_,_,rfl,RdF.blk (fs:=[Ba 68,Ba 65]) (Blk.new _ _ _),HE0.o⟩
theorem So (w:World) :
  Calls prog 125 #[(12:Int),.func (.func 124) #[] #[]] w (Bb [Ba 68,Ba 65,⟨78,⟨#[]⟩,-2147483648,2147483647⟩,⟨77,⟨#[]⟩,-2147483648,2147483647⟩] w):=by
 have H1:Hd (inR 12 4 15=true):=hd rfl;have H2:Hd (Jv 12=1):=hd rfl;obtain⟨i0,hi0,hz0,hz1,hz2⟩:=info_parts (show((prog).info? 154).map (fun i=>(i.zero,i.size,i.bytes))=some (some (.agg #[.int .u8 0,.string ⟨#[]⟩,(0:Int),(0:Int)]),4,40) by kernel_rfl);go_enter func125,ntmps125
 go_wp2_with fail
 refine(Cp 68 _).mono ?_
 rintro e w1 ⟨rfl,hE1⟩;go_wp2_with fail
 refine(Cp 65 _).mono ?_
 rintro e w2 ⟨rfl,hE2⟩;have HO0:=hd (Ds (w1:=w2) w.heap.size [Ba 68,Ba 65] 2 rfl (by decide) (by have:=(hE1.trans hE2).size;omega));have HE0:=hd ((hE1.trans hE2).alloc (.cells (Al [Ba 68,Ba 65]).toArray 154));clear hE1 hE2;go_wp2_with fail
 refine(Bs _ _).mono ?_
 rintro e w3 ⟨rfl,rfl⟩;rw[H1.o];go_wp2_with fail
 refine(Cj _ _).mono ?_
 rintro e w3 ⟨rfl,rfl⟩;rw[H2.o];go_wp2_with fail
 refine(Cj _ _).mono ?_
 rintro e w4 ⟨rfl,rfl⟩;rw[H2.o]
 go_wp2_with (
  refine wpList_append_lies _ rfl _ _ 150 rfl w.heap.size 154 i0 _ 4 40 underlying150 hi0 hz0 hz1 hz2 rfl (by decide) _ _ _ rfl ((An HO0.o (Ext.refl [] _) (by simp)).alloc _) ⟨w2.heap.size+1,0,none⟩ 2 2 (Al [⟨78,⟨#[]⟩,-2147483648,2147483647⟩,⟨77,⟨#[]⟩,-2147483648,2147483647⟩]) rfl rfl ?c1 ?c2 (by decide) (by decide) (by decide) ?c5 _ rfl ?_
  case c1=>exact World.news_of_block (Blk.new' _ _ ((Al [⟨78,⟨#[]⟩,-2147483648,2147483647⟩,⟨77,⟨#[]⟩,-2147483648,2147483647⟩])).toArray _ (by simp))
  case c2=>intro u hu;simp[Al,Fld.cells,Ao,Ba] at hu;rcases hu with rfl|rfl|rfl|rfl|rfl|rfl|rfl|rfl<;>rfl
  case c5=>have q1:=HE0.o.size;simp at *;omega
  intro g0 cap0 v0 ho hg ha hlt;have HE1:=hd (Em HE0.o HO0.o (Ext.alloc (Ext.refl [] _) _) hg);have HO1:=hd (show v0.ownsRow w.heap.size 154 4 (.slice (some g0) 4 cap0) 4 (Al [Ba 68,Ba 65,⟨78,⟨#[]⟩,-2147483648,2147483647⟩,⟨77,⟨#[]⟩,-2147483648,2147483647⟩]) from ho);clear ho hg ha)
 go_ret
 exact⟨_,_,rfl,RdF.own (fs:=[Ba 68,Ba 65,⟨78,⟨#[]⟩,-2147483648,2147483647⟩,⟨77,⟨#[]⟩,-2147483648,2147483647⟩]) HO1.o,HE1.o⟩
theorem Sp (w:World) :
  Calls prog 125 #[(13:Int),.func (.func 124) #[] #[]] w (Bb [Ba 68,Ba 65,⟨78,⟨#[]⟩,1,31⟩] w):=by
 have H1:Hd (inR 13 4 15=true):=hd rfl;have H2:Hd (Jv 13=1):=hd rfl;obtain⟨i0,hi0,hz0,hz1,hz2⟩:=info_parts (show((prog).info? 154).map (fun i=>(i.zero,i.size,i.bytes))=some (some (.agg #[.int .u8 0,.string ⟨#[]⟩,(0:Int),(0:Int)]),4,40) by kernel_rfl);go_enter func125,ntmps125
 go_wp2_with fail
 refine(Cp 68 _).mono ?_
 rintro e w1 ⟨rfl,hE1⟩;go_wp2_with fail
 refine(Cp 65 _).mono ?_
 rintro e w2 ⟨rfl,hE2⟩;have HO0:=hd (Ds (w1:=w2) w.heap.size [Ba 68,Ba 65] 2 rfl (by decide) (by have:=(hE1.trans hE2).size;omega));have HE0:=hd ((hE1.trans hE2).alloc (.cells (Al [Ba 68,Ba 65]).toArray 154));clear hE1 hE2;go_wp2_with fail
 refine(Bs _ _).mono ?_
 rintro e w3 ⟨rfl,rfl⟩;rw[H1.o];go_wp2_with fail
 refine(Cj _ _).mono ?_
 rintro e w3 ⟨rfl,rfl⟩;rw[H2.o];go_wp2_with fail
 refine(Cj _ _).mono ?_
 rintro e w4 ⟨rfl,rfl⟩;rw[H2.o]
 go_wp2_with (
  refine wpList_append_lies _ rfl _ _ 150 rfl w.heap.size 154 i0 _ 4 40 underlying150 hi0 hz0 hz1 hz2 rfl (by decide) _ _ _ rfl ((An HO0.o (Ext.refl [] _) (by simp)).alloc _) ⟨w2.heap.size+1,0,none⟩ 1 1 (Al [⟨78,⟨#[]⟩,1,31⟩]) rfl rfl ?c1 ?c2 (by decide) (by decide) (by decide) ?c5 _ rfl ?_
  case c1=>exact World.news_of_block (Blk.new' _ _ ((Al [⟨78,⟨#[]⟩,1,31⟩])).toArray _ (by simp))
  case c2=>intro u hu;simp[Al,Fld.cells,Ao,Ba] at hu;rcases hu with rfl|rfl|rfl|rfl<;>rfl
  case c5=>have q1:=HE0.o.size;simp at *;omega
  intro g0 cap0 v0 ho hg ha hlt;have HE1:=hd (Em HE0.o HO0.o (Ext.alloc (Ext.refl [] _) _) hg);have HO1:=hd (show v0.ownsRow w.heap.size 154 4 (.slice (some g0) 3 cap0) 3 (Al [Ba 68,Ba 65,⟨78,⟨#[]⟩,1,31⟩]) from ho);clear ho hg ha)
 go_ret
 exact⟨_,_,rfl,RdF.own (fs:=[Ba 68,Ba 65,⟨78,⟨#[]⟩,1,31⟩]) HO1.o,HE1.o⟩
theorem Sq (w:World) :
  Calls prog 125 #[(14:Int),.func (.func 124) #[] #[]] w (Bb [Ba 68,Ba 65,⟨78,⟨#[]⟩,1,2147483647⟩] w):=by
 have H1:Hd (inR 14 4 15=true):=hd rfl;have H2:Hd (Jv 14=1):=hd rfl;obtain⟨i0,hi0,hz0,hz1,hz2⟩:=info_parts (show((prog).info? 154).map (fun i=>(i.zero,i.size,i.bytes))=some (some (.agg #[.int .u8 0,.string ⟨#[]⟩,(0:Int),(0:Int)]),4,40) by kernel_rfl);go_enter func125,ntmps125
 go_wp2_with fail
 refine(Cp 68 _).mono ?_
 rintro e w1 ⟨rfl,hE1⟩;go_wp2_with fail
 refine(Cp 65 _).mono ?_
 rintro e w2 ⟨rfl,hE2⟩;have HO0:=hd (Ds (w1:=w2) w.heap.size [Ba 68,Ba 65] 2 rfl (by decide) (by have:=(hE1.trans hE2).size;omega));have HE0:=hd ((hE1.trans hE2).alloc (.cells (Al [Ba 68,Ba 65]).toArray 154));clear hE1 hE2;go_wp2_with fail
 refine(Bs _ _).mono ?_
 rintro e w3 ⟨rfl,rfl⟩;rw[H1.o];go_wp2_with fail
 refine(Cj _ _).mono ?_
 rintro e w3 ⟨rfl,rfl⟩;rw[H2.o];go_wp2_with fail
 refine(Cj _ _).mono ?_
 rintro e w4 ⟨rfl,rfl⟩;rw[H2.o]
 go_wp2_with (
  refine wpList_append_lies _ rfl _ _ 150 rfl w.heap.size 154 i0 _ 4 40 underlying150 hi0 hz0 hz1 hz2 rfl (by decide) _ _ _ rfl ((An HO0.o (Ext.refl [] _) (by simp)).alloc _) ⟨w2.heap.size+1,0,none⟩ 1 1 (Al [⟨78,⟨#[]⟩,1,2147483647⟩]) rfl rfl ?c1 ?c2 (by decide) (by decide) (by decide) ?c5 _ rfl ?_
  case c1=>exact World.news_of_block (Blk.new' _ _ ((Al [⟨78,⟨#[]⟩,1,2147483647⟩])).toArray _ (by simp))
  case c2=>intro u hu;simp[Al,Fld.cells,Ao,Ba] at hu;rcases hu with rfl|rfl|rfl|rfl<;>rfl
  case c5=>have q1:=HE0.o.size;simp at *;omega
  intro g0 cap0 v0 ho hg ha hlt;have HE1:=hd (Em HE0.o HO0.o (Ext.alloc (Ext.refl [] _) _) hg);have HO1:=hd (show v0.ownsRow w.heap.size 154 4 (.slice (some g0) 3 cap0) 3 (Al [Ba 68,Ba 65,⟨78,⟨#[]⟩,1,2147483647⟩]) from ho);clear ho hg ha)
 go_ret
 exact⟨_,_,rfl,RdF.own (fs:=[Ba 68,Ba 65,⟨78,⟨#[]⟩,1,2147483647⟩]) HO1.o,HE1.o⟩
theorem Px (k:Int)(hk:inR k 4 15=false)(w:World) :
  Calls prog 125 #[k,.func (.func 124) #[] #[]] w (Bb [Ba 68,Ba 65] w):=by
 have H1:Hd (inR k 4 15=false):=hd hk;clear hk;go_enter func125,ntmps125
 go_wp2_with fail
 refine(Cp 68 _).mono ?_
 rintro e w1 ⟨rfl,hE1⟩;go_wp2_with fail
 refine(Cp 65 _).mono ?_
 rintro e w2 ⟨rfl,hE2⟩;have HO0:=hd (Ds (w1:=w2) w.heap.size [Ba 68,Ba 65] 2 rfl (by decide) (by have:=(hE1.trans hE2).size;omega));have HE0:=hd ((hE1.trans hE2).alloc (.cells (Al [Ba 68,Ba 65]).toArray 154));clear hE1 hE2;go_wp2_with fail
 refine(Bs _ _).mono ?_
 rintro e w3 ⟨rfl,rfl⟩;rw[H1.o];go_wp2_with fail
 go_ret
 exact⟨_,_,rfl,RdF.blk (fs:=[Ba 68,Ba 65]) (Blk.new _ _ _),HE0.o⟩
end Go.Proofs.YtkgmhggliifkjaaGreat
