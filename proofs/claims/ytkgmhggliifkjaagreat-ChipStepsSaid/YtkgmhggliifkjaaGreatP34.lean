import Derived.Carry
import Derived.Test.YtkgmhggliifkjaaGreatP35
import Derived.Deep.RegionHeld
namespace Go.Proofs.YtkgmhggliifkjaaGreat
open Go.RowKit Go.Proofs.Tryz
set_option linter.all false
set_option maxHeartbeats 8000000
set_option maxRecDepth 4000
section
attribute [local irreducible] Ax
def ndC (k:Int)(A:Option Addr)(la ca:Nat)(lo hi nn:Int)(D:Option Addr)(ld cd:Nat):Array Value:=#[k,.slice A la ca,.string ⟨#[]⟩,.slice none 0 0,.string ⟨#[]⟩,.slice none 0 0,lo,hi,nn,(0:Int),.slice D ld cd,.slice none 0 0]
def NIn (w:World)(A:Option Addr)(l:Nat):Prop:=l=0\/∃b,A=some ⟨b,0,none⟩/\b<w.heap.size/\∀j:Nat,j<l->w.cell? ⟨b,j,none⟩=some (.slice none 0 0)
theorem NIn.nil {w w':World}{A:Option Addr}{l:Nat}(h:NIn w A l)(hE:Ext [] w w'):NIn w' A l:=by
 rcases h with h|⟨b,h1,h2,h3⟩
 ·exact .inl h
 ·exact .inr ⟨b,h1,nl h2 hE.size,fun j hj=>hE.held (h3 j hj) (by simp)⟩
theorem En (c:Nat)(A:Option Addr)(w:World):Calls prog 154 #[.slice A 0 c] w fun e w'=>e=.returned (.int .i64 1)/\Ext [] w w':=by
 go_enter func154,ntmps154
 go_wp2_with fail
 go_loopw [3,8] (fun p i wr=>p=.int .i64 1/\i=.int .i64 0/\Hd (wr=w)) (fun _ _ _=>0)
 case atStart=>exact⟨rfl,rfl,hd rfl⟩
 case round=>
  obtain⟨rfl,rfl,HW⟩:=hrel;obtain rfl:=HW.o;go_wp2_with fail
  go_ret
  exact⟨rfl,er⟩
theorem Ps (c:Nat)(A:Option Addr)(w:World):Calls prog 134 #[.slice A 0 c] w fun e w'=>e=.returned (.slice none 0 0)/\Ext [] w w':=by
 go_enter func134,ntmps134
 go_wp2_with fail
 go_loopw [3,8] (fun p i wr=>p=.slice none 0 0/\i=.int .i64 0/\Hd (wr=w)) (fun _ _ _=>0)
 case atStart=>exact⟨rfl,rfl,hd rfl⟩
 case round=>
  obtain⟨rfl,rfl,HW⟩:=hrel;obtain rfl:=HW.o;go_wp2_with fail
  go_ret
  exact⟨rfl,er⟩
def PlaP (w:World)(e:Ending)(w':World):Prop:=∃b v,e=.returned (.slice (some ⟨b,0,none⟩) 1 1)/\Ext [] w w'/\b<w'.heap.size/\w'.cell? ⟨b,0,none⟩=some (.map v)
theorem Rr (w:World):Calls prog 141 #[.slice none 0 0] w (PlaP w):=by
 have HB:=hd (Blk.new (w.alloc (.map #[] 0)) 239 #[.map (some w.heap.size)]);have HE:=hd (((Ext.refl [] w).alloc (.map #[] 0)).alloc (.cells #[.map (some w.heap.size)] 239));have hmm:=@run_makeMap prog;go_enter func141,ntmps141
 go_wp2_with fail
 generalize (w.alloc (.map #[] 0)).alloc (.cells #[.map (some w.heap.size)] 239)=w1 at *;go_loopw [3,17] (fun p i wr=>p=.slice (some ⟨w.heap.size+1,0,none⟩) 1 1/\i=.int .i64 0/\Hd (wr=w1)) (fun _ _ _=>0)
 case atStart=>exact⟨rfl,rfl,hd rfl⟩
 case round=>
  obtain⟨rfl,rfl,HW⟩:=hrel;obtain rfl:=HW.o;go_wp2_with fail
  go_ret
  have h1:=HB.o.lt;have h2:=HB.o.cell 0;simp at h1 h2;exact⟨_,_,rfl,HE.o,h1,h2⟩
theorem Ahm (p:Value)(A:Option Addr)(ca:Nat)(v:Option Nat)(g n c:Nat)(x:Int)(w:World)(hn:1<=n)(hg:g<w.heap.size)(hx:w.cell? ⟨g,0,none⟩=some (.int .i64 x)):Calls prog 144 #[.agg #[.slice A 0 ca,.slice (some g) n c],.map v] w fun e w'=>e=.returned (.int .i64 x)/\Ext [] w w':=by
 have HB:=hd (Blk.new w 197 #[.slice A 0 ca,.slice (some g) n c]);have HE:=hd ((Ext.refl [] w).alloc (.cells #[.slice A 0 ca,.slice (some g) n c] 197));have HX:=hd hx;have hn':(0:Int)<(n:Int):=by omega
 clear hx;go_enter func144,ntmps144
 go_wp2_with fail
 generalize w.alloc (.cells #[.slice A 0 ca,.slice (some g) n c] 197)=w1 at *;generalize hwl:w.heap.size=bl at *;go_loopw [5,11] (fun k i wr=>k=.int .i64 0/\i=.int .i64 0/\Hd (wr=w1)) (fun _ _ _=>0)
 case atStart=>exact⟨rfl,rfl,hd rfl⟩
 case round=>
  obtain⟨rfl,rfl,HW⟩:=hrel;obtain rfl:=HW.o;have qb:=HB.o.cell;have qbl:=HB.o.lt;have qx:=HE.o.held HX.o (by simp);have qxl:g<wr.heap.size:=by omega
  go_wp2_with fail
  go_ret
  exact⟨rfl,HE.o⟩
theorem Eb (s:Nat)(A:Option Addr)(l c:Nat)(w:World)(h:NIn w A l)(hl:l<=100):Calls prog 146 #[.pointer (some s),.slice A l c] w fun e w'=>e=.returned (.slice none 0 0)/\Ext [] w w':=by
 have HH:=hd h;clear h;go_enter func146,ntmps146
 go_wp2_with fail
 go_loopw [5,13] (fun p i wr=>p=.slice none 0 0/\∃k:Nat,i=.int .i64 k/\k<=l/\Hd (Ext [] w wr)) (fun _ i _=>(l-intOf i).toNat)
 case atStart=>exact⟨rfl,0,rfl,by omega,hd er⟩
 case round=>
  obtain⟨rfl,k,rfl,hk,HE⟩:=hrel;rename World=>wk
  by_cases hlt:k<l
  ·rcases HH.o.nil HE.o with h0|⟨b,rfl,hb,hc⟩
   ·omega
   ·have q:=hc k hlt;clear hc;go_wp2_with fail
    go_loopw [5,19] (fun p i wr=>p=.slice none 0 0/\i=.int .i64 0/\Hd (wr=wk)) (fun _ _ _=>0)
    case atStart=>exact⟨rfl,rfl,hd rfl⟩
    case round=>
     obtain⟨rfl,rfl,HW⟩:=hrel;obtain rfl:=HW.o;go_wp2_with fail
     go_roundw
     case rel=>exact⟨rfl,k+1,by go_num,by omega,HE⟩
     case measure=>simp[intOf];omega
  ·have hkl:k=l:=by omega
   subst hkl;go_wp2_with fail
   go_ret
   exact⟨rfl,HE.o⟩
def ShP (k:Int):Prop:=k=2\/(4<=k/\k<=15)
set_option maxRecDepth 100000
theorem Ug (s:Nat)(k:Int)(A:Option Addr)(la ca:Nat)(lo hi nn:Int)(D:Option Addr)(ld cd:Nat)(B:Option Addr)(l c:Nat)(w:World)(hk:ShP k)(h:NIn w B l)(hl:l<=100)(h11:11<=k->1<=l)(hs:w.cell? ⟨s,2,none⟩=some (.bool false))(hsl:s<w.heap.size) :
  Calls prog 138 #[.pointer (some s),.agg (ndC k A la ca lo hi nn D ld cd),.slice B l c,.slice none 0 0] w fun e w'=>e=.returned (.tuple #[.slice none 0 0,.bool true])/\Ext [] w w':=by
 have HB:=hd (Blk.new w 189 (ndC k A la ca lo hi nn D ld cd));have HE:=hd ((Ext.refl [] w).alloc (.cells (ndC k A la ca lo hi nn D ld cd) 189));have HS:=hd hs;have HN:=hd h;clear hs h;unfold ndC at *;have hk2:k=2\/k=4\/k=5\/k=6\/k=7\/k=8\/k=9\/k=10\/k=15\/k=11\/k=12\/k=13\/k=14:=by unfold ShP at hk;omega
 clear hk;rcases hk2 with rfl|rfl|rfl|rfl|rfl|rfl|rfl|rfl|rfl|rfl|rfl|rfl|rfl
 ·go_enter func138,ntmps138
  go_upto_region 35 with fail
  generalize w.alloc (.cells #[(2:Int),.slice A la ca,.string ⟨#[]⟩,.slice none 0 0,.string ⟨#[]⟩,.slice none 0 0,lo,hi,nn,(0:Int),.slice D ld cd,.slice none 0 0] 189)=w1 at *;have HE2:=HE;go_wp2_with fail
  go_loopw [104] (fun i wr=>i=.int .i64 0/\Hd (Ext [] w wr)) (fun _ _=>0)
  case atStart=>exact⟨rfl,HE2⟩
  case round=>
   obtain⟨rfl,HE3⟩:=hrel;have qs:=HE3.o.held HS.o (by simp);have qsl:=nl hsl HE3.o.size;go_wp2_with fail
   go_ret2
   exact⟨rfl,HE3.o⟩
 ·go_enter func138,ntmps138
  go_wp2_with fail
  generalize w.alloc (.cells #[(4:Int),.slice A la ca,.string ⟨#[]⟩,.slice none 0 0,.string ⟨#[]⟩,.slice none 0 0,lo,hi,nn,(0:Int),.slice D ld cd,.slice none 0 0] 189)=w1 at *;refine(Eb s B l c _ (HN.o.nil HE.o) hl).mono ?_
  rintro e w2 ⟨rfl,hE2⟩;have HE2:=hd (HE.o.trans hE2);clear hE2;go_wp2_with fail
  go_loopw [104] (fun i wr=>i=.int .i64 0/\Hd (Ext [] w wr)) (fun _ _=>0)
  case atStart=>exact⟨rfl,HE2⟩
  case round=>
   obtain⟨rfl,HE3⟩:=hrel;have qs:=HE3.o.held HS.o (by simp);have qsl:=nl hsl HE3.o.size;go_wp2_with fail
   go_ret2
   exact⟨rfl,HE3.o⟩
 ·go_enter func138,ntmps138
  go_wp2_with fail
  generalize w.alloc (.cells #[(5:Int),.slice A la ca,.string ⟨#[]⟩,.slice none 0 0,.string ⟨#[]⟩,.slice none 0 0,lo,hi,nn,(0:Int),.slice D ld cd,.slice none 0 0] 189)=w1 at *;refine(Eb s B l c _ (HN.o.nil HE.o) hl).mono ?_
  rintro e w2 ⟨rfl,hE2⟩;have HE2:=hd (HE.o.trans hE2);clear hE2;go_wp2_with fail
  go_loopw [104] (fun i wr=>i=.int .i64 0/\Hd (Ext [] w wr)) (fun _ _=>0)
  case atStart=>exact⟨rfl,HE2⟩
  case round=>
   obtain⟨rfl,HE3⟩:=hrel;have qs:=HE3.o.held HS.o (by simp);have qsl:=nl hsl HE3.o.size;go_wp2_with fail
   go_ret2
   exact⟨rfl,HE3.o⟩
 ·go_enter func138,ntmps138
  go_wp2_with fail
  generalize w.alloc (.cells #[(6:Int),.slice A la ca,.string ⟨#[]⟩,.slice none 0 0,.string ⟨#[]⟩,.slice none 0 0,lo,hi,nn,(0:Int),.slice D ld cd,.slice none 0 0] 189)=w1 at *;refine(Eb s B l c _ (HN.o.nil HE.o) hl).mono ?_
  rintro e w2 ⟨rfl,hE2⟩;have HE2:=hd (HE.o.trans hE2);clear hE2;go_wp2_with fail
  go_loopw [104] (fun i wr=>i=.int .i64 0/\Hd (Ext [] w wr)) (fun _ _=>0)
  case atStart=>exact⟨rfl,HE2⟩
  case round=>
   obtain⟨rfl,HE3⟩:=hrel;have qs:=HE3.o.held HS.o (by simp);have qsl:=nl hsl HE3.o.size;go_wp2_with fail
   go_ret2
   exact⟨rfl,HE3.o⟩
 ·go_enter func138,ntmps138
  go_wp2_with fail
  generalize w.alloc (.cells #[(7:Int),.slice A la ca,.string ⟨#[]⟩,.slice none 0 0,.string ⟨#[]⟩,.slice none 0 0,lo,hi,nn,(0:Int),.slice D ld cd,.slice none 0 0] 189)=w1 at *;refine(Eb s B l c _ (HN.o.nil HE.o) hl).mono ?_
  rintro e w2 ⟨rfl,hE2⟩;have HE2:=hd (HE.o.trans hE2);clear hE2;go_wp2_with fail
  go_loopw [104] (fun i wr=>i=.int .i64 0/\Hd (Ext [] w wr)) (fun _ _=>0)
  case atStart=>exact⟨rfl,HE2⟩
  case round=>
   obtain⟨rfl,HE3⟩:=hrel;have qs:=HE3.o.held HS.o (by simp);have qsl:=nl hsl HE3.o.size;go_wp2_with fail
   go_ret2
   exact⟨rfl,HE3.o⟩
 ·go_enter func138,ntmps138
  go_wp2_with fail
  generalize w.alloc (.cells #[(8:Int),.slice A la ca,.string ⟨#[]⟩,.slice none 0 0,.string ⟨#[]⟩,.slice none 0 0,lo,hi,nn,(0:Int),.slice D ld cd,.slice none 0 0] 189)=w1 at *;refine(Eb s B l c _ (HN.o.nil HE.o) hl).mono ?_
  rintro e w2 ⟨rfl,hE2⟩;have HE2:=hd (HE.o.trans hE2);clear hE2;go_wp2_with fail
  go_loopw [104] (fun i wr=>i=.int .i64 0/\Hd (Ext [] w wr)) (fun _ _=>0)
  case atStart=>exact⟨rfl,HE2⟩
  case round=>
   obtain⟨rfl,HE3⟩:=hrel;have qs:=HE3.o.held HS.o (by simp);have qsl:=nl hsl HE3.o.size;go_wp2_with fail
   go_ret2
   exact⟨rfl,HE3.o⟩
 ·go_enter func138,ntmps138
  go_wp2_with fail
  generalize w.alloc (.cells #[(9:Int),.slice A la ca,.string ⟨#[]⟩,.slice none 0 0,.string ⟨#[]⟩,.slice none 0 0,lo,hi,nn,(0:Int),.slice D ld cd,.slice none 0 0] 189)=w1 at *;refine(Eb s B l c _ (HN.o.nil HE.o) hl).mono ?_
  rintro e w2 ⟨rfl,hE2⟩;have HE2:=hd (HE.o.trans hE2);clear hE2;go_wp2_with fail
  go_loopw [104] (fun i wr=>i=.int .i64 0/\Hd (Ext [] w wr)) (fun _ _=>0)
  case atStart=>exact⟨rfl,HE2⟩
  case round=>
   obtain⟨rfl,HE3⟩:=hrel;have qs:=HE3.o.held HS.o (by simp);have qsl:=nl hsl HE3.o.size;go_wp2_with fail
   go_ret2
   exact⟨rfl,HE3.o⟩
 ·go_enter func138,ntmps138
  go_wp2_with fail
  generalize w.alloc (.cells #[(10:Int),.slice A la ca,.string ⟨#[]⟩,.slice none 0 0,.string ⟨#[]⟩,.slice none 0 0,lo,hi,nn,(0:Int),.slice D ld cd,.slice none 0 0] 189)=w1 at *;refine(Eb s B l c _ (HN.o.nil HE.o) hl).mono ?_
  rintro e w2 ⟨rfl,hE2⟩;have HE2:=hd (HE.o.trans hE2);clear hE2;go_wp2_with fail
  go_loopw [104] (fun i wr=>i=.int .i64 0/\Hd (Ext [] w wr)) (fun _ _=>0)
  case atStart=>exact⟨rfl,HE2⟩
  case round=>
   obtain⟨rfl,HE3⟩:=hrel;have qs:=HE3.o.held HS.o (by simp);have qsl:=nl hsl HE3.o.size;go_wp2_with fail
   go_ret2
   exact⟨rfl,HE3.o⟩
 ·go_enter func138,ntmps138
  go_wp2_with fail
  generalize w.alloc (.cells #[(15:Int),.slice A la ca,.string ⟨#[]⟩,.slice none 0 0,.string ⟨#[]⟩,.slice none 0 0,lo,hi,nn,(0:Int),.slice D ld cd,.slice none 0 0] 189)=w1 at *;refine(Eb s B l c _ (HN.o.nil HE.o) hl).mono ?_
  rintro e w2 ⟨rfl,hE2⟩;have HE2:=hd (HE.o.trans hE2);clear hE2;go_wp2_with fail
  go_loopw [104] (fun i wr=>i=.int .i64 0/\Hd (Ext [] w wr)) (fun _ _=>0)
  case atStart=>exact⟨rfl,HE2⟩
  case round=>
   obtain⟨rfl,HE3⟩:=hrel;have qs:=HE3.o.held HS.o (by simp);have qsl:=nl hsl HE3.o.size;go_wp2_with fail
   go_ret2
   exact⟨rfl,HE3.o⟩
 ·go_enter func138,ntmps138
  go_upto_region 22 with fail
  generalize w.alloc (.cells #[(11:Int),.slice A la ca,.string ⟨#[]⟩,.slice none 0 0,.string ⟨#[]⟩,.slice none 0 0,lo,hi,nn,(0:Int),.slice D ld cd,.slice none 0 0] 189)=w1 at *;have HE2:=HE;rcases HN.o.nil HE.o with h0|⟨b,rfl,hb,hc⟩
  ·omega
  have qb:=hc 0 (by omega);have hl0:(0:Int)<(l:Int):=by omega
  clear hc;go_wp2_with fail
  go_loopw [104] (fun i wr=>i=.int .i64 0/\Hd (Ext [] w wr)) (fun _ _=>0)
  case atStart=>exact⟨rfl,HE2⟩
  case round=>
   obtain⟨rfl,HE3⟩:=hrel;have qs:=HE3.o.held HS.o (by simp);have qsl:=nl hsl HE3.o.size;go_wp2_with fail
   go_ret2
   exact⟨rfl,HE3.o⟩
 ·go_enter func138,ntmps138
  go_upto_region 22 with fail
  generalize w.alloc (.cells #[(12:Int),.slice A la ca,.string ⟨#[]⟩,.slice none 0 0,.string ⟨#[]⟩,.slice none 0 0,lo,hi,nn,(0:Int),.slice D ld cd,.slice none 0 0] 189)=w1 at *;have HE2:=HE;rcases HN.o.nil HE.o with h0|⟨b,rfl,hb,hc⟩
  ·omega
  have qb:=hc 0 (by omega);have hl0:(0:Int)<(l:Int):=by omega
  clear hc;go_wp2_with fail
  go_loopw [104] (fun i wr=>i=.int .i64 0/\Hd (Ext [] w wr)) (fun _ _=>0)
  case atStart=>exact⟨rfl,HE2⟩
  case round=>
   obtain⟨rfl,HE3⟩:=hrel;have qs:=HE3.o.held HS.o (by simp);have qsl:=nl hsl HE3.o.size;go_wp2_with fail
   go_ret2
   exact⟨rfl,HE3.o⟩
 ·go_enter func138,ntmps138
  go_upto_region 22 with fail
  generalize w.alloc (.cells #[(13:Int),.slice A la ca,.string ⟨#[]⟩,.slice none 0 0,.string ⟨#[]⟩,.slice none 0 0,lo,hi,nn,(0:Int),.slice D ld cd,.slice none 0 0] 189)=w1 at *;have HE2:=HE;rcases HN.o.nil HE.o with h0|⟨b,rfl,hb,hc⟩
  ·omega
  have qb:=hc 0 (by omega);have hl0:(0:Int)<(l:Int):=by omega
  clear hc;go_wp2_with fail
  go_loopw [104] (fun i wr=>i=.int .i64 0/\Hd (Ext [] w wr)) (fun _ _=>0)
  case atStart=>exact⟨rfl,HE2⟩
  case round=>
   obtain⟨rfl,HE3⟩:=hrel;have qs:=HE3.o.held HS.o (by simp);have qsl:=nl hsl HE3.o.size;go_wp2_with fail
   go_ret2
   exact⟨rfl,HE3.o⟩
 ·go_enter func138,ntmps138
  go_upto_region 22 with fail
  generalize w.alloc (.cells #[(14:Int),.slice A la ca,.string ⟨#[]⟩,.slice none 0 0,.string ⟨#[]⟩,.slice none 0 0,lo,hi,nn,(0:Int),.slice D ld cd,.slice none 0 0] 189)=w1 at *;have HE2:=HE;rcases HN.o.nil HE.o with h0|⟨b,rfl,hb,hc⟩
  ·omega
  have qb:=hc 0 (by omega);have hl0:(0:Int)<(l:Int):=by omega
  clear hc;go_wp2_with fail
  go_loopw [104] (fun i wr=>i=.int .i64 0/\Hd (Ext [] w wr)) (fun _ _=>0)
  case atStart=>exact⟨rfl,HE2⟩
  case round=>
   obtain⟨rfl,HE3⟩:=hrel;have qs:=HE3.o.held HS.o (by simp);have qsl:=nl hsl HE3.o.size;go_wp2_with fail
   go_ret2
   exact⟨rfl,HE3.o⟩
theorem Uh (k:Int)(A:Option Addr)(la ca:Nat)(lo hi nn:Int)(D:Option Addr)(ld cd:Nat)(B:Option Addr)(l c:Nat)(w:World)(hk:ShP k) :
  Calls prog 139 #[.agg (ndC k A la ca lo hi nn D ld cd),.slice B l c,.slice none 0 0,.slice none 0 0] w fun e w'=>e=.returned (.int .i64 (if k=2 then 0 else 1))/\Ext [] w w':=by
 have HE:=hd ((Ext.refl [] w).alloc (.cells (ndC k A la ca lo hi nn D ld cd) 189));unfold ndC at *;have hk2:k=2\/k=4\/k=5\/k=6\/k=7\/k=8\/k=9\/k=10\/k=15\/k=11\/k=12\/k=13\/k=14:=by unfold ShP at hk;omega
 clear hk;rcases hk2 with rfl|rfl|rfl|rfl|rfl|rfl|rfl|rfl|rfl|rfl|rfl|rfl|rfl
 ·go_enter func139,ntmps139
  go_wp2_with fail
  go_ret
  exact⟨rfl,HE.o⟩
 ·go_enter func139,ntmps139
  go_wp2_with fail
  refine(En 0 none _).mono ?_
  rintro e w2 ⟨rfl,hE2⟩;have HE2:=hd (HE.o.trans hE2);clear hE2;go_wp2_with fail
  go_ret
  exact⟨rfl,HE2.o⟩
 ·go_enter func139,ntmps139
  go_wp2_with fail
  refine(En 0 none _).mono ?_
  rintro e w2 ⟨rfl,hE2⟩;have HE2:=hd (HE.o.trans hE2);clear hE2;go_wp2_with fail
  go_ret
  exact⟨rfl,HE2.o⟩
 ·go_enter func139,ntmps139
  go_wp2_with fail
  refine(En 0 none _).mono ?_
  rintro e w2 ⟨rfl,hE2⟩;have HE2:=hd (HE.o.trans hE2);clear hE2;go_wp2_with fail
  go_ret
  exact⟨rfl,HE2.o⟩
 ·go_enter func139,ntmps139
  go_wp2_with fail
  refine(En 0 none _).mono ?_
  rintro e w2 ⟨rfl,hE2⟩;have HE2:=hd (HE.o.trans hE2);clear hE2;go_wp2_with fail
  go_ret
  exact⟨rfl,HE2.o⟩
 ·go_enter func139,ntmps139
  go_wp2_with fail
  refine(En 0 none _).mono ?_
  rintro e w2 ⟨rfl,hE2⟩;have HE2:=hd (HE.o.trans hE2);clear hE2;go_wp2_with fail
  go_ret
  exact⟨rfl,HE2.o⟩
 ·go_enter func139,ntmps139
  go_wp2_with fail
  refine(En 0 none _).mono ?_
  rintro e w2 ⟨rfl,hE2⟩;have HE2:=hd (HE.o.trans hE2);clear hE2;go_wp2_with fail
  go_ret
  exact⟨rfl,HE2.o⟩
 ·go_enter func139,ntmps139
  go_wp2_with fail
  refine(En 0 none _).mono ?_
  rintro e w2 ⟨rfl,hE2⟩;have HE2:=hd (HE.o.trans hE2);clear hE2;go_wp2_with fail
  go_ret
  exact⟨rfl,HE2.o⟩
 ·go_enter func139,ntmps139
  go_wp2_with fail
  refine(En 0 none _).mono ?_
  rintro e w2 ⟨rfl,hE2⟩;have HE2:=hd (HE.o.trans hE2);clear hE2;go_wp2_with fail
  go_ret
  exact⟨rfl,HE2.o⟩
 ·go_enter func139,ntmps139
  go_wp2_with fail
  refine(En 0 none _).mono ?_
  rintro e w2 ⟨rfl,hE2⟩;have HE2:=hd (HE.o.trans hE2);clear hE2;go_wp2_with fail
  go_ret
  exact⟨rfl,HE2.o⟩
 ·go_enter func139,ntmps139
  go_wp2_with fail
  refine(En 0 none _).mono ?_
  rintro e w2 ⟨rfl,hE2⟩;have HE2:=hd (HE.o.trans hE2);clear hE2;go_wp2_with fail
  go_ret
  exact⟨rfl,HE2.o⟩
 ·go_enter func139,ntmps139
  go_wp2_with fail
  refine(En 0 none _).mono ?_
  rintro e w2 ⟨rfl,hE2⟩;have HE2:=hd (HE.o.trans hE2);clear hE2;go_wp2_with fail
  go_ret
  exact⟨rfl,HE2.o⟩
 ·go_enter func139,ntmps139
  go_wp2_with fail
  refine(En 0 none _).mono ?_
  rintro e w2 ⟨rfl,hE2⟩;have HE2:=hd (HE.o.trans hE2);clear hE2;go_wp2_with fail
  go_ret
  exact⟨rfl,HE2.o⟩
end
section
attribute [local irreducible] Ax
def TIn (w:World)(A:Option Addr)(xs:List Int):Prop:=xs=[]\/∃b,A=some ⟨b,0,none⟩/\b<w.heap.size/\∀(j:Nat) (x:Int),xs[j]? = some x->∃g c,w.cell? ⟨b,j*2,none⟩=some (.slice none 0 0)/\w.cell? ⟨b,j*2+1,none⟩=some (.slice (some ⟨g,0,none⟩) 1 c)/\g<w.heap.size/\w.cell? ⟨g,0,none⟩=some (.int .i64 x)
theorem TIn.nil {w w':World}{A:Option Addr}{xs:List Int}(h:TIn w A xs)(hE:Ext [] w w'):TIn w' A xs:=by
 rcases h with h|⟨b,h1,h2,h3⟩
 ·exact .inl h
 ·refine .inr ⟨b,h1,nl h2 hE.size,fun j x hj=>?_⟩
  obtain⟨g,c,a1,a2,a3,a4⟩:=h3 j x hj;exact⟨g,c,hE.held a1 (by simp),hE.held a2 (by simp),nl a3 hE.size,hE.held a4 (by simp)⟩
theorem Mb {fn:Func}{p:Tmp}(h:fn.results=#[.cell p 197])(tmps:Array Value)(w:World)(g:Nat)(g2 n c:Nat)
  (hp:tmps.getD p undef=.pointer (some g)) (hg:Blk w g 197 #[.slice none 0 0,.slice (some g2) n c]):(results fn tmps).run prog w=.ok (.agg #[.slice none 0 0,.slice (some g2) n c]) w:=
 results_cell_row h tmps w g _ #[.slice none 0 0,.slice (some g2) n c] (0,0) _ hp hg underlying197 rfl (by kernel_rfl)
def TenP (x:Int)(w:World)(e:Ending)(w':World):Prop:=∃g c,e=.returned (.agg #[.slice none 0 0,.slice (some ⟨g,0,none⟩) 1 c])/\Ext [] w w'/\g<w'.heap.size/\w'.cell? ⟨g,0,none⟩=some (.int .i64 x)
theorem Vo {w:World}{B n:Nat}{v:Value}{xs:List Int}(h:w.ownsRow B 3 1 v n (xs.map (Value.int .i64)))(hl:xs.length=n)(hn:1<=n):∃g c,v=.slice (some ⟨g,0,none⟩) n c/\XIn w g xs/\B<=g:=by
 rcases h.2 with⟨hv,hx⟩|⟨g,c,cur,hv,hb,hg,hc⟩
 ·exfalso;omega
 ·have hB:Blk w g 3 cur:=hg;have hcell:=h.cells (g:=g) (by rw[hv];rfl);refine⟨g,c,hv,⟨hB.lt,fun j x hj=>?_⟩,hb⟩
  have:=hcell j (.int .i64 x) (by rw[List.getElem?_map,hj];rfl);rw[Addr.add_mk,Nat.zero_add] at this;exact this
def Ag3 (xs:List Int):List Value:=xs.map (Value.int .i64)
set_option maxRecDepth 100000
theorem Adx (k:Int)(A:Option Addr)(la ca:Nat)(lo hi nn:Int)(D:Option Addr)(ld cd:Nat)(T:Option Addr)(ct n:Nat)(xs:List Int)(y:Int)(w:World)(hk:4<=k/\k<=15)(h:TIn w T xs)(hn:xs.length=n)(hl:1<=n/\n<=3)
  (hP:∀W g cap,Ext [] w W->XIn W g xs->Calls prog 145 #[.agg (ndC k A la ca lo hi nn D ld cd),.slice (some ⟨g,0,none⟩) n cap] W fun e w'=>e=.returned (.int .i64 y)/\Ext [] W w') :
  Calls prog 137 #[.agg (ndC k A la ca lo hi nn D ld cd),.slice none 0 0,.slice T n ct] w (TenP y w):=by
 obtain⟨i0,hi0,hz0,hz1,hz2⟩:=info_parts (show((prog).info? 3).map (fun i=>(i.zero,i.size,i.bytes))=some (some (.int .i64 0),1,8) by kernel_rfl);have HH:=hd h;have HN:=hd hn;have HP:=hd hP;obtain⟨hl1,hl2⟩:=hl;clear h hn hP;unfold ndC at *;have HB0:=hd (Blk.new w 189 #[k,.slice A la ca,.string ⟨#[]⟩,.slice none 0 0,.string ⟨#[]⟩,.slice none 0 0,lo,hi,nn,(0:Int),.slice D ld cd,.slice none 0 0]);have HE0:=hd ((Ext.refl [] w).alloc (.cells #[k,.slice A la ca,.string ⟨#[]⟩,.slice none 0 0,.string ⟨#[]⟩,.slice none 0 0,lo,hi,nn,(0:Int),.slice D ld cd,.slice none 0 0] 189));obtain⟨hka,hkb⟩:=hk;have e2:(k==2)=false:=by simp;omega
 have e3:(k==3)=false:=by simp;omega
 have e16:(k==16)=false:=by simp;omega
 have e17:(k==17)=false:=by simp;omega
 have e18:(k==18)=false:=by simp;omega
 have e19:(k==19)=false:=by simp;omega
 have e20:(k==20)=false:=by simp;omega
 have e21:(k==21)=false:=by simp;omega
 have e22:(k==22)=false:=by simp;omega
 have e23:(k==23)=false:=by simp;omega
 have e24:(k==24)=false:=by simp;omega
 have e25:(k==25)=false:=by simp;omega
 have e26:(k==26)=false:=by simp;omega
 have e27:(k==27)=false:=by simp;omega
 have e28:(k==28)=false:=by simp;omega
 have e29:(k==29)=false:=by simp;omega
 have e30:(k==30)=false:=by simp;omega
 have e31:(k==31)=false:=by simp;omega
 go_enter func137,ntmps137
 go_wp2_with fail
 have HE1:=hd (HE0.o.alloc (.cells #[.slice none 0 0,.slice none 0 0] 197));have HE3:=hd (HE1.o.alloc (.cells #[.slice none 0 0,.slice none 0 0] 197));have HB3:=hd ((HB0.o.alloc (.cells #[.slice none 0 0,.slice none 0 0] 197)).alloc (.cells #[.slice none 0 0,.slice none 0 0] 197));have HC3:=hd ((Blk.new' (w.alloc (.cells #[k,.slice A la ca,.string ⟨#[]⟩,.slice none 0 0,.string ⟨#[]⟩,.slice none 0 0,lo,hi,nn,(0:Int),.slice D ld cd,.slice none 0 0] 189)) 197 #[.slice none 0 0,.slice none 0 0] (w.heap.size+1) (by simp)).alloc (.cells #[.slice none 0 0,.slice none 0 0] 197));have HD3:=hd (Blk.new' ((w.alloc (.cells #[k,.slice A la ca,.string ⟨#[]⟩,.slice none 0 0,.string ⟨#[]⟩,.slice none 0 0,lo,hi,nn,(0:Int),.slice D ld cd,.slice none 0 0] 189)).alloc (.cells #[.slice none 0 0,.slice none 0 0] 197)) 197 #[.slice none 0 0,.slice none 0 0] (w.heap.size+1+1) (by simp));generalize ((w.alloc (.cells #[k,.slice A la ca,.string ⟨#[]⟩,.slice none 0 0,.string ⟨#[]⟩,.slice none 0 0,lo,hi,nn,(0:Int),.slice D ld cd,.slice none 0 0] 189)).alloc (.cells #[.slice none 0 0,.slice none 0 0] 197)).alloc (.cells #[.slice none 0 0,.slice none 0 0] 197)=w3 at *;generalize hwl:w.heap.size=bl at *;clear HE0 HE1 HB0;refine(Rr _).mono ?_
 rintro e w4 ⟨p,v,rfl,hE4,hpl,hpc⟩;have HE4:=hd (HE3.o.trans hE4);have HB4:=hd (HB3.o.ext hE4 (by simp));have HC4:=hd (HC3.o.ext hE4 (by simp));have HD4:=hd (HD3.o.ext hE4 (by simp));have HPC:=hd hpc;clear hE4 hpc HE3 HB3 HC3 HD3;go_wp2_with fail
 go_loopw [19] (fun i wr=>∃j:Int,i=.int .i64 j/\(0<=j/\j<=1)/\Hd (Ext [] w wr/\Blk wr bl 189 #[k,.slice A la ca,.string ⟨#[]⟩,.slice none 0 0,.string ⟨#[]⟩,.slice none 0 0,lo,hi,nn,(0:Int),.slice D ld cd,.slice none 0 0]/\Blk wr (bl+1) 197 #[.slice none 0 0,.slice none 0 0]/\(j=0->wr=w4)/\(j=1->∃g c,Blk wr (bl+1+1) 197 #[.slice none 0 0,.slice (some ⟨g,0,none⟩) 1 c]/\g<wr.heap.size/\wr.cell? ⟨g,0,none⟩=some (.int .i64 y)))) (fun i _=>(1-intOf i).toNat)
 case atStart=>exact⟨0,rfl,by omega,hd ⟨HE4.o,HB4.o,HC4.o,fun _=>rfl,fun h=>by omega⟩⟩
 case round=>
  obtain⟨j,rfl,hj,hI⟩:=hrel;rename World=>wq
  by_cases hj0:j=0
  ·subst hj0;obtain rfl:=hI.o.2.2.2.1 rfl;clear hI;have hpc:=HPC.o;have qn:=HB4.o.cell;have qnl:=HB4.o.lt;go_wp2_with fail
   clear hpc qn qnl;go_loopw [11,27] (fun r i wr=>∃(q:Nat) (u:Value),i=.int .i64 q/\u=r/\q<=n/\Hd (Ext [] wq wr/\wr.ownsRow wq.heap.size 3 1 u q (Ag3 (xs.take q)))) (fun _ i _=>(n-intOf i).toNat)
   case atStart=>exact⟨0,_,rfl,rfl,by omega,hd ⟨er,World.ownsRow_nil _ _ _ _⟩⟩
   case round=>
    obtain⟨q,rv,rfl,rfl,hq,hI⟩:=hrel;rename World=>wi
    have HEi:=hd (HE4.o.trans hI.o.1);by_cases hlt:q<n
    ·obtain⟨x,hx⟩:∃x,xs[q]? = some x:=⟨_,List.getElem?_eq_getElem (by have:=HN.o;omega)⟩;rcases HH.o.nil HEi.o with h0|⟨b,rfl,hb,hcl⟩
     ·exfalso;have:=HN.o;rw[h0] at this;simp at this;omega
     obtain⟨g,c,a1,a2,a3,a4⟩:=hcl q x hx;have HX:=hd hx;have HO:=hd hI.o.2;have HEq:=hd hI.o.1;have HA4:=hd a4;have HA3:=hd a3;clear hI hcl hx a4;go_wp2_with fail
     refine(Ahm undef none 0 v g 1 c x _ (by omega) (by simp;have:=HA3.o;omega) (((Ext.refl [] wi).alloc _).held HA4.o (by simp))).mono ?_
     rintro e w5 ⟨rfl,hE5⟩;have hEi5:=((Ext.refl [] wi).alloc (.cells #[.slice none 0 0,.slice (some g) 1 c] 197)).trans hE5;have HO5:=hd (An HO.o hEi5 (by simp));have HE5:=hd (HEq.o.trans hEi5);have hwz:=HE5.o.size;clear hE5 hEi5 a1 a2 a3
     go_wp2_with (
      refine wpList_append_own_at _ rfl _ _ 22 rfl wq.heap.size 3 i0 _ 1 8 underlying22 hi0 hz0 hz1 hz2 rfl (by decide) _ q _ rfl (An HO5.o ((Ext.refl [] w5).alloc _) (by simp)) ⟨w5.heap.size,0,none⟩ 1 1 [.int .i64 x] rfl ?c0 ?c1 ?c2 ?c3 ?c4 ?c5 ?_
      case c0=>rfl
      case c1=>exact World.news_of_block (Blk.new _ _ _)
      case c2=>intro u hu;simp at hu;subst hu;rfl
      case c3=>unfold maxLen;omega
      case c4=>omega
      case c5=>simp;omega
      intro v8 w8 ho8 hg8 hi8 ha8;have HO8:=hd ho8;have HE8:=hd ((HE5.o.alloc (.cells #[x] 3)).grown hg8 (fun z hz=>.inr (Bf HO5.o z hz)));clear ho8 hg8 hi8 ha8)
     go_roundw
     case rel=>exact⟨q+1,_,by go_num,rfl,by omega,hd ⟨HE8.o,by
      have h1:=HO8.o;have h2:xs.take (q+1)=xs.take q ++ [x]:=by rw[List.take_add_one,HX.o];rfl
      unfold Ag3 at *;rw[h2,List.map_append];exact h1⟩⟩
     case measure=>simp[intOf];omega
    ·have hqn:q=n:=by omega
     subst hqn;have hO:=hI.o.2;rw[List.take_of_length_le (by have:=HN.o;omega)] at hO;obtain⟨gv,cv,rfl,hX,hbv⟩:=Vo hO HN.o hl1;have HXI:=hd hX;have HEq:=hd hI.o.1;have qn:=(HB4.o.ext HEq.o (by simp)).cell;have qnl:=(HB4.o.ext HEq.o (by simp)).lt;clear hI hO hX;go_wp2_with fail
     refine(HP.o _ gv cv HEi.o HXI.o).mono ?_
     rintro e w5 ⟨rfl,hE5⟩;have HE5:=hd (HEq.o.trans hE5);have HD5:=hd (HD4.o.ext HE5.o (by simp));have HB5:=hd (HB4.o.ext HE5.o (by simp));have HC5:=hd (HC4.o.ext HE5.o (by simp));have qd:=HD5.o.cell;have qdl:=HD5.o.lt;have hwz:=HE5.o.size;have hwz0:=HE4.o.size;clear hE5 qn qnl
     go_wp2_with (
      refine wpList_append_own_at _ rfl _ _ 22 rfl wq.heap.size 3 i0 _ 1 8 underlying22 hi0 hz0 hz1 hz2 rfl (by decide) (.slice none 0 0) 0 [] rfl (World.ownsRow_nil _ _ _ _) ⟨w5.heap.size,0,none⟩ 1 1 [.int .i64 y] rfl ?c0 ?c1 ?c2 ?c3 ?c4 ?c5 ?_
      case c0=>rfl
      case c1=>exact World.news_of_block (Blk.new _ _ _)
      case c2=>intro u hu;simp at hu;subst hu;rfl
      case c3=>unfold maxLen;omega
      case c4=>omega
      case c5=>simp;omega
      intro v8 w8 ho8 hg8 hi8 ha8;obtain⟨g8,c8,rfl,hx8,hb8⟩:=Vo (xs:=[y]) (n:=0+1) ho8 rfl (by omega);have HX8:=hd hx8;have hE58:Ext [] w5 w8:=((Ext.refl [] w5).alloc (.cells #[y] 3)).grown hg8 (fun z hz=>by cases hz);have HE8:=hd (HE5.o.trans hE58);have HD8:=hd (HD5.o.ext hE58 (by simp));have HB8:=hd (HB5.o.ext hE58 (by simp));have HC8:=hd (HC5.o.ext hE58 (by simp));have qd8:=HD8.o.cell;have qdl8:=HD8.o.lt;have qdf8:=HD8.o.frozen;clear ho8 hg8 hi8 ha8 hx8 hE58)
     go_roundw
     case rel=>
      have hbn:bl≠bl+1+1:=by omega
      have hbn1:bl+1≠bl+1+1:=by omega
      have hgl:g8<w8.heap.size:=HX8.o.1;have hgn:g8≠bl+1+1:=by have h1:=HD4.o.lt;omega
      exact⟨1,by go_num,by omega,hd ⟨(HE4.o.trans HE8.o).setCell (.inr (by show w.heap.size<=bl+1+1;omega)) _,HB8.o.far hbn _,HC8.o.far hbn1 _,fun h=>by omega,fun _=>⟨g8,c8,HD8.o.set_' 1 _ _ rfl,by simpa using hgl,by
       rw[World.cell?_setCell_far _ _ _ _ (show bl+1+1≠g8 from Ne.symm hgn)];exact HX8.o.2 0 y rfl⟩⟩⟩
     case measure=>simp[intOf]
  ·have hj1:j=1:=by omega
   subst hj1;obtain⟨g,c,hb,hg,hc⟩:=hI.o.2.2.2.2 rfl;have HBb:=hd hb;have HEq:=hd hI.o.1;have HCq:=hd hI.o.2.2.1;have HG:=hd hg;have HGC:=hd hc;have qb:=hb.cell;have qbl:=hb.lt;have qc:=HCq.o.cell;have qcl:=HCq.o.lt;have qcf:=HCq.o.frozen;clear hI hb hg hc hj0;go_wp2_with fail
   have hcb:bl+1≠g:=by
    intro e;subst e;have h1:=HCq.o.cell 0;rw[HGC.o] at h1;cases h1
   have HF:=hd ((HCq.o.set_' 0 (.slice none 0 0) #[.slice none 0 0,.slice none 0 0] rfl).set_' 1 (.slice (some g) 1 c) #[.slice none 0 0,.slice (some g) 1 c] rfl);have HEF:Hd (Ext [] w ((wq.setCell ⟨bl+1,0,none⟩ (.slice none 0 0)).setCell ⟨bl+1,1,none⟩ (.slice (some g) 1 c))):=hd ((HEq.o.setCell (.inr (by show w.heap.size<=bl+1;omega)) _).setCell (.inr (by show w.heap.size<=bl+1;omega)) _);refine bodyPost_ret (Mb rfl _ _ (bl+1) g 1 c rfl HF.o) rfl ⟨g,c,rfl,HEF.o,by simpa using HG.o,?_⟩
   rw[World.cell?_setCell_far _ _ _ _ (show bl+1≠g from hcb),World.cell?_setCell_far _ _ _ _ (show bl+1≠g from hcb)];exact HGC.o
theorem Vp (A:Option Addr)(la ca:Nat)(lo hi nn:Int)(gd ld cd:Nat)(T:Option Addr)(ct:Nat)(y:Int)(w:World)(hl:1<=ld)(hg:gd<w.heap.size)(hc:w.cell? ⟨gd,0,none⟩=some (.int .i64 y)) :
  Calls prog 137 #[.agg (ndC 2 A la ca lo hi nn (some gd) ld cd),.slice none 0 0,.slice T 0 ct] w (TenP y w):=by
 obtain⟨i0,hi0,hz0,hz1,hz2⟩:=info_parts (show((prog).info? 3).map (fun i=>(i.zero,i.size,i.bytes))=some (some (.int .i64 0),1,8) by kernel_rfl);have HDC:=hd hc;have HDG:=hd hg;have hl0:(0:Int)<(ld:Int):=by omega
 clear hc hg;unfold ndC at *;have HB0:=hd (Blk.new w 189 #[(2:Int),.slice A la ca,.string ⟨#[]⟩,.slice none 0 0,.string ⟨#[]⟩,.slice none 0 0,lo,hi,nn,(0:Int),.slice (some gd) ld cd,.slice none 0 0]);have HE0:=hd ((Ext.refl [] w).alloc (.cells #[(2:Int),.slice A la ca,.string ⟨#[]⟩,.slice none 0 0,.string ⟨#[]⟩,.slice none 0 0,lo,hi,nn,(0:Int),.slice (some gd) ld cd,.slice none 0 0] 189));go_enter func137,ntmps137
 go_wp2_with fail
 have HE1:=hd (HE0.o.alloc (.cells #[.slice none 0 0,.slice none 0 0] 197));have HE3:=hd (HE1.o.alloc (.cells #[.slice none 0 0,.slice none 0 0] 197));have HB3:=hd ((HB0.o.alloc (.cells #[.slice none 0 0,.slice none 0 0] 197)).alloc (.cells #[.slice none 0 0,.slice none 0 0] 197));have HC3:=hd ((Blk.new' (w.alloc (.cells #[(2:Int),.slice A la ca,.string ⟨#[]⟩,.slice none 0 0,.string ⟨#[]⟩,.slice none 0 0,lo,hi,nn,(0:Int),.slice (some gd) ld cd,.slice none 0 0] 189)) 197 #[.slice none 0 0,.slice none 0 0] (w.heap.size+1) (by simp)).alloc (.cells #[.slice none 0 0,.slice none 0 0] 197));have HD3:=hd (Blk.new' ((w.alloc (.cells #[(2:Int),.slice A la ca,.string ⟨#[]⟩,.slice none 0 0,.string ⟨#[]⟩,.slice none 0 0,lo,hi,nn,(0:Int),.slice (some gd) ld cd,.slice none 0 0] 189)).alloc (.cells #[.slice none 0 0,.slice none 0 0] 197)) 197 #[.slice none 0 0,.slice none 0 0] (w.heap.size+1+1) (by simp));generalize ((w.alloc (.cells #[(2:Int),.slice A la ca,.string ⟨#[]⟩,.slice none 0 0,.string ⟨#[]⟩,.slice none 0 0,lo,hi,nn,(0:Int),.slice (some gd) ld cd,.slice none 0 0] 189)).alloc (.cells #[.slice none 0 0,.slice none 0 0] 197)).alloc (.cells #[.slice none 0 0,.slice none 0 0] 197)=w3 at *;generalize hwl:w.heap.size=bl at *;clear HE0 HE1 HB0;refine(Rr _).mono ?_
 rintro e w4 ⟨p,v,rfl,hE4,hpl,hpc⟩;have HE4:=hd (HE3.o.trans hE4);have HB4:=hd (HB3.o.ext hE4 (by simp));have HC4:=hd (HC3.o.ext hE4 (by simp));have HD4:=hd (HD3.o.ext hE4 (by simp));have HPC:=hd hpc;clear hE4 hpc HE3 HB3 HC3 HD3;go_wp2_with fail
 go_loopw [19] (fun i wr=>∃j:Int,i=.int .i64 j/\(0<=j/\j<=1)/\Hd (Ext [] w wr/\Blk wr bl 189 #[(2:Int),.slice A la ca,.string ⟨#[]⟩,.slice none 0 0,.string ⟨#[]⟩,.slice none 0 0,lo,hi,nn,(0:Int),.slice (some gd) ld cd,.slice none 0 0]/\Blk wr (bl+1) 197 #[.slice none 0 0,.slice none 0 0]/\(j=0->wr=w4)/\(j=1->∃g c,Blk wr (bl+1+1) 197 #[.slice none 0 0,.slice (some ⟨g,0,none⟩) 1 c]/\g<wr.heap.size/\wr.cell? ⟨g,0,none⟩=some (.int .i64 y)))) (fun i _=>(1-intOf i).toNat)
 case atStart=>exact⟨0,rfl,by omega,hd ⟨HE4.o,HB4.o,HC4.o,fun _=>rfl,fun h=>by omega⟩⟩
 case round=>
  obtain⟨j,rfl,hj,hI⟩:=hrel;rename World=>wq
  by_cases hj0:j=0
  ·subst hj0;obtain rfl:=hI.o.2.2.2.1 rfl;clear hI;have hpc:=HPC.o;have qn:=HB4.o.cell;have qnl:=HB4.o.lt;have qd:=HD4.o.cell;have qdl:=HD4.o.lt;have qg:=HE4.o.held HDC.o (by simp);have qgl:gd<wq.heap.size:=by have h1:=HDG.o;have h2:=HE4.o.size;omega
   have hwz0:=HE4.o.size
   go_wp2_with (
    refine wpList_append_own_at _ rfl _ _ 22 rfl wq.heap.size 3 i0 _ 1 8 underlying22 hi0 hz0 hz1 hz2 rfl (by decide) (.slice none 0 0) 0 [] rfl (World.ownsRow_nil _ _ _ _) ⟨wq.heap.size,0,none⟩ 1 1 [.int .i64 y] rfl ?c0 ?c1 ?c2 ?c3 ?c4 ?c5 ?_
    case c0=>rfl
    case c1=>exact World.news_of_block (Blk.new _ _ _)
    case c2=>intro u hu;simp at hu;subst hu;rfl
    case c3=>unfold maxLen;omega
    case c4=>omega
    case c5=>simp
    intro v8 w8 ho8 hg8 hi8 ha8;obtain⟨g8,c8,rfl,hx8,hb8⟩:=Vo (xs:=[y]) (n:=0+1) ho8 rfl (by omega);have HX8:=hd hx8;have hE58:Ext [] wq w8:=((Ext.refl [] wq).alloc (.cells #[y] 3)).grown hg8 (fun z hz=>by cases hz);have HE8:=hd (HE4.o.trans hE58);have HD8:=hd (HD4.o.ext hE58 (by simp));have HB8:=hd (HB4.o.ext hE58 (by simp));have HC8:=hd (HC4.o.ext hE58 (by simp));have qd8:=HD8.o.cell;have qdl8:=HD8.o.lt;have qdf8:=HD8.o.frozen;clear ho8 hg8 hi8 ha8 hx8 hE58)
   go_roundw
   case rel=>
    have hbn:bl≠bl+1+1:=by omega
    have hbn1:bl+1≠bl+1+1:=by omega
    have hgl:g8<w8.heap.size:=HX8.o.1;have hgn:g8≠bl+1+1:=by have h1:=HD4.o.lt;omega
    exact⟨1,by go_num,by omega,hd ⟨HE8.o.setCell (.inr (by show w.heap.size<=bl+1+1;omega)) _,HB8.o.far hbn _,HC8.o.far hbn1 _,fun h=>by omega,fun _=>⟨g8,c8,HD8.o.set_' 1 _ _ rfl,by simpa using hgl,by
     rw[World.cell?_setCell_far _ _ _ _ (show bl+1+1≠g8 from Ne.symm hgn)];exact HX8.o.2 0 y rfl⟩⟩⟩
   case measure=>simp[intOf]
  ·have hj1:j=1:=by omega
   subst hj1;obtain⟨g,c,hb,hg,hc⟩:=hI.o.2.2.2.2 rfl;have HBb:=hd hb;have HEq:=hd hI.o.1;have HCq:=hd hI.o.2.2.1;have HG:=hd hg;have HGC:=hd hc;have qb:=hb.cell;have qbl:=hb.lt;have qc:=HCq.o.cell;have qcl:=HCq.o.lt;have qcf:=HCq.o.frozen;clear hI hb hg hc hj0;go_wp2_with fail
   have hcb:bl+1≠g:=by
    intro e;subst e;have h1:=HCq.o.cell 0;rw[HGC.o] at h1;cases h1
   have HF:=hd ((HCq.o.set_' 0 (.slice none 0 0) #[.slice none 0 0,.slice none 0 0] rfl).set_' 1 (.slice (some g) 1 c) #[.slice none 0 0,.slice (some g) 1 c] rfl);have HEF:Hd (Ext [] w ((wq.setCell ⟨bl+1,0,none⟩ (.slice none 0 0)).setCell ⟨bl+1,1,none⟩ (.slice (some g) 1 c))):=hd ((HEq.o.setCell (.inr (by show w.heap.size<=bl+1;omega)) _).setCell (.inr (by show w.heap.size<=bl+1;omega)) _);refine bodyPost_ret (Mb rfl _ _ (bl+1) g 1 c rfl HF.o) rfl ⟨g,c,rfl,HEF.o,by simpa using HG.o,?_⟩
   rw[World.cell?_setCell_far _ _ _ _ (show bl+1≠g from hcb),World.cell?_setCell_far _ _ _ _ (show bl+1≠g from hcb)];exact HGC.o
end
end Go.Proofs.YtkgmhggliifkjaaGreat
