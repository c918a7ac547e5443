import Derived.Test.YtkgmhggliifkjaaGreatP02
import Derived.Lib.MinMax
namespace Go.Proofs.YtkgmhggliifkjaaGreat
open Go.RowKit Go.Proofs.Tryz
set_option linter.all false
set_option maxHeartbeats 8000000
set_option maxRecDepth 100000
def Aho (base g n N:Nat)(w:World)(e:Ending)(w':World):Prop:=
 ∃(v:Value) (xs:List Int),e=.returned v/\xs.length=N/\w'.ownsRow w.heap.size 3 1 v N (xs.map (.int .i64))/\Ext [g] w w'/\Stm w' base g n
def Vu (base g n:Nat)(w:World)(k:Nat)(v:Value)(wr:World):Prop:=
 Ext [g] w wr/\Stm wr base g n/\∃xs:List Int,xs.length=k/\wr.ownsRow w.heap.size 3 1 v k (xs.map (.int .i64))
theorem Aa4 {base g n k g2 cap2:Nat}{w wr w3 w8:World}{o:Obj}{v:Value}{xs:List Int}{x:Int}(hE:Ext [g] w wr)(hE3:Ext [g] wr w3)(h0:wr.ownsRow w.heap.size 3 1 v k (xs.map (.int .i64)))(hS:Stm w3 base g n)(hb:base<=w.heap.size)(hgw:g<w.heap.size)
  (hl:xs.length=k) (hg:(w3.alloc o).grownBy w8 v.ownBlock) (ho:w8.ownsRow w.heap.size 3 1 (.slice (some g2) (k+1) cap2) (k+1) (xs.map (.int .i64) ++ [.int .i64 x])) :
  Vu base g n w (k+1) (.slice (some g2) (k+1) cap2) w8:=by
 refine⟨((hE.trans hE3).alloc _).grown hg (fun q hq=>.inr (Bf h0 q hq)),?_,xs ++ [x],by simp[hl],by rw[List.map_append];exact ho⟩
 refine(hS.alloc o).ext (S:=v.ownBlock.toList) (er.grown hg (fun q hq=>.inl (by simp[hq]))) (fun hm=>?_) (fun y hy=>?_)
 ·have:=Bf h0 g (by simpa using hm);omega
 ·have:=Bf h0 y (by simpa using hy);omega
theorem Rz (base g n N:Nat)(w:World)(h:Stm w base g (n+N*3))(hN:N<=100000) :
  Calls prog 25 #[.pointer (some g),N] w (Aho base g n N w):=by
 obtain⟨i0,hi0,hz0,hz1,hz2⟩:=info_parts (show((prog).info? 3).map (fun i=>(i.zero,i.size,i.bytes))=some (some (.int .i64 0),1,8) by kernel_rfl);have HST:=hd h;have hgw:g<w.heap.size:=h.lt;have HBW:Hd (base<=w.heap.size):=hd (nt h.base (Nat.le_of_lt h.lt));clear h;go_enter func25,ntmps25
 go_wp2_with fail
 go_loopw [5,7] (fun v i wr=>∃k:Nat,i=.int .i64 k/\k<=N/\Hd (Vu base g (n+(N-k)*3) w k v wr)) (fun _ i _=>(N-intOf i).toNat)
 case atStart=>exact⟨0,rfl,by omega,hd ⟨er,HST.o,[],rfl,rfl,.inl ⟨rfl,rfl⟩⟩⟩
 case round=>
  obtain⟨k,rfl,hk,HLk⟩:=hrel;by_cases hlt:k<N
  ·obtain⟨hE,hS,xs,hlen,ho⟩:=HLk.o;have HE:=hd hE;have HS:=hd hS;have HO:=hd ho;have HLN:=hd hlen;have hww:w.heap.size<=wr.heap.size:=hE.size;clear hE hS hlen ho;go_wp2_with fail
   refine(Vy base g (n+(N-(k+1))*3) _ (HS.o.less (by omega))).mono ?_
   rintro e w3 ⟨r3,rfl,_,hE3,hS3⟩;have HE3:=hd hE3;have HS3:=hd hS3;have hw3:wr.heap.size<=w3.heap.size:=hE3.size;have HNG:Hd (∀q,(_:Value).ownBlock=some q->q∉[g]):=hd (fun q hq hm=>by have:=Bf HO.o q hq;rw[ms hm] at this;omega);have hg3:g<w3.heap.size:=hS3.lt;clear hE3 hS3
   go_wp2_with (
    refine wpList_append_lies _ rfl _ _ 22 rfl w.heap.size 3 i0 _ 1 8 underlying22 hi0 hz0 hz1 hz2 rfl (by decide) _ k (xs.map (.int .i64)) rfl (An HO.o (HE3.o.alloc _) HNG.o) ⟨w3.heap.size,0,none⟩ 1 1 [.int .i64 r3] rfl rfl ?c1 ?c2 (by decide) ?c3 ?c4 ?c5 _ rfl ?_
    case c1=>exact World.news_of_block (Blk.new _ _ _)
    case c2=>intro u hu;rw[ms hu];rfl
    case c3=>unfold maxLen;omega
    case c4=>omega
    case c5=>simp;omega
    intro g2 cap2 w8 ho hg ha hlt2;have HN:Hd (Vu base g (n+(N-(k+1))*3) w (k+1) (.slice (some g2) (k+1) cap2) w8):=hd (Aa4 HE.o HE3.o HO.o HS3.o HBW.o hgw HLN.o hg ho);clear ho hg ha hlt2)
   go_roundw
   case rel=>exact⟨k+1,by go_num,by omega,HN⟩
   case measure=>simp[intOf];omega
  ·obtain⟨hE,hS,xs,hlen,ho⟩:=HLk.o;have hkN:k=N:=by omega
   have HW:=hd (And.intro hlen (And.intro ho (And.intro hE hS)));clear hE hS hlen ho;go_wp2_with fail
   go_ret
   obtain⟨h1,h2,h3,h4⟩:=HW.o;subst hkN;exact⟨_,xs,rfl,h1,h2,h3,h4.less (by omega)⟩
def Aa5 (base g n:Nat)(w:World)(e:Ending)(w':World):Prop:=
 ∃(A:Option Addr) (cap:Nat) (xs:List Int),e=.returned (.slice A xs.length cap)/\xs.length<=1001/\RdI w' A xs/\Ext [g] w w'/\Stm w' base g n/\(∀a,A=some a->w.heap.size<=a.block/\a.block<w'.heap.size)
theorem Ab0 {w:World}{K k:Nat}{v:Value}{xs:List Int}(h:w.ownsRow K 3 1 v k (xs.map (.int .i64)))(hk:xs.length=k):∃A cap,v=.slice A k cap/\RdI w A xs/\∀a,A=some a->K<=a.block/\a.block<w.heap.size/\∀i,w.frozen? ⟨a.block,i,none⟩=false:=by
 rcases h.2 with⟨h1,h0⟩|⟨g,cap,cur,hv,hb,hg,hnc,_,_,ht⟩
 ·exact⟨none,0,by rw[h1,h0],.inl (List.eq_nil_of_length_eq_zero (by omega)),fun a ha=>by cases ha⟩
 ·refine⟨some g,cap,hv,.inr ⟨g,0,rfl,fun i x hx=>?_⟩,fun a ha=>by cases ha;exact⟨hb,(Array.getElem?_eq_some_iff.1 hg).1,fun i=>Blk.frozen hg i⟩⟩
  have hB:Blk w g 3 cur:=hg;have hi:=(ils hx).1;rw[Nat.zero_add,hB.cell];have h1:(xs.map (Value.int .i64))[i]? = some (.int .i64 x):=by rw[List.getElem?_map,hx];rfl
  rw[<-ht,List.getElem?_take,ijp (by omega)] at h1;simpa using h1
theorem Uk (base g n:Nat)(m:Mc)(w:World)(h:Stm w base g (n+4000)) :
  Calls prog 6 #[.pointer (some g),.agg m.cells.toArray] w (Aa5 base g n w):=by
 obtain⟨m0,m1,m2,m3,m4⟩:=m;show Calls prog 6 #[.pointer (some g),.agg #[m0,m1,m2,m3,m4]] w _
 have HB:=hd (Blk.new w 27 #[m0,m1,m2,m3,m4]);have HE0:=hd ((Ext.refl [g] w).alloc (.cells #[m0,m1,m2,m3,m4] 27));have HST:=hd (h.alloc (.cells #[m0,m1,m2,m3,m4] 27));have hgw:=h.lt;have HBW:Hd (base<=w.heap.size):=hd (nt h.base (Nat.le_of_lt h.lt));obtain⟨N,hN,hN1⟩:∃N:Nat,max 0 (min m0 1000)=(N:Int)/\N<=1000:=⟨(max 0 (min m0 1000)).toNat,by omega,by omega⟩;have hbc:=HB.o.cell;have hbl:=HB.o.lt;obtain⟨y,hy⟩:∃y,y=min m0 1000:=⟨_,rfl⟩;rw[<-hy] at hN;replace hy:=hy.symm;clear h;go_enter func6,ntmps6
 go_wp2_with fail
 refine(Bk base g (n+3990) _ _ (HST.o.less (by omega)) (by omega)).mono ?_
 rintro e w1 ⟨r,rfl,⟨hr0,hr1⟩,hE1,hS1⟩;have HE1:=hd (HE0.o.trans hE1);have HS1:=hd hS1;clear hE1 hS1 hr1 hbc hbl;by_cases h0:r=0
 ·subst h0;go_wp2_with fail
  refine(Rz base g (n+900) (N+1) _ (HS1.o.less (by omega)) (by omega)).mono ?_
  rintro e w2 ⟨v,xs,rfl,hlen,ho,hE2,hS2⟩;have HE2:=hd (HE1.o.trans hE2);have HS2:=hd hS2;obtain⟨A,cap,rfl,hR,hA⟩:=Ab0 ho hlen;have hww:=HE1.o.size;have HR:=hd hR;have HA:=hd (show ∀a,A=some a->w.heap.size<=a.block/\a.block<w2.heap.size from fun a ha=>⟨nt hww (hA a ha).1,(hA a ha).2.1⟩);have HAF:=hd (show ∀a,A=some a->∀i,w2.frozen? ⟨a.block,i,none⟩=false from fun a ha=>(hA a ha).2.2);have HL:=hd hlen;clear hE2 hS2 ho hR hA hlen hww;by_cases hp:0<((N+1):Int)
  ·go_wp2_with fail
   refine(Hw base g (n+890) 30 _ (HS2.o.less (by omega)) (by omega)).mono ?_
   rintro e w3 ⟨b,rfl,hE3,hS3⟩;have hg3:g<w3.heap.size:=hS3.lt;have HS3:=hd hS3;have HRI:=hd (HR.o.ext hE3 (fun a ha hm=>by have:=(HA.o a ha).1;rw[ms hm] at this;omega));have HE23:=hd hE3;have HE3:=hd (HE2.o.trans hE3);clear hE3 hS3;cases b
   ·go_wp2_with fail
    go_ret
    refine⟨A,cap,xs,(by first|(rw[HL.o];done)|(rw[HL.o];rfl)),by rw[HL.o];omega,HRI.o,HE3.o,HS3.o.less (by omega),fun a ha=>⟨(HA.o a ha).1,nl (HA.o a ha).2 HE23.o.size⟩⟩
   ·obtain⟨b,o,rfl,hc⟩:∃b o,A=some ⟨b,o,none⟩/\∀i x,xs[i]? = some x->w3.cell? ⟨b,o+i,none⟩=some (.int .i64 x):=by
     rcases HRI.o with h|h
     ·have h9:xs.length=0:=by rw[h];rfl
      have:=HL.o;omega
     ·exact h
    have HC:=hd hc;have hbw:=HA.o _ rfl;dsimp only at hbw;have hb3:b<w3.heap.size:=nl hbw.2 HE23.o.size;have hgb:b≠g:=by omega
    clear hc;go_wp2_with fail
    refine(Bk base g (n+880) _ _ (HS3.o.less (by omega)) (by omega)).mono ?_
    rintro e w4 ⟨q,rfl,⟨hq0,hq1⟩,hE4,hS4⟩;replace hq1:=hq1 (by omega);have HE34:=hd hE4;have HE4:=hd (HE3.o.trans hE4);have hw34:=hE4.size;have hg4:g<w4.heap.size:=hS4.lt;have HS4:=hd hS4;clear hE4 hS4;go_wp2_with fail
    refine(Cn base g (n+870) w4.heap.size 2 3 [2147483648,-2147483649] _ ((HS4.o.less (by omega)).alloc _) (Blk.new _ _ _) (by omega) (by decide)).mono ?_
    rintro e w5 ⟨p,rfl,_,hE5,hS5⟩;have hbn:b∉[g]:=by simpa using hgb
    have hE35:Ext [g] w3 w5:=(HE34.o.alloc _).trans hE5;obtain⟨z,hz⟩:∃z,xs[q.toNat]? = some z:=⟨_,List.getElem?_eq_getElem (by rw[HL.o];omega)⟩;have hcz:=hE35.held (HC.o _ z hz) hbn;have hfz:w5.frozen? ⟨b,o+q.toNat,none⟩=false:=by rw[hE35.frozen hb3 hbn,HE23.o.frozen hbw.2 hbn];exact HAF.o _ rfl _
    have hb5:b<w5.heap.size:=nl hb3 hE35.size;have HE35:=hd hE35;have HS5:=hd hS5
    have HEND:Hd (Aa5 base g n w (.returned (.slice (some ⟨b,o,none⟩) (N+1) cap)) (w5.setCell ⟨b,o+q.toNat,none⟩ p)):=by
     refine hd ⟨some ⟨b,o,none⟩,cap,xs.set q.toNat p,by rw[List.length_set,HL.o],by rw[List.length_set,HL.o];omega,.inr ⟨b,o,rfl,fun i x hx=>?_⟩,(HE3.o.trans hE35).setCell (.inr hbw.1) _,(hS5.setCell (by simp;omega) (by have:=HBW.o;simp;omega) _).less (by omega),fun a ha=>by cases ha;exact⟨hbw.1,by simp;exact hb5⟩⟩
     rw[List.getElem?_set] at hx;by_cases hi:q.toNat=i
     ·subst hi;rw[ijp rfl] at hx;split at hx
      ·cases hx
       exact World.cell?_setCell_same _ _ _ hcz
      ·cases hx
     ·rw[ijn hi] at hx;rw[World.cell?_setCell_other _ _ _ _ (fun e=>hi (by simpa using e))];exact hE35.held (HC.o i x hx) hbn
    clear hE35 hz hS5 hE5;go_wp2_with fail
    go_ret
    exact HEND.o
  ·exfalso;omega
 by_cases h1:r=1
 ·subst h1;go_wp2_with fail
  go_ret
  exact⟨none,0,[],rfl,by simp,.inl rfl,HE1.o,HS1.o.less (by omega),fun a ha=>by cases ha⟩
 have h0b:(r==0)=false:=by simpa using h0
 have h1b:(r==1)=false:=by simpa using h1
 clear h0 h1;go_wp2_with fail
 refine(Rz base g (n+900) N _ (HS1.o.less (by omega)) (by omega)).mono ?_
 rintro e w2 ⟨v,xs,rfl,hlen,ho,hE2,hS2⟩;have HE2:=hd (HE1.o.trans hE2);have HS2:=hd hS2;obtain⟨A,cap,rfl,hR,hA⟩:=Ab0 ho hlen;have hww:=HE1.o.size;have HR:=hd hR;have HA:=hd (show ∀a,A=some a->w.heap.size<=a.block/\a.block<w2.heap.size from fun a ha=>⟨nt hww (hA a ha).1,(hA a ha).2.1⟩);have HAF:=hd (show ∀a,A=some a->∀i,w2.frozen? ⟨a.block,i,none⟩=false from fun a ha=>(hA a ha).2.2);have HL:=hd hlen;clear hE2 hS2 ho hR hA hlen hww;by_cases hp:0<(N:Int)
 ·go_wp2_with fail
  refine(Hw base g (n+890) 30 _ (HS2.o.less (by omega)) (by omega)).mono ?_
  rintro e w3 ⟨b,rfl,hE3,hS3⟩;have hg3:g<w3.heap.size:=hS3.lt;have HS3:=hd hS3;have HRI:=hd (HR.o.ext hE3 (fun a ha hm=>by have:=(HA.o a ha).1;rw[ms hm] at this;omega));have HE23:=hd hE3;have HE3:=hd (HE2.o.trans hE3);clear hE3 hS3;cases b
  ·go_wp2_with fail
   go_ret
   refine⟨A,cap,xs,(by first|(rw[HL.o];done)|(rw[HL.o];rfl)),by rw[HL.o];omega,HRI.o,HE3.o,HS3.o.less (by omega),fun a ha=>⟨(HA.o a ha).1,nl (HA.o a ha).2 HE23.o.size⟩⟩
  ·obtain⟨b,o,rfl,hc⟩:∃b o,A=some ⟨b,o,none⟩/\∀i x,xs[i]? = some x->w3.cell? ⟨b,o+i,none⟩=some (.int .i64 x):=by
    rcases HRI.o with h|h
    ·have h9:xs.length=0:=by rw[h];rfl
     have:=HL.o;omega
    ·exact h
   have HC:=hd hc;have hbw:=HA.o _ rfl;dsimp only at hbw;have hb3:b<w3.heap.size:=nl hbw.2 HE23.o.size;have hgb:b≠g:=by omega
   clear hc;go_wp2_with fail
   refine(Bk base g (n+880) _ _ (HS3.o.less (by omega)) (by omega)).mono ?_
   rintro e w4 ⟨q,rfl,⟨hq0,hq1⟩,hE4,hS4⟩;replace hq1:=hq1 (by omega);have HE34:=hd hE4;have HE4:=hd (HE3.o.trans hE4);have hw34:=hE4.size;have hg4:g<w4.heap.size:=hS4.lt;have HS4:=hd hS4;clear hE4 hS4;go_wp2_with fail
   refine(Cn base g (n+870) w4.heap.size 2 3 [2147483648,-2147483649] _ ((HS4.o.less (by omega)).alloc _) (Blk.new _ _ _) (by omega) (by decide)).mono ?_
   rintro e w5 ⟨p,rfl,_,hE5,hS5⟩;have hbn:b∉[g]:=by simpa using hgb
   have hE35:Ext [g] w3 w5:=(HE34.o.alloc _).trans hE5;obtain⟨z,hz⟩:∃z,xs[q.toNat]? = some z:=⟨_,List.getElem?_eq_getElem (by rw[HL.o];omega)⟩;have hcz:=hE35.held (HC.o _ z hz) hbn;have hfz:w5.frozen? ⟨b,o+q.toNat,none⟩=false:=by rw[hE35.frozen hb3 hbn,HE23.o.frozen hbw.2 hbn];exact HAF.o _ rfl _
   have hb5:b<w5.heap.size:=nl hb3 hE35.size;have HE35:=hd hE35;have HS5:=hd hS5
   have HEND:Hd (Aa5 base g n w (.returned (.slice (some ⟨b,o,none⟩) N cap)) (w5.setCell ⟨b,o+q.toNat,none⟩ p)):=by
    refine hd ⟨some ⟨b,o,none⟩,cap,xs.set q.toNat p,by rw[List.length_set,HL.o],by rw[List.length_set,HL.o];omega,.inr ⟨b,o,rfl,fun i x hx=>?_⟩,(HE3.o.trans hE35).setCell (.inr hbw.1) _,(hS5.setCell (by simp;omega) (by have:=HBW.o;simp;omega) _).less (by omega),fun a ha=>by cases ha;exact⟨hbw.1,by simp;exact hb5⟩⟩
    rw[List.getElem?_set] at hx;by_cases hi:q.toNat=i
    ·subst hi;rw[ijp rfl] at hx;split at hx
     ·cases hx
      exact World.cell?_setCell_same _ _ _ hcz
     ·cases hx
    ·rw[ijn hi] at hx;rw[World.cell?_setCell_other _ _ _ _ (fun e=>hi (by simpa using e))];exact hE35.held (HC.o i x hx) hbn
   clear hE35 hz hS5 hE5;go_wp2_with fail
   go_ret
   exact HEND.o
 ·have hN0:N=0:=by omega
  subst hN0;go_wp2_with fail
  go_ret
  exact⟨A,cap,xs,by(rw[HL.o];try rfl),by(rw[HL.o];omega),HR.o,HE2.o,HS2.o.less (by omega),HA.o⟩
end Go.Proofs.YtkgmhggliifkjaaGreat
