import Derived.Test.YtkgmhggliifkjaaGreatP36
namespace Go.Proofs.YtkgmhggliifkjaaGreat
open Go.RowKit Go.Proofs.Tryz
set_option linter.all false
set_option maxHeartbeats 8000000
set_option maxRecDepth 100000
attribute [local irreducible] Ax
def exC (k lo hi nn:Int):Array Value:=#[(5:Int),k,lo,hi,nn,(0:Int),(0:Int),(0:Int),.slice none 0 0,.slice none 0 0]
theorem Jh {w:World}{B e s n:Nat}{v:Value}{l:List Value}(h:w.ownsRow B e s v n l){g:Nat}(hg:v.ownBlock=some g):∃C,Blk w g e C:=by
 rcases h.2 with⟨h1,_⟩|⟨g',cap,cur,h1,_,h3,_⟩
 ·rw[h1] at hg;cases hg
 ·rw[h1] at hg;cases hg;exact⟨cur,h3⟩
theorem Vr {w:World}{B e s n:Nat}{v:Value}{l:List Value}(h:w.ownsRow B e s v n l)(hn:1<=n):∃g c,v=.slice (some ⟨g,0,none⟩) n c:=by
 rcases h.2 with⟨_,h0⟩|⟨g,c,_,h1,_⟩
 ·exfalso;omega
 ·exact⟨g,c,h1⟩
structure OnR (w0:World)(b:Nat)(k lo hi nn:Int)(n:Nat)(xs:List Int)(wr:World)(j:Nat)(v u:Value)(ds:List (Nat×Nat)):Prop where
 len:ds.length=j
 ext:Ext [] w0 wr
 node:Blk wr (b+1) 189 #[k,v,.string ⟨#[]⟩,.slice none 0 0,.string ⟨#[]⟩,.slice none 0 0,lo,hi,nn,(0:Int),.slice none 0 0,.slice none 0 0]
 outs:Blk wr (b+1+1) 3 #[n]
 graph:Blk wr (b+1+1+1) 194 #[.string ⟨#[120]⟩,.slice none 0 0,u,.slice (some ⟨b+1+1,0,none⟩) 1 1,.slice none 0 0]
 args:wr.ownsRow (b+4) 3 1 v j ((List.range j).map fun q=>.int .i64 (q:Nat))
 nodes:wr.ownsRow (b+4) 189 12 u j (nsC ds)
 data:∀(q:Nat) (p:Nat×Nat),ds[q]? = some p->b+4<=p.1/\v.ownBlock≠some p.1/\∃x,xs[q]? = some x/\Blk wr p.1 3 #[.int .i64 x]
theorem Pt (k lo hi nn y:Int)(n g cap:Nat)(xs:List Int)(w:World)(hk:4<=k/\k<=15)(hx:XIn w g xs)(hn:xs.length=n)(hl:1<=n/\n<=3)(hP:PwP k lo hi nn y n xs w) :
  Calls prog 118 #[.agg (exC k lo hi nn),.slice (some g) n cap] w fun e w'=>e=.returned (.int .i64 y)/\Ext [] w w':=by
 obtain⟨i0,hi0,hz0,hz1,hz2⟩:=info_parts (show((prog).info? 3).map (fun i=>(i.zero,i.size,i.bytes))=some (some (.int .i64 0),1,8) by kernel_rfl);obtain⟨i1,hj0,hy0,hy1,hy2⟩:=info_parts (show((prog).info? 189).map (fun i=>(i.zero,i.size,i.bytes))=some (some (.agg (ndC 0 none 0 0 0 0 0 none 0 0)),12,192) by kernel_rfl);have HX:=hd hx;have HN:=hd hn;have HK:=hd hk;have HP:=hd hP;obtain⟨hl1,hl2⟩:=hl;clear hx hn hk hP;unfold exC;go_enter func118,ntmps118
 go_wp2_with fail
 go_loopw [24] (fun i wr=>∃(j:Nat) (v u:Value) (ds:List (Nat×Nat)),i=.int .i64 j/\j<=n/\Hd (OnR w w.heap.size k lo hi nn n xs wr j v u ds)) (fun i _=>(n-intOf i).toNat)
 case atStart=>
  refine⟨0,.slice none 0 0,.slice none 0 0,[],rfl,by omega,hd ⟨rfl,(((er.alloc _).alloc _).alloc _).alloc _,?_,?_,?_,World.ownsRow_nil _ _ _ _,World.ownsRow_nil _ _ _ _,fun q p hq=>by simp at hq⟩⟩
  ·exact((Blk.new' _ _ _ _ (by simp)).alloc _).alloc _
  ·exact(Blk.new' _ _ _ _ (by simp)).alloc _
  ·exact Blk.new' _ _ _ _ (by simp)
 case round=>
  obtain⟨j,v,u,ds,rfl,hj,hO⟩:=hrel;rename World=>wi
  by_cases hlt:j<n
  ·obtain⟨x,hx⟩:∃x,xs[j]? = some x:=⟨_,List.getElem?_eq_getElem (by have:=HN.o;omega)⟩;have qx:=hO.o.ext.held (HX.o.2 j x hx) (by simp);have qxl:g<wi.heap.size:=nl HX.o.1 hO.o.ext.size;have qn:=hO.o.node.cell;have qnl:=hO.o.node.lt;have qnf:=hO.o.node.frozen;have qg:=hO.o.graph.cell;have qgl:=hO.o.graph.lt;have qgf:=hO.o.graph.frozen;have hjI:((j:Nat):Int)<(n:Int):=by omega
   have HXJ:=hd hx;clear hx;go_upto_region 6 with fail
   clear qx qxl qn qnl qnf;have HO:=hO;have hwz:w.heap.size+4<=wi.heap.size:=by have:=hO.o.graph.lt;omega
   clear hO
   go_upto_region 7 with(first
    | (
      refine wpList_append_own_at _ rfl _ _ 191 rfl (w.heap.size+4) 189 i1 _ 12 192 underlying191 hj0 hy0 hy1 hy2 rfl (by decide) u j _ rfl (An HO.o.nodes (((Ext.refl [] wi).alloc _).alloc _) (by simp)) ⟨wi.heap.size+1,0,none⟩ 1 1 (ndC 2 none 0 0 0 0 0 (some wi.heap.size) 1 1).toList rfl ?c0 ?c1 ?c2 ?c3 ?c4 ?c5 ?_
      case c0=>rfl
      case c1=>exact World.news_of_block (Blk.new' _ _ _ _ (by simp))
      case c2=>intro u hu;simp[ndC] at hu;rcases hu with rfl|rfl|rfl|rfl|rfl|rfl|rfl|rfl|rfl|rfl|rfl|rfl<;>rfl
      case c3=>unfold maxLen;omega
      case c4=>omega
      case c5=>simp;omega
      intro v8 w8 ho8 hg8 hi8 ha8;have HD0:=hd (((Blk.new wi 3 #[x]).alloc (.cells (ndC 2 none 0 0 0 0 0 (some wi.heap.size) 1 1) 189)));have HE8:=hd ((((Ext.refl u.ownBlock.toList wi).alloc (.cells #[x] 3)).alloc (.cells (ndC 2 none 0 0 0 0 0 (some wi.heap.size) 1 1) 189)).grown hg8 (fun z hz=>.inl (by rw[hz];simp)))
      have HL8:Hd (∀z∈u.ownBlock.toList,w.heap.size+4<=z/\z<wi.heap.size/\∃C,Blk wi z 189 C):=hd (fun z hz=>by
       have h1:u.ownBlock=some z:=by simpa using hz
       exact⟨Bf HO.o.nodes z h1,(HO.o.nodes.lt z h1).2,Jh HO.o.nodes h1⟩)
      have HG8:=hd (HO.o.graph.ext HE8.o (fun hm=>by have:=(HL8.o _ hm).1;omega));have HN8:=hd (HO.o.node.ext HE8.o (fun hm=>by have:=(HL8.o _ hm).1;omega));obtain⟨g8,c8,rfl⟩:=Vr ho8 (by omega);have HR8:=hd ho8;have HGR:=hd hg8;have qg8:=HG8.o.cell;have qgl8:=HG8.o.lt;have qgf8:=HG8.o.frozen;clear ho8 hg8 hi8 ha8)
    | fail)
   clear qg qgl qgf qg8 qgl8 qgf8;have HE9:Hd (Ext ((w.heap.size+1+1+1) :: u.ownBlock.toList) wi (w8.setCell ⟨w.heap.size+1+1+1,2,none⟩ (.slice (some g8) (j+1) c8))):=hd ((HE8.o.mono (fun x hx=>.inl (by simp[hx]))).setCell (.inl (by simp)) _);have HN9:=hd (HN8.o.far (p:=⟨w.heap.size+1+1+1,2,none⟩) (show w.heap.size+1≠w.heap.size+1+1+1 by omega) (.slice (some g8) (j+1) c8));have HG9:=hd (HG8.o.set_' 2 (.slice (some g8) (j+1) c8) _ rfl);have HR9:=hd (An HR8.o ((Ext.refl [w.heap.size+1+1+1] w8).setCell (p:=⟨w.heap.size+1+1+1,2,none⟩) (.inl (by simp)) (.slice (some g8) (j+1) c8)) (fun z hz hm=>by have h1:=Bf HR8.o z hz;simp at hm;omega))
   have HD9:Hd (Blk (w8.setCell ⟨w.heap.size+1+1+1,2,none⟩ (.slice (some g8) (j+1) c8)) wi.heap.size 3 #[x]):=hd (by
    have hEx:Ext u.ownBlock.toList ((wi.alloc (.cells #[x] 3)).alloc (.cells (ndC 2 none 0 0 0 0 0 (some wi.heap.size) 1 1) 189)) w8:=er.grown HGR.o (fun z hz=>.inl (by rw[hz];simp));exact(HD0.o.ext hEx (fun hm=>by have:=(HL8.o _ hm).2.1;omega)).far (show wi.heap.size≠w.heap.size+1+1+1 by omega) _)
   generalize w8.setCell ⟨w.heap.size+1+1+1,2,none⟩ (.slice (some g8) (j+1) c8)=w9 at *
   have HI9:Hd (∀z C,Blk wi z 3 C->w.heap.size+4<=z\/z=w.heap.size+1+1->z∉(w.heap.size+1+1+1) :: u.ownBlock.toList):=hd (fun z C hC h0 hm=>by
    rcases List.mem_cons.1 hm with h1|h1
    ·omega
    ·obtain⟨_,_,C',hC'⟩:=HL8.o _ h1;exact absurd rfl (Blk.apart hC hC' (by decide)))
   have HV9:=hd (An HO.o.args HE9.o (fun z hz hm=>by
    obtain⟨C,hC⟩:=Jh HO.o.args hz;exact HI9.o z C hC (.inl (Bf HO.o.args z hz)) hm))
   have qn:=HN9.o.cell;have qnl:=HN9.o.lt;have hwz9:wi.heap.size<=w9.heap.size:=HE9.o.size
   go_upto_region 8 with(first
    | (
      refine wpList_append_own_at _ rfl _ _ 22 rfl (w.heap.size+4) 3 i0 _ 1 8 underlying22 hi0 hz0 hz1 hz2 rfl (by decide) v j _ rfl (An HV9.o ((Ext.refl [] w9).alloc _) (by simp)) ⟨w9.heap.size,0,none⟩ 1 1 [.int .i64 (j:Nat)] rfl ?c0 ?c1 ?c2 ?c3 ?c4 ?c5 ?_
      case c0=>rfl
      case c1=>exact World.news_of_block (Blk.new _ _ _)
      case c2=>intro u hu;simp at hu;subst hu;rfl
      case c3=>unfold maxLen;omega
      case c4=>omega
      case c5=>simp;omega
      intro v10 w10 ho10 hg10 hi10 ha10;have HE10:=hd (((Ext.refl v.ownBlock.toList w9).alloc (.cells #[(j:Nat)] 3)).grown hg10 (fun z hz=>.inl (by rw[hz];simp)));have HN10:=hd (HN9.o.ext HE10.o (fun hm=>by have:=Bf HV9.o _ (show v.ownBlock=some (w.heap.size+1) by simpa using hm);omega));obtain⟨g10,c10,rfl⟩:=Vr ho10 (by omega);have HR10:=hd ho10;have HA10:=hd ha10;have qn10:=HN10.o.cell;have qnl10:=HN10.o.lt;have qnf10:=HN10.o.frozen;clear ho10 hg10 hi10 ha10)
    | fail)
   have hLv:∀z∈v.ownBlock.toList,w.heap.size+4<=z/\∃C,Blk w9 z 3 C:=fun z hz=>by
    have h1:v.ownBlock=some z:=by simpa using hz
    exact⟨Bf HV9.o z h1,Jh HV9.o h1⟩
   have HLV:=hd hLv;clear hLv qn qnl;go_wp2_with fail
   go_roundw
   case rel=>
    refine⟨j+1,_,.slice (some g8) (j+1) c8,ds ++ [(wi.heap.size,1)],by go_num,by omega,hd ⟨by rw[List.length_append,HO.o.len];rfl,?_,HN10.o.set_' 1 _ _ rfl,?_,?_,?_,?_,?_⟩⟩
    ·have hb3:∀z∈(w.heap.size+1+1+1) :: u.ownBlock.toList,w.heap.size<=z:=fun z hz=>by
      rcases List.mem_cons.1 hz with h1|h1
      ·omega
      ·have:=(HL8.o z h1).1;omega
     exact Ext.setAt (.inr (by omega)) ((HO.o.ext.step HE9.o (fun z hz=>.inr (hb3 z hz))).step HE10.o (fun z hz=>.inr (by have:=(HLV.o z hz).1;omega)))
    ·exact((HO.o.outs.ext HE9.o (HI9.o _ _ HO.o.outs (.inr rfl))).ext HE10.o (fun hm=>by have:=(HLV.o _ hm).1;omega)).far (show w.heap.size+1+1≠w.heap.size+1 by omega) _
    ·exact(HG9.o.ext HE10.o (fun hm=>by have:=(HLV.o _ hm).1;omega)).far (show w.heap.size+1+1+1≠w.heap.size+1 by omega) _
    ·have h1:=An HR10.o ((Ext.refl [w.heap.size+1] w10).setCell (p:=⟨w.heap.size+1,1,none⟩) (.inl (by simp)) (.slice (some g10) (j+1) c10)) (fun z hz hm=>by have h1:=Bf HR10.o z hz;simp at hm;omega);rw[List.range_succ,List.map_append];exact h1
    ·have h1:=An HR9.o HE10.o (fun z hz hm=>by
      obtain⟨C,hC⟩:=Jh HR9.o hz;obtain⟨C',hC'⟩:=(HLV.o z hm).2;exact absurd rfl (Blk.apart hC hC' (by decide)))
     have h2:=An h1 ((Ext.refl [w.heap.size+1] w10).setCell (p:=⟨w.heap.size+1,1,none⟩) (.inl (by simp)) (.slice (some g10) (j+1) c10)) (fun z hz hm=>by have h3:=Bf h1 z hz;simp at hm;omega);rw[Afs];exact h2
    ·intro q p hq
     have hfr:∀z,z<w9.heap.size->v.ownBlock≠some z->(Value.slice (some g10) (j+1) c10).ownBlock≠some z:=fun z hz hv he=>by
      rcases HA10.o with h1|h1
      ·rw[h1] at he;exact hv he
      ·rw[h1] at he;simp at he;omega
     by_cases hqj:q<ds.length
     ·rw[List.getElem?_append_left hqj] at hq;obtain⟨h1,h2,x',h3,h4⟩:=HO.o.data q p hq;have h5:=h4.ext HE9.o (HI9.o _ _ h4 (.inl h1));exact⟨h1,hfr _ h5.lt h2,x',h3,(h5.ext HE10.o (by simpa using h2)).far (show p.1≠w.heap.size+1 by omega) _⟩
     ·rw[List.getElem?_append_right (by omega)] at hq
      obtain⟨hq0,hq1⟩:q-ds.length=0/\p=(wi.heap.size,1):=by
       cases hz:q-ds.length with
       | zero=>rw[hz] at hq;simp at hq;exact⟨rfl,hq.symm⟩
       | succ z=>rw[hz] at hq;simp at hq
      subst hq1;have hqe:q=j:=by have:=HO.o.len;omega
      have hvn:v.ownBlock≠some wi.heap.size:=fun he=>by have:=(HO.o.args.lt _ he).2;omega
      refine⟨by omega,hfr _ HD9.o.lt hvn,x,by rw[hqe];exact HXJ.o,(HD9.o.ext HE10.o (by simpa using hvn)).far (show wi.heap.size≠w.heap.size+1 by omega) _⟩
   case measure=>simp[intOf];omega
  ·obtain rfl:j=n:=by omega
   have qn:=hO.o.node.cell;have qnl:=hO.o.node.lt;have qg:=hO.o.graph.cell;have qgl:=hO.o.graph.lt;have qgf:=hO.o.graph.frozen;obtain⟨ga,ca,rfl⟩:=Vr hO.o.args hl1;have HO:=hO;have hwz:w.heap.size+4<=wi.heap.size:=by have:=hO.o.graph.lt;omega
   clear hO
   go_upto_region 10 with(first
    | (
      refine wpList_append_own_at _ rfl _ _ 191 rfl (w.heap.size+4) 189 i1 _ 12 192 underlying191 hj0 hy0 hy1 hy2 rfl (by decide) u j _ rfl (An HO.o.nodes ((Ext.refl [] wi).alloc _) (by simp)) ⟨wi.heap.size,0,none⟩ 1 1 (ndC k (some ga) j ca lo hi nn none 0 0).toList rfl ?c0 ?c1 ?c2 ?c3 ?c4 ?c5 ?_
      case c0=>rfl
      case c1=>exact World.news_of_block (Blk.new _ _ _)
      case c2=>intro u hu;simp[ndC] at hu;rcases hu with rfl|rfl|rfl|rfl|rfl|rfl|rfl|rfl|rfl|rfl|rfl|rfl<;>rfl
      case c3=>unfold maxLen;omega
      case c4=>omega
      case c5=>simp;omega
      intro v8 w8 ho8 hg8 hi8 ha8;have HE8:=hd (((Ext.refl u.ownBlock.toList wi).alloc (.cells (ndC k (some ga) j ca lo hi nn none 0 0) 189)).grown hg8 (fun z hz=>.inl (by rw[hz];simp)))
      have HL8:Hd (∀z∈u.ownBlock.toList,w.heap.size+4<=z/\z<wi.heap.size/\∃C,Blk wi z 189 C):=hd (fun z hz=>by
       have h1:u.ownBlock=some z:=by simpa using hz
       exact⟨Bf HO.o.nodes z h1,(HO.o.nodes.lt z h1).2,Jh HO.o.nodes h1⟩)
      have HG8:=hd (HO.o.graph.ext HE8.o (fun hm=>by have:=(HL8.o _ hm).1;omega));obtain⟨g8,c8,rfl⟩:=Vr ho8 (by omega);have HR8:=hd ho8;have qg8:=HG8.o.cell;have qgl8:=HG8.o.lt;have qgf8:=HG8.o.frozen;clear ho8 hg8 hi8 ha8)
    | fail)
   clear qg qgl qgf qg8 qgl8 qgf8 qn qnl;have HE9:Hd (Ext ((w.heap.size+1+1+1) :: u.ownBlock.toList) wi (w8.setCell ⟨w.heap.size+1+1+1,2,none⟩ (.slice (some g8) (j+1) c8))):=hd ((HE8.o.mono (fun x hx=>.inl (by simp[hx]))).setCell (.inl (by simp)) _);have HG9:=hd (HG8.o.set_' 2 (.slice (some g8) (j+1) c8) _ rfl);have HR9:=hd (An HR8.o ((Ext.refl [w.heap.size+1+1+1] w8).setCell (p:=⟨w.heap.size+1+1+1,2,none⟩) (.inl (by simp)) (.slice (some g8) (j+1) c8)) (fun z hz hm=>by have h1:=Bf HR8.o z hz;simp at hm;omega));generalize w8.setCell ⟨w.heap.size+1+1+1,2,none⟩ (.slice (some g8) (j+1) c8)=w9 at *
   have HI9:Hd (∀z C,Blk wi z 3 C->w.heap.size+4<=z\/z=w.heap.size+1+1->z∉(w.heap.size+1+1+1) :: u.ownBlock.toList):=hd (fun z C hC h0 hm=>by
    rcases List.mem_cons.1 hm with h1|h1
    ·omega
    ·obtain⟨_,_,C',hC'⟩:=HL8.o _ h1;exact absurd rfl (Blk.apart hC hC' (by decide)))
   have HV9:=hd (An HO.o.args HE9.o (fun z hz hm=>by
    obtain⟨C,hC⟩:=Jh HO.o.args hz;exact HI9.o z C hC (.inl (Bf HO.o.args z hz)) hm))
   have HO9:=hd (HO.o.outs.ext HE9.o (HI9.o _ _ HO.o.outs (.inr rfl)))
   have HEw:Hd (Ext [] w w9):=hd (HO.o.ext.step HE9.o (fun z hz=>.inr (by
    rcases List.mem_cons.1 hz with h1|h1
    ·omega
    ·have:=(HL8.o z h1).1;omega)))
   have hdsin:DsIn w9 ds xs:=fun q p hq=>by
    obtain⟨h1,h2,x',h3,h4⟩:=HO.o.data q p hq;have h5:=h4.ext HE9.o (HI9.o _ _ h4 (.inl h1));exact⟨h5.lt,x',h3,(h5.cell 0).trans (by simp)⟩
   have hgaB:=Jh HV9.o (g:=ga) rfl
   obtain⟨g',c',hv',hnd⟩:=Qe.of (k:=k) (lo:=lo) (hi:=hi) (nn:=nn) (ga:=ga) (ca:=ca) HR9.o hdsin HO.o.len HN.o (by obtain⟨C,hC⟩:=hgaB;exact hC.lt) (fun q hq=>by
    have h1:=HV9.o.cells (g:=ga) rfl q (.int .i64 (q:Nat)) (by rw[List.getElem?_map,List.getElem?_range hq];rfl);rw[Addr.add_mk,Nat.zero_add] at h1;exact h1)
   cases hv'
   have HEV:=hd (Afo k lo hi nn y g8 j c8 (w.heap.size+1+1) 1 xs w9 HK.o hnd HN.o ⟨hl1,hl2⟩ (HP.o.nil HEw.o) HO9.o.lt ((HO9.o.cell 0).trans (by simp)));clear hnd hdsin hgaB;have qg:=HG9.o.cell;have qgl:=HG9.o.lt;go_wp2_with fail
   refine HEV.o.mono ?_
   rintro e w1 ⟨g,c,gy,cy,rfl,hE1,a1,a2,a3,a4⟩;have HE1:=hd (HEw.o.trans hE1);clear hE1 qg qgl;go_wp2_with fail
   go_ret
   exact⟨rfl,HE1.o⟩
end Go.Proofs.YtkgmhggliifkjaaGreat
