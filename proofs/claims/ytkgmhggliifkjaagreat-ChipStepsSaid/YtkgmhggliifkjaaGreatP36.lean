import Derived.Test.YtkgmhggliifkjaaGreatP34
import Derived.Test.YtkgmhggliifkjaaGreatP32
namespace Go.Proofs.YtkgmhggliifkjaaGreat
open Go.RowKit Go.Proofs.Tryz
set_option linter.all false
set_option maxHeartbeats 8000000
set_option maxRecDepth 100000
section
attribute [local irreducible] Ax
def Ady (w:World)(b o:Nat)(C:Array Value):Prop:=∀i v,C[i]? = some v->w.cell? ⟨b,o+i,none⟩=some v
theorem Ady.nil {w w':World}{b o:Nat}{C:Array Value}(h:Ady w b o C)(hE:Ext [] w w'):Ady w' b o C:=fun i v hv=>hE.held (h i v hv) (by simp)
structure Qe (w:World)(bn:Nat)(k lo hi nn:Int)(n:Nat)(xs:List Int):Prop where
 lt:bn<w.heap.size
 con:∀j x,xs[j]? = some x->∃gd cd,Ady w bn (j*12) (ndC 2 none 0 0 0 0 0 (some ⟨gd,0,none⟩) 1 cd)/\gd<w.heap.size/\w.cell? ⟨gd,0,none⟩=some (.int .i64 x)
 op:∃ga ca,Ady w bn (n*12) (ndC k (some ⟨ga,0,none⟩) n ca lo hi nn none 0 0)/\ga<w.heap.size/\∀j:Nat,j<n->w.cell? ⟨ga,j,none⟩=some (.int .i64 j)
theorem Qe.nil {w w':World}{bn n:Nat}{k lo hi nn:Int}{xs:List Int}(h:Qe w bn k lo hi nn n xs)(hE:Ext [] w w'):Qe w' bn k lo hi nn n xs where
 lt:=nl h.lt hE.size
 con:=fun j x hj=>by obtain⟨gd,cd,h1,h2,h3⟩:=h.con j x hj;exact⟨gd,cd,h1.nil hE,nl h2 hE.size,hE.held h3 (by simp)⟩
 op:=by obtain⟨ga,ca,h1,h2,h3⟩:=h.op;exact⟨ga,ca,h1.nil hE,nl h2 hE.size,fun j hj=>hE.held (h3 j hj) (by simp)⟩
theorem Vq {w:World}{B n:Nat}{v:Value}(h:w.ownsRow B 186 1 v n (List.replicate n (.slice none 0 0)))(hn:1<=n):∃g c,v=.slice (some ⟨g,0,none⟩) n c/\NIn w (some ⟨g,0,none⟩) n/\B<=g:=by
 rcases h.2 with⟨hv,hx⟩|⟨g,c,cur,hv,hb,hg,hc⟩
 ·exfalso;omega
 ·have hB:Blk w g 186 cur:=hg;have hcell:=h.cells (g:=g) (by rw[hv];rfl);refine⟨g,c,hv,.inr ⟨g,rfl,hB.lt,fun j hj=>?_⟩,hb⟩
  have:=hcell j (.slice none 0 0) (by rw[List.getElem?_replicate,ijp hj]);rw[Addr.add_mk,Nat.zero_add] at this;exact this
theorem Abw {w w8:World}{ob:Obj}{b B e n t:Nat}{u:Value}{l:List Value}{C:Array Value}(h:Blk w b t C)(ho:w.ownsRow B e 1 u n l)(hne:e≠t)(hg:(w.alloc ob).grownBy w8 u.ownBlock):Blk w8 b t C:=by
 have hE:Ext u.ownBlock.toList w w8:=((Ext.refl _ w).alloc ob).grown hg (fun z hz=>.inl (by rw[hz];simp));refine h.ext hE (fun hm=>?_)
 have h1:u.ownBlock=some b:=by simpa using hm
 obtain⟨C',hC⟩:=Ea ho h1;exact absurd rfl (Blk.apart hC h hne)
def WkP (n:Nat)(w:World)(e:Ending)(w':World):Prop:=∃g c t,e=.returned (.tuple #[.int .i64 t,.slice (some ⟨g,0,none⟩) n c])/\Ext [] w w'/\NIn w' (some ⟨g,0,none⟩) n
theorem Aas (k lo hi nn:Int)(bn n cn bo co:Nat)(xs:List Int)(w:World)(hk:4<=k/\k<=15)(h:Qe w bn k lo hi nn n xs)(hn:xs.length=n)(hl:1<=n/\n<=3) :
  Calls prog 133 #[.agg #[.string ⟨#[120]⟩,.slice none 0 0,.slice (some bn) (n+1) cn,.slice (some bo) 1 co,.slice none 0 0]] w (WkP (n+1) w):=by
 obtain⟨i0,hi0,hz0,hz1,hz2⟩:=info_parts (show((prog).info? 186).map (fun i=>(i.zero,i.size,i.bytes))=some (some (.slice none 0 0),1,24) by kernel_rfl);have HH:=hd h;have HN:=hd hn;have HK:=hd hk;obtain⟨hl1,hl2⟩:=hl;clear h hn hk;have HB0:=hd (Blk.new w 194 #[.string ⟨#[120]⟩,.slice none 0 0,.slice (some bn) (n+1) cn,.slice (some bo) 1 co,.slice none 0 0]);have HE0:=hd ((Ext.refl [] w).alloc (.cells #[.string ⟨#[120]⟩,.slice none 0 0,.slice (some bn) (n+1) cn,.slice (some bo) 1 co,.slice none 0 0] 194));go_enter func133,ntmps133
 go_wp2_with fail
 generalize w.alloc (.cells #[.string ⟨#[120]⟩,.slice none 0 0,.slice (some bn) (n+1) cn,.slice (some bo) 1 co,.slice none 0 0] 194)=w0 at *;generalize hwl:w.heap.size=bl at *;go_loopw [4,5,25] (fun a b i wr=>a=.slice none 0 0/\b=.slice none 0 0/\i=.int .i64 0/\Hd (wr=w0)) (fun _ _ _ _=>0)
 case atStart=>exact⟨rfl,rfl,rfl,hd rfl⟩
 case round=>
  obtain⟨rfl,rfl,rfl,HW⟩:=hrel;obtain rfl:=HW.o;rename World=>w0
  have qg:=HB0.o.cell;have qgl:=HB0.o.lt;go_wp2_with fail
  clear qg qgl;go_loopw [13,14,75] (fun tv sv i wr=>∃(j:Nat) (u:Value) (t:Int),tv=.int .i64 t/\u=sv/\i=.int .i64 j/\j<=n+1/\(j<=n->t=0)/\Hd (Ext [] w0 wr/\wr.ownsRow w0.heap.size 186 1 u j (List.replicate j (.slice none 0 0)))) (fun _ _ i _=>(n+1-intOf i).toNat)
  case atStart=>exact⟨0,_,0,rfl,rfl,rfl,by omega,fun _=>rfl,hd ⟨er,World.ownsRow_nil _ _ _ _⟩⟩
  case round=>
   obtain⟨j,u,t,rfl,rfl,rfl,hj,ht,hI⟩:=hrel;rename World=>wi
   have HEi:=hd (HE0.o.trans hI.o.1);have HN2:=hd (HH.o.nil HEi.o);by_cases hlt:j<n
   ·obtain rfl:=ht (by omega);obtain⟨x,hx⟩:∃x,xs[j]? = some x:=⟨_,List.getElem?_eq_getElem (by have:=HN.o;omega)⟩;obtain⟨gd,cd,hc,hgd,hgc⟩:=HN2.o.con j x hx;unfold ndC at hc;have c0:=hc 0 _ rfl;have c1:=hc 1 _ rfl;have c2:=hc 2 _ rfl;have c3:=hc 3 _ rfl;have c4:=hc 4 _ rfl;have c5:=hc 5 _ rfl;have c6:=hc 6 _ rfl;have c7:=hc 7 _ rfl;have c8:=hc 8 _ rfl;have c9:=hc 9 _ rfl;have c10:=hc 10 _ rfl;have c11:=hc 11 _ rfl;rw[Nat.add_zero] at c0;have hbn:=HN2.o.lt;have HI:=hd hI.o;have hjI:((j:Nat):Int)<(n:Int)+1:=by omega
    clear hI hc hgc hx ht;have HX:=hd (Blk.new wi 189 #[(2:Int),.slice none 0 0,.string ⟨#[]⟩,.slice none 0 0,.string ⟨#[]⟩,.slice none 0 0,(0:Int),(0:Int),(0:Int),(0:Int),.slice (some gd) 1 cd,.slice none 0 0]);have HEx:=hd ((Ext.refl [] wi).alloc (.cells #[(2:Int),.slice none 0 0,.string ⟨#[]⟩,.slice none 0 0,.string ⟨#[]⟩,.slice none 0 0,(0:Int),(0:Int),(0:Int),(0:Int),.slice (some gd) 1 cd,.slice none 0 0] 189));go_wp2_with fail
    clear c0 c1 c2 c3 c4 c5 c6 c7 c8 c9 c10 c11;generalize wi.alloc (.cells #[(2:Int),.slice none 0 0,.string ⟨#[]⟩,.slice none 0 0,.string ⟨#[]⟩,.slice none 0 0,(0:Int),(0:Int),(0:Int),(0:Int),.slice (some gd) 1 cd,.slice none 0 0] 189)=w2 at *;generalize hwi:wi.heap.size=bi at *;go_loopw [17,82] (fun r i wr=>r=.slice none 0 0/\i=.int .i64 0/\Hd (wr=w2)) (fun _ _ _=>0)
    case atStart=>exact⟨rfl,rfl,hd rfl⟩
    case round=>
     obtain⟨rfl,rfl,HW⟩:=hrel;obtain rfl:=HW.o;rename World=>w2
     have qx:=HX.o.cell;have qxl:=HX.o.lt;go_wp2_with fail
     refine(Ug w2.heap.size 2 none 0 0 0 0 0 (some gd) 1 cd none 0 0 _ (.inl rfl) (.inl rfl) (by omega) (by omega) ((Blk.new w2 224 #[.slice none 0 0,.slice none 0 0,.bool false]).cell 2) (Blk.new w2 224 #[.slice none 0 0,.slice none 0 0,.bool false]).lt).mono ?_
     rintro e w3 ⟨rfl,hE3⟩;have hE23:=((Ext.refl [] w2).alloc (.cells #[.slice none 0 0,.slice none 0 0,.bool false] 224)).trans hE3;have HX3:=hd (HX.o.ext hE23 (by simp));have hEi3:=HEx.o.trans hE23;have HO3:=hd (An HI.o.2 hEi3 (by simp));have HE3:=hd (HI.o.1.trans hEi3);have hwz:=HE3.o.size;clear hE3 hE23 hEi3 qx qxl
     go_wp2_with (
      refine wpList_append_own_at _ rfl _ _ 210 rfl w0.heap.size 186 i0 _ 1 24 underlying210 hi0 hz0 hz1 hz2 rfl (by decide) u j _ rfl (An HO3.o ((Ext.refl [] w3).alloc _) (by simp)) ⟨w3.heap.size,0,none⟩ 1 1 [.slice none 0 0] rfl ?c0 ?c1 ?c2 ?c3 ?c4 ?c5 ?_
      case c0=>rfl
      case c1=>exact World.news_of_block (Blk.new _ _ _)
      case c2=>intro u hu;simp at hu;subst hu;rfl
      case c3=>unfold maxLen;omega
      case c4=>omega
      case c5=>simp;omega
      intro v8 w8 ho8 hg8 hi8 ha8;have HO8:=hd ho8;have HE8:=hd ((HE3.o.alloc (.cells #[.slice none 0 0] 186)).grown hg8 (fun z hz=>.inr (Bf HO3.o z hz)));have HX8:=hd (Abw HX3.o HO3.o (by decide) hg8);have qx8:=HX8.o.cell;have qxl8:=HX8.o.lt;clear ho8 hg8 hi8 ha8)
     refine(Uh 2 none 0 0 0 0 0 (some gd) 1 cd none 0 0 _ (.inl rfl)).mono ?_
     rintro e w9 ⟨rfl,hE9⟩;have HE9:=hd (HE8.o.trans hE9);have HO9:=hd (An HO8.o hE9 (by simp));clear hE9 qx8 qxl8;go_wp2_with fail
     go_roundw
     case rel=>exact⟨j+1,_,0,by go_num,rfl,by go_num,by omega,fun _=>rfl,hd ⟨HE9.o,by rw[List.replicate_succ'];exact HO9.o⟩⟩
     case measure=>simp[intOf];omega
   ·by_cases hj2:j=n
    ·subst hj2;obtain rfl:=ht (by omega);obtain⟨ga,ca,hc,hga,hgc⟩:=HN2.o.op;obtain⟨gs,cs,rfl,hns,-⟩:=Vq hI.o.2 hl1;unfold ndC at hc;have c0:=hc 0 _ rfl;have c1:=hc 1 _ rfl;have c2:=hc 2 _ rfl;have c3:=hc 3 _ rfl;have c4:=hc 4 _ rfl;have c5:=hc 5 _ rfl;have c6:=hc 6 _ rfl;have c7:=hc 7 _ rfl;have c8:=hc 8 _ rfl;have c9:=hc 9 _ rfl;have c10:=hc 10 _ rfl;have c11:=hc 11 _ rfl;rw[Nat.add_zero] at c0;have hbn:=HN2.o.lt;have HI:=hd hI.o;have HNS:=hd hns;have HGC:=hd hgc;have HGA:=hd hga;have hjI:((j:Nat):Int)<(j:Int)+1:=by omega
     clear hI hc hgc hga hns ht;have HX:=hd (Blk.new wi 189 #[k,.slice (some ga) j ca,.string ⟨#[]⟩,.slice none 0 0,.string ⟨#[]⟩,.slice none 0 0,lo,hi,nn,(0:Int),.slice none 0 0,.slice none 0 0]);have HEx:=hd ((Ext.refl [] wi).alloc (.cells #[k,.slice (some ga) j ca,.string ⟨#[]⟩,.slice none 0 0,.string ⟨#[]⟩,.slice none 0 0,lo,hi,nn,(0:Int),.slice none 0 0,.slice none 0 0] 189));go_wp2_with fail
     clear c0 c1 c2 c3 c4 c5 c6 c7 c8 c9 c10 c11;generalize wi.alloc (.cells #[k,.slice (some ga) j ca,.string ⟨#[]⟩,.slice none 0 0,.string ⟨#[]⟩,.slice none 0 0,lo,hi,nn,(0:Int),.slice none 0 0,.slice none 0 0] 189)=w2 at *;generalize hwi:wi.heap.size=bi at *;go_loopw [17,82] (fun r i wr=>∃(q:Nat) (u2:Value),i=.int .i64 q/\u2=r/\q<=j/\Hd (Ext [] w2 wr/\wr.ownsRow w2.heap.size 186 1 u2 q (List.replicate q (.slice none 0 0)))) (fun _ i _=>(j-intOf i).toNat)
     case atStart=>exact⟨0,_,rfl,rfl,by omega,hd ⟨er,World.ownsRow_nil _ _ _ _⟩⟩
     case round=>
      obtain⟨q,u2,rfl,rfl,hq,hJ⟩:=hrel;rename World=>w3
      have HEj:=hd (HEx.o.trans hJ.o.1);by_cases hlq:q<j
      ·have qa:=HEj.o.held (HGC.o q hlq) (by simp);have qal:ga<w3.heap.size:=by have h1:=HGA.o;have h2:=HEj.o.size;omega
       rcases HNS.o.nil HEj.o with h0|⟨b',he,hb',hcs⟩
       ·omega
       cases he
       have qs:=hcs q hlq;have HO3:=hd hJ.o.2;have HE3:=hd hJ.o.1;have hqI:((q:Nat):Int)<(j:Int):=by omega
       clear hJ hcs
       go_wp2_with (
        refine wpList_append_own_at _ rfl _ _ 210 rfl w2.heap.size 186 i0 _ 1 24 underlying210 hi0 hz0 hz1 hz2 rfl (by decide) u2 q _ rfl (An HO3.o ((Ext.refl [] w3).alloc _) (by simp)) ⟨w3.heap.size,0,none⟩ 1 1 [.slice none 0 0] rfl ?c0 ?c1 ?c2 ?c3 ?c4 ?c5 ?_
        case c0=>rfl
        case c1=>exact World.news_of_block (Blk.new _ _ _)
        case c2=>intro u hu;simp at hu;subst hu;rfl
        case c3=>unfold maxLen;omega
        case c4=>omega
        case c5=>simp;have:=HE3.o.size;omega
        intro v8 w8 ho8 hg8 hi8 ha8;have HO8:=hd ho8;have HE8:=hd ((HE3.o.alloc (.cells #[.slice none 0 0] 186)).grown hg8 (fun z hz=>.inr (Bf HO3.o z hz)));clear ho8 hg8 hi8 ha8)
       go_roundw
       case rel=>exact⟨q+1,_,by go_num,rfl,by omega,hd ⟨HE8.o,by rw[List.replicate_succ'];exact HO8.o⟩⟩
       case measure=>simp[intOf];omega
      ·have hqj:q=j:=by omega
       subst hqj;obtain⟨gb,cb,rfl,hnb,-⟩:=Vq hJ.o.2 hl1;have HNB:=hd hnb;have HE3:=hd hJ.o.1;have HX3:=hd (HX.o.ext hJ.o.1 (by simp));clear hJ hnb;have qx:=HX3.o.cell;have qxl:=HX3.o.lt;go_wp2_with fail
       refine(Ug w3.heap.size k (some ga) q ca lo hi nn none 0 0 (some gb) q cb _ (.inr HK.o) (HNB.o.nil ((Ext.refl [] w3).alloc _)) (by omega) (fun _=>hl1) ((Blk.new w3 224 #[.slice none 0 0,.slice none 0 0,.bool false]).cell 2) (Blk.new w3 224 #[.slice none 0 0,.slice none 0 0,.bool false]).lt).mono ?_
       rintro e w4 ⟨rfl,hE4⟩;have hE34:=((Ext.refl [] w3).alloc (.cells #[.slice none 0 0,.slice none 0 0,.bool false] 224)).trans hE4;have HX4:=hd (HX3.o.ext hE34 (by simp));have HNB4:=hd (HNB.o.nil hE34);have hEi4:=(HEx.o.trans HE3.o).trans hE34;have HO4:=hd (An HI.o.2 hEi4 (by simp));have HE4:=hd (HI.o.1.trans hEi4);have hwz:=HE4.o.size;clear hE4 hE34 hEi4 qx qxl
       go_wp2_with (
        refine wpList_append_own_at _ rfl _ _ 210 rfl w0.heap.size 186 i0 _ 1 24 underlying210 hi0 hz0 hz1 hz2 rfl (by decide) (.slice (some gs) q cs) q _ rfl (An HO4.o ((Ext.refl [] w4).alloc _) (by simp)) ⟨w4.heap.size,0,none⟩ 1 1 [.slice none 0 0] rfl ?c0 ?c1 ?c2 ?c3 ?c4 ?c5 ?_
        case c0=>rfl
        case c1=>exact World.news_of_block (Blk.new _ _ _)
        case c2=>intro u hu;simp at hu;subst hu;rfl
        case c3=>unfold maxLen;omega
        case c4=>omega
        case c5=>simp;omega
        intro v8 w8 ho8 hg8 hi8 ha8;have HO8:=hd ho8;have HE8:=hd ((HE4.o.alloc (.cells #[.slice none 0 0] 186)).grown hg8 (fun z hz=>.inr (Bf HO4.o z hz)));have HX8:=hd (Abw HX4.o HO4.o (by decide) hg8);have qx8:=HX8.o.cell;have qxl8:=HX8.o.lt;clear ho8 hg8 hi8 ha8)
       refine(Uh k (some ga) q ca lo hi nn none 0 0 (some gb) q cb _ (.inr HK.o)).mono ?_
       rintro e w9 ⟨rfl,hE9⟩;have HE9:=hd (HE8.o.trans hE9);have HO9:=hd (An HO8.o hE9 (by simp));have hk2:¬k=2:=by have:=HK.o;omega
       clear hE9 qx8 qxl8;go_wp2_with fail
       go_roundw
       case rel=>exact⟨q+1,_,_,rfl,rfl,by go_num,by omega,fun h=>by omega,hd ⟨HE9.o,by rw[List.replicate_succ'];exact HO9.o⟩⟩
       case measure=>simp[intOf]
    ·have hj3:j=n+1:=by omega
     subst hj3;obtain⟨gs,cs,rfl,hns,-⟩:=Vq hI.o.2 (by omega);have HNS:=hd hns;clear hI hns;go_wp2_with fail
     go_ret2
     exact⟨gs,cs,t,rfl,HEi.o,HNS.o⟩
end
section
attribute [local irreducible] Ax
def tsC (ts:List (Nat×Nat)):List Value:=ts.flatMap fun p=>[.slice none 0 0,.slice (some p.1) 1 p.2]
theorem Abx:∀(ts:List (Nat×Nat)) (q:Nat) (p:Nat×Nat),ts[q]? = some p->(tsC ts)[q*2]? = some (.slice none 0 0)/\(tsC ts)[q*2+1]? = some (.slice (some p.1) 1 p.2)
 | [],q,p,h=>by simp at h
 | r :: ts,0,p,h=>by simp at h;subst h;exact⟨rfl,rfl⟩
 | r :: ts,q+1,p,h=>by
  have h1:=Abx ts q p (by simpa using h);have e:tsC (r :: ts)=[.slice none 0 0,.slice (some r.1) 1 r.2] ++ tsC ts:=by unfold tsC;rw[List.flatMap_cons]
  rw[e,show(q+1)*2=2+q*2 by omega,List.getElem?_append_right (by simp),List.getElem?_append_right (by simp;omega)];simp only[List.length_cons,List.length_nil];rw[show 2+q*2-(0+1+1)=q*2 by omega,show 2+q*2+1-(0+1+1)=q*2+1 by omega];exact h1
def Qf (w:World)(ts:List (Nat×Nat))(xs:List Int):Prop:=∀(q:Nat) (p:Nat×Nat),ts[q]? = some p->p.1<w.heap.size/\∃x,xs[q]? = some x/\w.cell? ⟨p.1,0,none⟩=some (.int .i64 x)
theorem Qf.nil {w w':World}{ts:List (Nat×Nat)}{xs:List Int}(h:Qf w ts xs)(hE:Ext [] w w'):Qf w' ts xs:=fun q p hq=>by
 obtain⟨h1,x,h2,h3⟩:=h q p hq;exact⟨nl h1 hE.size,x,h2,hE.held h3 (by simp)⟩
theorem Rs {w:World}{B n:Nat}{v:Value}{ts:List (Nat×Nat)}(h:w.ownsRow B 197 2 v n (tsC ts))(hn:1<=n):∃g c,v=.slice (some ⟨g,0,none⟩) n c/\g<w.heap.size/\B<=g/\∀q p,ts[q]? = some p->w.cell? ⟨g,q*2,none⟩=some (.slice none 0 0)/\w.cell? ⟨g,q*2+1,none⟩=some (.slice (some p.1) 1 p.2):=by
 rcases h.2 with⟨hv,hx⟩|⟨g,c,cur,hv,hb,hg,hc⟩
 ·exfalso;omega
 ·have hB:Blk w g 197 cur:=hg;have hcell:=h.cells (g:=g) (by rw[hv];rfl);refine⟨g,c,hv,hB.lt,hb,fun q p hq=>?_⟩
  obtain⟨h1,h2⟩:=Abx ts q p hq;have a:=hcell _ _ h1;have b:=hcell _ _ h2;rw[Addr.add_mk,Nat.zero_add] at a b;exact⟨a,b⟩
theorem TIn.of {w:World}{B n:Nat}{v:Value}{ts:List (Nat×Nat)}{xs:List Int}(h:w.ownsRow B 197 2 v n (tsC ts))(hn:1<=n)(ht:Qf w ts xs)(hl:ts.length=xs.length):∃g c,v=.slice (some ⟨g,0,none⟩) n c/\TIn w (some ⟨g,0,none⟩) xs:=by
 obtain⟨g,c,h1,h2,_,h3⟩:=Rs h hn;refine⟨g,c,h1,.inr ⟨g,rfl,h2,fun j x hx=>?_⟩⟩
 obtain⟨p,hp⟩:∃p,ts[j]? = some p:=⟨_,List.getElem?_eq_getElem (by have:=(ils hx).1;omega)⟩;obtain⟨a,b⟩:=h3 j p hp;obtain⟨c1,y,c2,c3⟩:=ht j p hp;rw[hx] at c2;cases c2;exact⟨p.1,p.2,a,b,c1,c3⟩
theorem Yf {w w8:World}{ob:Obj}{b B n:Nat}{x:Int}{u:Value}{ts:List (Nat×Nat)}(h:w.cell? ⟨b,0,none⟩=some (.int .i64 x))(ho:w.ownsRow B 197 2 u n (tsC ts))(hl:ts.length=n)(h0:n=0->u.ownBlock=none)(hg:(w.alloc ob).grownBy w8 u.ownBlock):w8.cell? ⟨b,0,none⟩=some (.int .i64 x):=by
 have hE:Ext u.ownBlock.toList w w8:=((Ext.refl _ w).alloc ob).grown hg (fun z hz=>.inl (by rw[hz];simp));refine hE.held h (fun hm=>?_)
 have h1:u.ownBlock=some b:=by simpa using hm
 by_cases hn:n=0
 ·rw[h0 hn] at h1;cases h1
 ·obtain⟨g,c,h2,_,_,h3⟩:=Rs ho (by omega);obtain⟨p,hp⟩:∃p,ts[0]? = some p:=⟨_,List.getElem?_eq_getElem (by omega)⟩;have h4:=(h3 0 p hp).1;rw[h2] at h1;have e:g=b:=by simpa[Value.ownBlock] using h1
  subst e;rw[Nat.zero_mul] at h4;rw[h] at h4;cases h4
theorem Ui {w w8:World}{ob:Obj}{B n g c:Nat}{x:Int}{u:Value}{ts:List (Nat×Nat)}{xs:List Int}(h:Qf w ts xs)(hx:w.cell? ⟨g,0,none⟩=some (.int .i64 x))(ho:w.ownsRow B 197 2 u n (tsC ts))(hl:ts.length=n)(h0:n=0->u.ownBlock=none)(hg:(w.alloc ob).grownBy w8 u.ownBlock)(hat:xs[ts.length]? = some x):Qf w8 (ts ++ [(g,c)]) xs:=fun q p hq=>by
 have hs:∀b,b<w.heap.size->b<w8.heap.size:=fun b hb=>by have:=hg.size;simp at this;omega
 rcases Nat.lt_or_ge q ts.length with hlt|hge
 ·rw[List.getElem?_append_left hlt] at hq;obtain⟨h1,z,h2,h3⟩:=h q p hq;exact⟨hs _ h1,z,h2,Yf h3 ho hl h0 hg⟩
 ·rw[List.getElem?_append_right hge] at hq
  have hq0:q=ts.length:=by
   rcases Nat.eq_or_lt_of_le hge with e|e
   ·exact e.symm
   ·rw[List.getElem?_eq_none (by simp;omega)] at hq;cases hq
  subst hq0;rw[Nat.sub_self] at hq;cases hq
  exact⟨hs _ (World.block_lt_of_cell? w _ hx),x,hat,Yf hx ho hl h0 hg⟩
theorem Qf.less {w:World}{ts:List (Nat×Nat)}{xs:List Int}{y:Int}(h:Qf w ts (xs ++ [y]))(hl:ts.length=xs.length):Qf w ts xs:=fun q p hq=>by
 obtain⟨h1,x,h2,h3⟩:=h q p hq;refine⟨h1,x,?_,h3⟩
 rw[List.getElem?_append_left (by have:=(ils hq).1;omega)] at h2;exact h2
theorem Afn {ts:List (Nat×Nat)}{q g c:Nat}(h:ts[q]? = some (g,c)):tsC (ts.take (q+1))=tsC (ts.take q) ++ [.slice none 0 0,.slice (some g) 1 c]:=by
 have e:ts.take (q+1)=ts.take q ++ [(g,c)]:=by rw[List.take_add_one,h];rfl
 rw[e];unfold tsC;rw[List.flatMap_append];rfl
theorem NIn.at {w:World}{g l j:Nat}(h:NIn w (some g) l)(hj:j<l):g<w.heap.size/\w.cell? ⟨g,j,none⟩=some (.slice none 0 0):=by
 rcases h with h|⟨b,h1,h2,h3⟩
 ·omega
 ·cases h1;exact⟨h2,h3 j hj⟩
def Agq (n:Nat)(y:Int)(w:World)(e:Ending)(w':World):Prop:=∃g c gy cy,e=.returned (.slice (some ⟨g,0,none⟩) (n+1) c)/\Ext [] w w'/\g<w'.heap.size/\w'.cell? ⟨g,n*2,none⟩=some (.slice none 0 0)/\w'.cell? ⟨g,n*2+1,none⟩=some (.slice (some ⟨gy,0,none⟩) 1 cy)/\gy<w'.heap.size/\w'.cell? ⟨gy,0,none⟩=some (.int .i64 y)
theorem Agr (k lo hi nn y:Int)(bn n cn bo co:Nat)(xs:List Int)(w:World)(hk:4<=k/\k<=15)(h:Qe w bn k lo hi nn n xs)(hn:xs.length=n)(hl:1<=n/\n<=3)
  (hP:∀W g cap ga ca,Ext [] w W->XIn W g xs->Calls prog 145 #[.agg (ndC k (some ⟨ga,0,none⟩) n ca lo hi nn none 0 0),.slice (some ⟨g,0,none⟩) n cap] W fun e w'=>e=.returned (.int .i64 y)/\Ext [] W w') :
  Calls prog 132 #[.agg #[.string ⟨#[120]⟩,.slice none 0 0,.slice (some bn) (n+1) cn,.slice (some bo) 1 co,.slice none 0 0],.slice none 0 0] w (Agq n y w):=by
 obtain⟨i0,hi0,hz0,hz1,hz2⟩:=info_parts (show((prog).info? 197).map (fun i=>(i.zero,i.size,i.bytes))=some (some (.agg #[.slice none 0 0,.slice none 0 0]),2,48) by kernel_rfl);have HH:=hd h;have HN:=hd hn;have HK:=hd hk;have HP:=hd hP;have HWK:=hd (fun W (hW:Ext [] w W)=>Aas k lo hi nn bn n cn bo co xs W hk (h.nil hW) hn hl);obtain⟨hl1,hl2⟩:=hl;clear h hn hk hP;have HB0:=hd (Blk.new w 194 #[.string ⟨#[120]⟩,.slice none 0 0,.slice (some bn) (n+1) cn,.slice (some bo) 1 co,.slice none 0 0]);have HE0:=hd ((Ext.refl [] w).alloc (.cells #[.string ⟨#[120]⟩,.slice none 0 0,.slice (some bn) (n+1) cn,.slice (some bo) 1 co,.slice none 0 0] 194));go_enter func132,ntmps132
 go_wp2_with fail
 generalize w.alloc (.cells #[.string ⟨#[120]⟩,.slice none 0 0,.slice (some bn) (n+1) cn,.slice (some bo) 1 co,.slice none 0 0] 194)=w0 at *;generalize hwl:w.heap.size=bl at *;refine(HWK.o _ HE0.o).mono ?_
 rintro e w1 ⟨gs,cs,tt,rfl,hE1,hns⟩;have HE1:=hd (HE0.o.trans hE1);have HNS:=hd hns;have HB1:=hd (HB0.o.ext hE1 (by simp));have qg:=HB1.o.cell;have qgl:=HB1.o.lt;clear hE1 hns;go_wp2_with fail
 clear qg qgl;go_loopw [7,25] (fun ov i wr=>∃(j:Nat) (u:Value) (ts:List (Nat×Nat)),i=.int .i64 j/\u=ov/\j<=n+1/\Hd (ts.length=j/\(j=0->u.ownBlock=none)/\Ext [] w1 wr/\wr.ownsRow w1.heap.size 197 2 u j (tsC ts)/\Qf wr ts (xs ++ [y]))) (fun _ i _=>(n+1-intOf i).toNat)
 case atStart=>exact⟨0,_,[],rfl,rfl,by omega,hd ⟨rfl,fun _=>rfl,er,World.ownsRow_nil _ _ _ _,fun q p hq=>by simp at hq⟩⟩
 case round=>
  obtain⟨j,u,ts,rfl,rfl,hj,hI⟩:=hrel;rename World=>wi
  have HEi:=hd (HE1.o.trans hI.o.2.2.1);have HN2:=hd (HH.o.nil HEi.o);have HNS2:=hd (HNS.o.nil hI.o.2.2.1);have HI:=hI;clear hI;by_cases hlt:j<n
  ·obtain⟨x,hx⟩:∃x,xs[j]? = some x:=⟨_,List.getElem?_eq_getElem (by have:=HN.o;omega)⟩;obtain⟨gd,cd,hc,hgd,hgc⟩:=HN2.o.con j x hx;unfold ndC at hc;have c0:=hc 0 _ rfl;have c1:=hc 1 _ rfl;have c2:=hc 2 _ rfl;have c3:=hc 3 _ rfl;have c4:=hc 4 _ rfl;have c5:=hc 5 _ rfl;have c6:=hc 6 _ rfl;have c7:=hc 7 _ rfl;have c8:=hc 8 _ rfl;have c9:=hc 9 _ rfl;have c10:=hc 10 _ rfl;have c11:=hc 11 _ rfl;rw[Nat.add_zero] at c0;have hbn:=HN2.o.lt;have hjI:((j:Nat):Int)<(n:Int)+1:=by omega
   have HGC:=hd hgc;have HXJ:=hd hx;clear hc hgc hx;have HX:=hd (Blk.new wi 189 #[(2:Int),.slice none 0 0,.string ⟨#[]⟩,.slice none 0 0,.string ⟨#[]⟩,.slice none 0 0,(0:Int),(0:Int),(0:Int),(0:Int),.slice (some gd) 1 cd,.slice none 0 0]);have HEx:=hd ((Ext.refl [] wi).alloc (.cells #[(2:Int),.slice none 0 0,.string ⟨#[]⟩,.slice none 0 0,.string ⟨#[]⟩,.slice none 0 0,(0:Int),(0:Int),(0:Int),(0:Int),.slice (some gd) 1 cd,.slice none 0 0] 189));go_wp2_with fail
   clear c0 c1 c2 c3 c4 c5 c6 c7 c8 c9 c10 c11;generalize wi.alloc (.cells #[(2:Int),.slice none 0 0,.string ⟨#[]⟩,.slice none 0 0,.string ⟨#[]⟩,.slice none 0 0,(0:Int),(0:Int),(0:Int),(0:Int),.slice (some gd) 1 cd,.slice none 0 0] 189)=w2 at *;generalize hwi:wi.heap.size=bi at *;go_loopw [11,33] (fun r i wr=>r=.slice none 0 0/\i=.int .i64 0/\Hd (wr=w2)) (fun _ _ _=>0)
   case atStart=>exact⟨rfl,rfl,hd rfl⟩
   case round=>
    obtain⟨rfl,rfl,HW⟩:=hrel;obtain rfl:=HW.o;rename World=>w2
    have qx:=HX.o.cell;have qxl:=HX.o.lt;have HT:=hd (Blk.new w2 197 #[.slice none 0 0,.slice none 0 0]);have HEt:=hd ((Ext.refl [] w2).alloc (.cells #[.slice none 0 0,.slice none 0 0] 197));have HX2:=hd (HX.o.alloc (.cells #[.slice none 0 0,.slice none 0 0] 197));go_upto_region 15 with fail
    clear qx qxl;generalize w2.alloc (.cells #[.slice none 0 0,.slice none 0 0] 197)=w3 at *;generalize hw2:w2.heap.size=b14 at *;refine rgE 7 [(5,Bv (.slice none 0 0))] ?_
    simp only[TK]
    repeat(refine dE (fun wr nr hJ=>by(have qx:=(HX2.o.ext hJ (by simp)).cell;have qxl:=(HX2.o.ext hJ (by simp)).lt;have qn:=NIn.at (HNS2.o.nil ((HEx.o.trans HEt.o).trans hJ)) (j:=j) (by omega);have qn1:=qn.1;have qn2:=qn.2;clear qn);clear hJ;exact CL) ?_;simp only[PT])
    refine Bj rfl rfl ?_ ?_
    ·apply Exists.intro
     apply Exists.intro
     refine⟨fun wr=>?_,fun wr nr hJ=>?_⟩
     ·go_simp
      first|exact⟨rfl,rfl⟩|rfl
     ·exact(Ps 0 none _)
    simp only[PT]
    repeat(refine dE (fun wr nr hJ=>by(have qx:=(HX2.o.ext hJ (by simp)).cell;have qxl:=(HX2.o.ext hJ (by simp)).lt);clear hJ;exact CL) ?_;simp only[PT])
    refine Aa (fun w4 hJ hF=>?_)
    have HE4:=hd ((HEx.o.trans HEt.o).trans hJ);have HT4:=hd (HT.o.ext hJ (by simp));clear hF hJ;go_wp2_with fail
    refine(Vp none 0 0 0 0 0 gd 1 cd none 0 x _ (by omega) (by have h1:=HE4.o.size;omega) (HE4.o.held HGC.o (by simp))).mono ?_
    rintro e w5 ⟨g5,c5,rfl,hE5,hg5,hc5⟩;have HE5:=hd (HE4.o.trans hE5);have HT5:=hd (HT4.o.ext hE5 (by simp));have HC5:=hd hc5;have HG5:=hd hg5;have qt:=HT5.o.cell;have qtl:=HT5.o.lt;have qtf:=HT5.o.frozen
    have hne:b14≠g5:=by
     intro e;subst e;have h1:=HT5.o.cell 0;rw[HC5.o] at h1;cases h1
    have hbw:wi.heap.size<=b14:=by have:=HEx.o.size;omega
    have HT6:=hd ((HT5.o.set_' 0 (.slice none 0 0) #[.slice none 0 0,.slice none 0 0] rfl).set_' 1 (.slice (some g5) 1 c5) #[.slice none 0 0,.slice (some g5) 1 c5] rfl);have HE6:Hd (Ext [] wi ((w5.setCell ⟨b14,0,none⟩ (.slice none 0 0)).setCell ⟨b14,1,none⟩ (.slice (some g5) 1 c5))):=hd ((HE5.o.setCell (.inr hbw) _).setCell (.inr hbw) _)
    have HC6:Hd (((w5.setCell ⟨b14,0,none⟩ (.slice none 0 0)).setCell ⟨b14,1,none⟩ (.slice (some g5) 1 c5)).cell? ⟨g5,0,none⟩=some (.int .i64 x)):=hd (by
     rw[World.cell?_setCell_far _ _ _ _ (show b14≠g5 from hne),World.cell?_setCell_far _ _ _ _ (show b14≠g5 from hne)];exact HC5.o)
    clear hE5 hg5 hc5;go_upto_region 31 with fail
    clear qt qtl qtf;generalize (w5.setCell ⟨b14,0,none⟩ (.slice none 0 0)).setCell ⟨b14,1,none⟩ (.slice (some g5) 1 c5)=w6 at *;have qt:=HT6.o.cell;have qtl:=HT6.o.lt;have HO6:=hd (An HI.o.2.2.2.1 HE6.o (by simp));have HTS6:=hd (HI.o.2.2.2.2.nil HE6.o);have HEw:=hd (HI.o.2.2.1.trans HE6.o);have HL:=hd HI.o.1;have HU0:=hd HI.o.2.1;have hwz:=HEw.o.size;have hgl6:g5<w6.heap.size:=World.block_lt_of_cell? w6 _ HC6.o
    go_wp2_with (
     refine wpList_append_own_at _ rfl _ _ 198 rfl w1.heap.size 197 i0 _ 2 48 underlying198 hi0 hz0 hz1 hz2 rfl (by decide) u j _ rfl (An HO6.o ((Ext.refl [] w6).alloc _) (by simp)) ⟨w6.heap.size,0,none⟩ 1 1 [.slice none 0 0,.slice (some g5) 1 c5] rfl ?c0 ?c1 ?c2 ?c3 ?c4 ?c5 ?_
     case c0=>rfl
     case c1=>exact World.news_of_block (Blk.new _ _ _)
     case c2=>intro u hu;simp at hu;rcases hu with rfl|rfl<;>rfl
     case c3=>unfold maxLen;omega
     case c4=>omega
     case c5=>simp;omega
     intro v8 w8 ho8 hg8 hi8 ha8;have HO8:=hd ho8;have HE8:=hd ((HEw.o.alloc (.cells #[.slice none 0 0,.slice (some g5) 1 c5] 197)).grown hg8 (fun z hz=>.inr (Bf HO6.o z hz)));have HTS8:Hd (Qf w8 (ts ++ [(g5,c5)]) (xs ++ [y])):=hd (Ui HTS6.o HC6.o HO6.o HL.o HU0.o hg8 (by rw[List.getElem?_append_left (by rw[HL.o];have:=HN.o;omega),HL.o];exact HXJ.o));clear ho8 hg8 hi8 ha8)
    go_roundw
    case rel=>exact⟨j+1,_,ts ++ [(g5,c5)],by go_num,rfl,by omega,hd ⟨by rw[List.length_append,HL.o];rfl,fun h=>by omega,HE8.o,by have h1:=HO8.o;unfold tsC at *;rw[List.flatMap_append];exact h1,HTS8.o⟩⟩
    case measure=>simp[intOf];omega
  ·by_cases hj2:j=n
   ·subst hj2;obtain⟨ga,ca,hc,hga,hgc⟩:=HN2.o.op;obtain⟨go,cO,rfl,hgo,-,hrow⟩:=Rs HI.o.2.2.2.1 hl1;unfold ndC at hc;have c0:=hc 0 _ rfl;have c1:=hc 1 _ rfl;have c2:=hc 2 _ rfl;have c3:=hc 3 _ rfl;have c4:=hc 4 _ rfl;have c5:=hc 5 _ rfl;have c6:=hc 6 _ rfl;have c7:=hc 7 _ rfl;have c8:=hc 8 _ rfl;have c9:=hc 9 _ rfl;have c10:=hc 10 _ rfl;have c11:=hc 11 _ rfl;rw[Nat.add_zero] at c0;have hbn:=HN2.o.lt;have HROW:=hd hrow;have HGC:=hd hgc;have hjI:((j:Nat):Int)<(j:Int)+1:=by omega
    clear hc hgc hrow;have HX:=hd (Blk.new wi 189 #[k,.slice (some ga) j ca,.string ⟨#[]⟩,.slice none 0 0,.string ⟨#[]⟩,.slice none 0 0,lo,hi,nn,(0:Int),.slice none 0 0,.slice none 0 0]);have HEx:=hd ((Ext.refl [] wi).alloc (.cells #[k,.slice (some ga) j ca,.string ⟨#[]⟩,.slice none 0 0,.string ⟨#[]⟩,.slice none 0 0,lo,hi,nn,(0:Int),.slice none 0 0,.slice none 0 0] 189));go_wp2_with fail
    clear c0 c1 c2 c3 c4 c5 c6 c7 c8 c9 c10 c11;generalize wi.alloc (.cells #[k,.slice (some ga) j ca,.string ⟨#[]⟩,.slice none 0 0,.string ⟨#[]⟩,.slice none 0 0,lo,hi,nn,(0:Int),.slice none 0 0,.slice none 0 0] 189)=w2 at *;generalize hwi:wi.heap.size=bi at *;go_loopw [11,33] (fun r i wr=>∃(q:Nat) (u2:Value),i=.int .i64 q/\u2=r/\q<=j/\Hd (Ext [] w2 wr/\wr.ownsRow w2.heap.size 197 2 u2 q (tsC (ts.take q)))) (fun _ i _=>(j-intOf i).toNat)
    case atStart=>exact⟨0,_,rfl,rfl,by omega,hd ⟨er,World.ownsRow_nil _ _ _ _⟩⟩
    case round=>
     obtain⟨q,u2,rfl,rfl,hq,hJ⟩:=hrel;rename World=>w3
     have HEj:=hd (HEx.o.trans hJ.o.1);by_cases hlq:q<j
     ·have qa:=HEj.o.held (HGC.o q hlq) (by simp);have qal:ga<w3.heap.size:=by have h2:=HEj.o.size;omega
      have qol:go<w3.heap.size:=by have h2:=HEj.o.size;omega
      obtain⟨p,hp⟩:∃p,ts[q]? = some p:=⟨_,List.getElem?_eq_getElem (by have:=HI.o.1;omega)⟩;have qo1:=HEj.o.held (HROW.o q p hp).1 (by simp);have qo2:=HEj.o.held (HROW.o q p hp).2 (by simp);obtain⟨pg,pc⟩:=p;have HPQ:=hd hp;have HO3:=hd hJ.o.2;have HE3:=hd hJ.o.1;have hqI:((q:Nat):Int)<(j:Int):=by omega
      clear hJ hp
      go_wp2_with (
       refine wpList_append_own_at _ rfl _ _ 198 rfl w2.heap.size 197 i0 _ 2 48 underlying198 hi0 hz0 hz1 hz2 rfl (by decide) u2 q _ rfl (An HO3.o ((Ext.refl [] w3).alloc _) (by simp)) ⟨w3.heap.size,0,none⟩ 1 1 [.slice none 0 0,.slice (some pg) 1 pc] rfl ?c0 ?c1 ?c2 ?c3 ?c4 ?c5 ?_
       case c0=>rfl
       case c1=>exact World.news_of_block (Blk.new _ _ _)
       case c2=>intro u hu;simp at hu;rcases hu with rfl|rfl<;>rfl
       case c3=>unfold maxLen;omega
       case c4=>omega
       case c5=>simp;have:=HE3.o.size;omega
       intro v8 w8 ho8 hg8 hi8 ha8;have HO8:=hd ho8;have HE8:=hd ((HE3.o.alloc (.cells #[.slice none 0 0,.slice (some pg) 1 pc] 197)).grown hg8 (fun z hz=>.inr (Bf HO3.o z hz)));clear ho8 hg8 hi8 ha8)
      go_roundw
      case rel=>exact⟨q+1,_,by go_num,rfl,by omega,hd ⟨HE8.o,by rw[Afn HPQ.o];exact HO8.o⟩⟩
      case measure=>simp[intOf];omega
     ·have hqj:j=q:=by omega
      subst hqj;have hO:=hJ.o.2;rw[List.take_of_length_le (by have:=HI.o.1;omega)] at hO;obtain⟨gt,ct,rfl,hti⟩:=TIn.of hO hl1 ((HI.o.2.2.2.2.less (by rw[HI.o.1,HN.o])).nil HEj.o) (by rw[HI.o.1,HN.o]);have HTI:=hd hti;have HX0:=hd (HX.o.ext hJ.o.1 (by simp));clear hJ hO hti HX HEx;have HX:=HX0;have HEx:=HEj;clear HX0 HEj;have e1:(k==1)=false:=by have:=HK.o;simp;omega
      have e33:(k==33)=false:=by have:=HK.o;simp;omega
      have e34:(k==34)=false:=by have:=HK.o;simp;omega
      have qx:=HX.o.cell;have qxl:=HX.o.lt;have HT:=hd (Blk.new w3 197 #[.slice none 0 0,.slice none 0 0]);have HEt:=hd ((Ext.refl [] w3).alloc (.cells #[.slice none 0 0,.slice none 0 0] 197));have HX2:=hd (HX.o.alloc (.cells #[.slice none 0 0,.slice none 0 0] 197));go_upto_region 15 with fail
      clear qx qxl;generalize w3.alloc (.cells #[.slice none 0 0,.slice none 0 0] 197)=w3b at *;generalize hw2:w3.heap.size=b14 at *;refine rgE 7 [(5,Bv (.slice none 0 0))] ?_
      simp only[TK]
      repeat(refine dE (fun wr nr hJ=>by(have qx:=(HX2.o.ext hJ (by simp)).cell;have qxl:=(HX2.o.ext hJ (by simp)).lt;have qn:=NIn.at (HNS2.o.nil ((HEx.o.trans HEt.o).trans hJ)) (j:=j) (by omega);have qn1:=qn.1;have qn2:=qn.2;clear qn);clear hJ;exact CL) ?_;simp only[PT])
      refine Bj rfl rfl ?_ ?_
      ·apply Exists.intro
       apply Exists.intro
       refine⟨fun wr=>?_,fun wr nr hJ=>?_⟩
       ·go_simp
        first|exact⟨rfl,rfl⟩|rfl
       ·exact(Ps 0 none _)
      simp only[PT]
      repeat(refine dE (fun wr nr hJ=>by(have qx:=(HX2.o.ext hJ (by simp)).cell;have qxl:=(HX2.o.ext hJ (by simp)).lt);clear hJ;exact CL) ?_;simp only[PT])
      refine Aa (fun w4 hJ hF=>?_)
      have HE4:=hd ((HEx.o.trans HEt.o).trans hJ);have HJ4:=hd hJ;have HT4:=hd (HT.o.ext hJ (by simp));clear hF hJ;go_wp2_with fail
      refine(Adx k (some ga) j ca lo hi nn none 0 0 (some gt) ct j xs y _ HK.o (HTI.o.nil (HEt.o.trans HJ4.o)) HN.o ⟨hl1,hl2⟩ (fun W g cap hE hX=>HP.o W g cap ga ca ((HEi.o.trans HE4.o).trans hE) hX)).mono ?_
      rintro e w5 ⟨g5,c5,rfl,hE5,hg5,hc5⟩;have HE5:=hd (HE4.o.trans hE5);have HT5:=hd (HT4.o.ext hE5 (by simp));have HC5:=hd hc5;have HG5:=hd hg5;have qt:=HT5.o.cell;have qtl:=HT5.o.lt;have qtf:=HT5.o.frozen
      have hne:b14≠g5:=by
       intro e;subst e;have h1:=HT5.o.cell 0;rw[HC5.o] at h1;cases h1
      have hbw:wi.heap.size<=b14:=by have:=HEx.o.size;omega
      have HT6:=hd ((HT5.o.set_' 0 (.slice none 0 0) #[.slice none 0 0,.slice none 0 0] rfl).set_' 1 (.slice (some g5) 1 c5) #[.slice none 0 0,.slice (some g5) 1 c5] rfl);have HE6:Hd (Ext [] wi ((w5.setCell ⟨b14,0,none⟩ (.slice none 0 0)).setCell ⟨b14,1,none⟩ (.slice (some g5) 1 c5))):=hd ((HE5.o.setCell (.inr hbw) _).setCell (.inr hbw) _)
      have HC6:Hd (((w5.setCell ⟨b14,0,none⟩ (.slice none 0 0)).setCell ⟨b14,1,none⟩ (.slice (some g5) 1 c5)).cell? ⟨g5,0,none⟩=some (.int .i64 y)):=hd (by
       rw[World.cell?_setCell_far _ _ _ _ (show b14≠g5 from hne),World.cell?_setCell_far _ _ _ _ (show b14≠g5 from hne)];exact HC5.o)
      clear hE5 hg5 hc5;go_upto_region 31 with fail
      clear qt qtl qtf;generalize (w5.setCell ⟨b14,0,none⟩ (.slice none 0 0)).setCell ⟨b14,1,none⟩ (.slice (some g5) 1 c5)=w6 at *;have qt:=HT6.o.cell;have qtl:=HT6.o.lt;have HO6:=hd (An HI.o.2.2.2.1 HE6.o (by simp));have HTS6:=hd (HI.o.2.2.2.2.nil HE6.o);have HEw:=hd (HI.o.2.2.1.trans HE6.o);have HL:=hd HI.o.1;have HU0:=hd HI.o.2.1;have hwz:=HEw.o.size;have hgl6:g5<w6.heap.size:=World.block_lt_of_cell? w6 _ HC6.o
      go_wp2_with (
       refine wpList_append_own_at _ rfl _ _ 198 rfl w1.heap.size 197 i0 _ 2 48 underlying198 hi0 hz0 hz1 hz2 rfl (by decide) (.slice (some go) j cO) j _ rfl (An HO6.o ((Ext.refl [] w6).alloc _) (by simp)) ⟨w6.heap.size,0,none⟩ 1 1 [.slice none 0 0,.slice (some g5) 1 c5] rfl ?c0 ?c1 ?c2 ?c3 ?c4 ?c5 ?_
       case c0=>rfl
       case c1=>exact World.news_of_block (Blk.new _ _ _)
       case c2=>intro u hu;simp at hu;rcases hu with rfl|rfl<;>rfl
       case c3=>unfold maxLen;omega
       case c4=>omega
       case c5=>simp;omega
       intro v8 w8 ho8 hg8 hi8 ha8;have HO8:=hd ho8;have HE8:=hd ((HEw.o.alloc (.cells #[.slice none 0 0,.slice (some g5) 1 c5] 197)).grown hg8 (fun z hz=>.inr (Bf HO6.o z hz)));have HTS8:Hd (Qf w8 (ts ++ [(g5,c5)]) (xs ++ [y])):=hd (Ui HTS6.o HC6.o HO6.o HL.o HU0.o hg8 (by rw[HL.o,<-HN.o];simp));clear ho8 hg8 hi8 ha8)
      go_roundw
      case rel=>exact⟨j+1,_,ts ++ [(g5,c5)],by go_num,rfl,by omega,hd ⟨by rw[List.length_append,HL.o];rfl,fun h=>by omega,HE8.o,by have h1:=HO8.o;unfold tsC at *;rw[List.flatMap_append];exact h1,HTS8.o⟩⟩
      case measure=>simp[intOf]
   ·have hj3:j=n+1:=by omega
    subst hj3;obtain⟨go,cO,rfl,hgo,-,hrow⟩:=Rs HI.o.2.2.2.1 (by omega);obtain⟨p,hp⟩:∃p,ts[n]? = some p:=⟨_,List.getElem?_eq_getElem (by have:=HI.o.1;omega)⟩;obtain⟨h1,h2⟩:=hrow n p hp;obtain⟨h3,z,h4,h5⟩:=HI.o.2.2.2.2 n p hp;have h6:z=y:=by rw[<-HN.o] at h4;simp at h4;exact h4.symm
    subst h6;have HA:=hd (⟨go,cO,p.1,p.2,rfl,HEi.o,hgo,h1,h2,h3,h5⟩:Agq n z w (.returned (.slice (some go) (n+1) cO)) wi);clear h1 h2 h3 h4 h5 hrow hp hgo;go_wp2_with fail
    go_ret
    exact HA.o
end
section
attribute [local irreducible] Ax
theorem Qe.node {w:World}{bn n:Nat}{k lo hi nn:Int}{xs:List Int}(h:Qe w bn k lo hi nn n xs)(hl:xs.length=n){j:Nat}(hj:j<=n):∃kk A la ca l1 h1 n1 D ld cd,Ady w bn (j*12) (ndC kk A la ca l1 h1 n1 D ld cd):=by
 by_cases hlt:j<n
 ·obtain⟨gd,cd,h1,_⟩:=h.con j _ (List.getElem?_eq_getElem (by omega));exact⟨_,_,_,_,_,_,_,_,_,_,h1⟩
 ·have:j=n:=by omega
  subst this;obtain⟨ga,ca,h1,_⟩:=h.op;exact⟨_,_,_,_,_,_,_,_,_,_,h1⟩
def PwP (k lo hi nn y:Int)(n:Nat)(xs:List Int)(w:World):Prop:=∀W g cap ga ca,Ext [] w W->XIn W g xs->Calls prog 145 #[.agg (ndC k (some ⟨ga,0,none⟩) n ca lo hi nn none 0 0),.slice (some ⟨g,0,none⟩) n cap] W fun e w'=>e=.returned (.int .i64 y)/\Ext [] W w'
theorem PwP.nil {k lo hi nn y:Int}{n:Nat}{xs:List Int}{w w':World}(h:PwP k lo hi nn y n xs w)(hE:Ext [] w w'):PwP k lo hi nn y n xs w':=fun W g cap ga ca hW hX=>h W g cap ga ca (hE.trans hW) hX
theorem Yg (k lo hi nn y:Int)(bn n cn bo co:Nat)(xs:List Int)(w:World)(hk:4<=k/\k<=15)(h:Qe w bn k lo hi nn n xs)(hn:xs.length=n)(hl:1<=n/\n<=3)(hP:PwP k lo hi nn y n xs w) :
  Calls prog 131 #[.agg #[.string ⟨#[120]⟩,.slice none 0 0,.slice (some bn) (n+1) cn,.slice (some bo) 1 co,.slice none 0 0],.slice none 0 0] w (Agq n y w):=by
 have HH:=hd h;have HN:=hd hn;have HAL:=hd (fun W (hW:Ext [] w W)=>Agr k lo hi nn y bn n cn bo co xs W hk (h.nil hW) hn hl (hP.nil hW));obtain⟨hl1,hl2⟩:=hl;clear h hn hk hP;have HB0:=hd (Blk.new w 194 #[.string ⟨#[120]⟩,.slice none 0 0,.slice (some bn) (n+1) cn,.slice (some bo) 1 co,.slice none 0 0]);have HE0:=hd ((Ext.refl [] w).alloc (.cells #[.string ⟨#[120]⟩,.slice none 0 0,.slice (some bn) (n+1) cn,.slice (some bo) 1 co,.slice none 0 0] 194));go_enter func131,ntmps131
 go_wp2_with fail
 generalize w.alloc (.cells #[.string ⟨#[120]⟩,.slice none 0 0,.slice (some bn) (n+1) cn,.slice (some bo) 1 co,.slice none 0 0] 194)=w0 at *;generalize hwl:w.heap.size=bl at *;go_loopw [5,13] (fun ov i wr=>ov=.slice none 0 0/\∃j:Nat,i=.int .i64 j/\j<=n+1/\Hd (Ext [] w0 wr)) (fun _ i _=>(n+1-intOf i).toNat)
 case atStart=>exact⟨rfl,0,rfl,by omega,hd er⟩
 case round=>
  obtain⟨rfl,j,rfl,hj,HE⟩:=hrel;rename World=>wi
  have HEi:=hd (HE0.o.trans HE.o);by_cases hlt:j<n+1
  ·have HN2:=hd (HH.o.nil HEi.o);obtain⟨kk,A,la,ca,l1,h1,n1,D,ld,cd,hc⟩:=HN2.o.node HN.o (j:=j) (by omega);unfold ndC at hc;have c0:=hc 0 _ rfl;have c1:=hc 1 _ rfl;have c2:=hc 2 _ rfl;have c3:=hc 3 _ rfl;have c4:=hc 4 _ rfl;have c5:=hc 5 _ rfl;have c6:=hc 6 _ rfl;have c7:=hc 7 _ rfl;have c8:=hc 8 _ rfl;have c9:=hc 9 _ rfl;have c10:=hc 10 _ rfl;have c11:=hc 11 _ rfl;rw[Nat.add_zero] at c0;have hbn:=HN2.o.lt;have hjI:((j:Nat):Int)<(n:Int)+1:=by omega
   clear hc;have HEx:=hd ((Ext.refl [] wi).alloc (.cells #[kk,.slice A la ca,.string ⟨#[]⟩,.slice none 0 0,.string ⟨#[]⟩,.slice none 0 0,l1,h1,n1,(0:Int),.slice D ld cd,.slice none 0 0] 189));go_wp2_with fail
   clear c0 c1 c2 c3 c4 c5 c6 c7 c8 c9 c10 c11;generalize wi.alloc (.cells #[kk,.slice A la ca,.string ⟨#[]⟩,.slice none 0 0,.string ⟨#[]⟩,.slice none 0 0,l1,h1,n1,(0:Int),.slice D ld cd,.slice none 0 0] 189)=w2 at *;generalize hwi:wi.heap.size=bi at *;go_loopw [5,19] (fun r i wr=>r=.slice none 0 0/\i=.int .i64 0/\Hd (wr=w2)) (fun _ _ _=>0)
   case atStart=>exact⟨rfl,rfl,hd rfl⟩
   case round=>
    obtain⟨rfl,rfl,HW⟩:=hrel;obtain rfl:=HW.o;go_wp2_with fail
    go_roundw
    case rel=>exact⟨rfl,j+1,by go_num,by omega,hd (HE.o.trans HEx.o)⟩
    case measure=>simp[intOf];omega
  ·have hj3:j=n+1:=by omega
   subst hj3;have qg:=(HB0.o.ext HE.o (by simp)).cell;have qgl:=(HB0.o.ext HE.o (by simp)).lt;go_wp2_with fail
   refine(HAL.o _ HEi.o).mono ?_
   rintro e w5 ⟨g,c,gy,cy,rfl,hE5,a1,a2,a3,a4,a5⟩;have HA:=hd (⟨g,c,gy,cy,rfl,HEi.o.trans hE5,a1,a2,a3,a4,a5⟩:Agq n y w (.returned (.slice (some g) (n+1) c)) w5);clear hE5 a1 a2 a3 a4 a5 qg qgl;go_wp2_with fail
   go_ret
   exact HA.o
def EvP (y:Int)(w:World)(e:Ending)(w':World):Prop:=∃g c gy cy,e=.returned (.slice (some ⟨g,0,none⟩) 1 c)/\Ext [] w w'/\g<w'.heap.size/\w'.cell? ⟨g,1,none⟩=some (.slice (some ⟨gy,0,none⟩) 1 cy)/\gy<w'.heap.size/\w'.cell? ⟨gy,0,none⟩=some (.int .i64 y)
theorem Afo (k lo hi nn y:Int)(bn n cn bo co:Nat)(xs:List Int)(w:World)(hk:4<=k/\k<=15)(h:Qe w bn k lo hi nn n xs)(hn:xs.length=n)(hl:1<=n/\n<=3)(hP:PwP k lo hi nn y n xs w)(hbo:bo<w.heap.size)(hbc:w.cell? ⟨bo,0,none⟩=some (.int .i64 n)) :
  Calls prog 127 #[.agg #[.string ⟨#[120]⟩,.slice none 0 0,.slice (some bn) (n+1) cn,.slice (some bo) 1 co,.slice none 0 0],.slice none 0 0] w (EvP y w):=by
 obtain⟨i0,hi0,hz0,hz1,hz2⟩:=info_parts (show((prog).info? 197).map (fun i=>(i.zero,i.size,i.bytes))=some (some (.agg #[.slice none 0 0,.slice none 0 0]),2,48) by kernel_rfl);have HAL:=hd (fun W (hW:Ext [] w W)=>Yg k lo hi nn y bn n cn bo co xs W hk (h.nil hW) hn hl (hP.nil hW));have HBC:=hd hbc;clear h hn hk hP hl hbc;have HB0:=hd (Blk.new w 194 #[.string ⟨#[120]⟩,.slice none 0 0,.slice (some bn) (n+1) cn,.slice (some bo) 1 co,.slice none 0 0]);have HE0:=hd ((Ext.refl [] w).alloc (.cells #[.string ⟨#[120]⟩,.slice none 0 0,.slice (some bn) (n+1) cn,.slice (some bo) 1 co,.slice none 0 0] 194));go_enter func127,ntmps127
 go_wp2_with fail
 generalize w.alloc (.cells #[.string ⟨#[120]⟩,.slice none 0 0,.slice (some bn) (n+1) cn,.slice (some bo) 1 co,.slice none 0 0] 194)=w0 at *;generalize hwl:w.heap.size=bl at *;refine(HAL.o _ HE0.o).mono ?_
 rintro e w1 ⟨g,c,gy,cy,rfl,hE1,a1,a2,a3,a4,a5⟩;have HE1:=hd (HE0.o.trans hE1);have qg:=(HB0.o.ext hE1 (by simp)).cell;have qgl:=(HB0.o.ext hE1 (by simp)).lt;have HA2:=hd a2;have HA3:=hd a3;have HA4:=hd a4;have HA5:=hd a5;clear hE1 a2 a3 a4 a5;go_wp2_with fail
 clear qg qgl;go_loopw [6,15] (fun ov i wr=>∃(j:Int) (u:Value),i=.int .i64 j/\u=ov/\(0<=j/\j<=1)/\Hd ((j=0->u=.slice none 0 0/\wr=w1)/\(j=1->Ext [] w1 wr/\wr.ownsRow w1.heap.size 197 2 u 1 (tsC [(gy,cy)])))) (fun _ i _=>(1-intOf i).toNat)
 case atStart=>exact⟨0,_,rfl,rfl,by omega,hd ⟨fun _=>⟨rfl,rfl⟩,fun h=>by omega⟩⟩
 case round=>
  obtain⟨j,u,rfl,rfl,hj,hI⟩:=hrel;by_cases hj0:j=0
  ·subst hj0;obtain⟨rfl,rfl⟩:=hI.o.1 rfl;rename World=>w1
   clear hI;have qo:=HE1.o.held HBC.o (by simp);have qol:bo<w1.heap.size:=by have:=HE1.o.size;omega
   have qa2:=HA2.o;have qa3:=HA3.o;have hnI:(n:Int)<(n:Int)+1:=by omega
   go_wp2_with (
    refine wpList_append_own_at _ rfl _ _ 198 rfl w1.heap.size 197 i0 _ 2 48 underlying198 hi0 hz0 hz1 hz2 rfl (by decide) (.slice none 0 0) 0 [] rfl (World.ownsRow_nil _ _ _ _) ⟨w1.heap.size,0,none⟩ 1 1 [.slice none 0 0,.slice (some gy) 1 cy] rfl ?c0 ?c1 ?c2 ?c3 ?c4 ?c5 ?_
    case c0=>rfl
    case c1=>exact World.news_of_block (Blk.new _ _ _)
    case c2=>intro u hu;simp at hu;rcases hu with rfl|rfl<;>rfl
    case c3=>unfold maxLen;omega
    case c4=>omega
    case c5=>simp
    intro v8 w8 ho8 hg8 hi8 ha8;have HO8:=hd ho8;have HE8:Hd (Ext [] w1 w8):=hd (((Ext.refl [] w1).alloc (.cells #[.slice none 0 0,.slice (some gy) 1 cy] 197)).grown hg8 (fun z hz=>by cases hz));clear ho8 hg8 hi8 ha8)
   go_roundw
   case rel=>exact⟨1,_,by go_num,rfl,by omega,hd ⟨fun h=>by omega,fun _=>⟨HE8.o,HO8.o⟩⟩⟩
   case measure=>simp[intOf]
  ·have hj1:j=1:=by omega
   subst hj1;obtain⟨hE8,hO8⟩:=hI.o.2 rfl;obtain⟨g8,c8,rfl,b1,-,b2⟩:=Rs hO8 (by omega);have b3:=(b2 0 (gy,cy) rfl).2;have HA:=hd (⟨g8,c8,gy,cy,rfl,HE1.o.trans hE8,b1,b3,nl HA4.o hE8.size,hE8.held HA5.o (by simp)⟩:EvP y w (.returned (.slice (some g8) 1 c8)) _);clear hE8 hO8 b1 b2 b3 hI;go_wp2_with fail
   go_ret
   exact HA.o
end
section
attribute [local irreducible] Ax
def opN (k:Int):Nat:=if k=15 then 3 else if 11<=k then 1 else 2
set_option maxRecDepth 4000
theorem Nd (k:Int)(w:World)(hk:4<=k/\k<=15):Calls prog 119 #[k] w fun e w'=>e=.returned (.int .i64 (opN k:Nat))/\w=w':=by
 have hk2:k=4\/k=5\/k=6\/k=7\/k=8\/k=9\/k=10\/k=11\/k=12\/k=13\/k=14\/k=15:=by omega
 clear hk;rcases hk2 with rfl|rfl|rfl|rfl|rfl|rfl|rfl|rfl|rfl|rfl|rfl|rfl
 all_goals
  go_enter func119,ntmps119
  go_wp2_with fail
  go_ret
  exact⟨rfl,rfl⟩
def opX (k a b c:Int):List Int:=[a,b,c].take (opN k)
def Afp (k n:Int):Int:=if k=12 then n else 0
def Afq (k m:Int):Int:=if k=12 then m else 0
def Afr (k n:Int):Int:=if k=12 then 0 else n
theorem Nf (k n m a b c:Int)(w:World)(hk:4<=k/\k<=15)(hc:(k=12->n<=m)/\(k=13->1<=n/\n<=31)/\(k=14->1<=n))(hn:isW n)(ha:isW a)(hb:isW b)(hcc:isW c) :
  PwP k (Afp k n) (Afq k m) (Afr k n) (opS k n m a b c) (opN k) (opX k a b c) w:=by
 intro W g cap ga ca hE hX;obtain⟨h12,h13,h14⟩:=hc;have hn2:=hn.2;have hk2:k=4\/k=5\/k=6\/k=7\/k=8\/k=9\/k=10\/k=11\/k=12\/k=13\/k=14\/k=15:=by omega
 clear hk;rcases hk2 with rfl|rfl|rfl|rfl|rfl|rfl|rfl|rfl|rfl|rfl|rfl|rfl
 ·exact Xz _ _ _ _ _ _ n m a b c g cap W ha hb hcc hX
 ·exact Ya _ _ _ _ _ _ n m a b c g cap W ha hb hcc hX
 ·exact Yb _ _ _ _ _ _ n m a b c g cap W ha hb hcc hX
 ·exact Yc _ _ _ _ _ _ n m a b c g cap W ha hb hcc hX
 ·exact Yd _ _ _ _ _ _ n m a b c g cap W ha hb hcc hX
 ·exact Ye _ _ _ _ _ _ n m a b c g cap W ha hb hcc hX
 ·exact Vi _ _ _ _ _ _ n m a b c g cap W ha hb hcc hX
 ·exact Vj _ _ _ _ _ _ n m a b c g cap W ha hb hcc hX
 ·exact Vk _ _ _ _ _ _ n m a b c g cap W ha hb hcc ⟨rfl,rfl,h12 rfl⟩ hX
 ·exact Vn _ _ _ _ _ _ n m a b c g cap W ha hb hcc ⟨rfl,h13 rfl⟩ hX
 ·exact Vl _ _ _ _ _ _ n m a b c g cap W ha hb hcc ⟨rfl,h14 rfl,hn2⟩ hX
 ·exact Vm _ _ _ _ _ _ n m a b c g cap W ha hb hcc hX
end
section
attribute [local irreducible] Ax
theorem Hu (S:MS)(a:Ar):(S.words a).length=a.size.toNat:=by simp[MS.words]
theorem Ak.words {w:World}{R:RA}{m:Mc}{xs:List Ins}{S:MS}(h:Ak w R m xs S)(a:Ar)(ha:Su m a):∃g n c,Ht m R a.bank=.slice (some ⟨g,0,none⟩) n c/\n<=c/\(n:Int)=Bn m a.bank/\g<w.heap.size/\RdW w (some ⟨g,a.lo.toNat,none⟩) (S.words a):=by
 obtain⟨ab,al,az⟩:=a;obtain⟨h1,h2,h3,h4⟩:=ha;dsimp only at h1 h2 h3 h4⊢;have hm:=Bc h.kd.ok
 have hw:∀(k:Nat) (x:Int),(S.words ⟨ab,al,az⟩)[k]? = some x->k<az.toNat/\x=S.mem ab (al+(k:Nat)):=fun k x hx=>by
  unfold MS.words at hx;rw[List.getElem?_map] at hx;by_cases hk:k<az.toNat
  ·rw[List.getElem?_range hk] at hx;exact⟨hk,by simpa using hx.symm⟩
  ·rw[List.getElem?_eq_none (by simp;omega)] at hx;cases hx
 unfold Bn at h4⊢;unfold Ht;rcases h1 with rfl|⟨hb0,hb1⟩
 ·rw[ijp (by omega)] at h4;rw[ijp (by omega),ijp (by omega)];refine⟨R.A.mb,m.main.toNat,R.A.mcap,rfl,h.stat.mcap,by omega,h.mem.main.lt,.inr ⟨R.A.mb,al.toNat,rfl,fun k x hx=>?_⟩⟩
  obtain⟨h5,rfl⟩:=hw k x hx;rw[h.mem.main.cell (by omega)];congr 3;omega
 ·rw[ijn (by omega)] at h4;rw[ijn (by omega),ijn (by omega)];have hbk:ab.toNat<m.banks.toNat:=by omega
  refine⟨R.A.bk ab.toNat,m.bank.toNat,m.bank.toNat,rfl,Nat.le_refl _,by omega,(h.mem.bank _ hbk).lt,.inr ⟨R.A.bk ab.toNat,al.toNat,rfl,fun k x hx=>?_⟩⟩
  obtain⟨h5,rfl⟩:=hw k x hx;rw[(h.mem.bank _ hbk).cell (by omega)];congr 3<;>omega
def Ahn (ws:List Int)(n:Nat)(w:World)(e:Ending)(w':World):Prop:=∃g c,e=.returned (.slice (some ⟨g,0,none⟩) n c)/\Ext [] w w'/\w'.ownsRow w.heap.size 3 1 (.slice (some ⟨g,0,none⟩) n c) n (ws.map (Value.int .i64))
theorem Md {w:World}{R:RA}{m:Mc}{xs:List Ins}{S:MS}(h:Ak w R m xs S)(k br bx:Nat)(Ra:Option Addr)(lr cr:Nat)(rs:List Ar)(hr:RdB w Ra rs)(hlr:rs.length=lr)(hl:lr<=8)(a:Ar)(hk:rs[k]? = some a)(ha:Su m a)(hz:a.size<=4096)
  (hbr:w.cell? ⟨br,0,none⟩=some (.slice Ra lr cr)) (hbx:w.cell? ⟨bx,0,none⟩=some (.pointer (some R.A.c))) :
  Calls prog 93 #[k,.pointer (some br),.pointer (some bx)] w (Ahn (S.words a) a.size.toNat w):=by
 obtain⟨g,n,c,hwv,hnc,hns,hgl,hrd⟩:=h.words a ha;have hm:=Bc h.kd.ok;have hklt:k<lr:=by have:=(ils hk).1;omega
 have hkI:((k:Nat):Int)<(lr:Int):=by omega
 have HWD:=hd (fun W (hW:Ext [] w W)=>Mp (h.nil hW) a.bank (by have:=ha.1;omega));rw[hwv] at HWD;have HRD:=hd hrd;have HH:=hd h;have HBR:=hd hbr;have HBX:=hd hbx;have hbrl:=World.block_lt_of_cell? w _ hbr;have hbxl:=World.block_lt_of_cell? w _ hbx;simp only at hbrl hbxl;have hwl:=Hu S a;obtain⟨h1,h2,h3,h4⟩:=ha;obtain⟨b,o,rfl,hbl,e1,e2,e3⟩:=hr.at hk;obtain⟨ab,al,az⟩:=a;dsimp only at *;obtain⟨lo,rfl⟩:∃n:Nat,al=n:=⟨al.toNat,by omega⟩;obtain⟨sz,rfl⟩:∃n:Nat,az=n:=⟨az.toNat,by omega⟩;obtain⟨hi,hhi⟩:∃n:Nat,n=lo+sz:=⟨_,rfl⟩;have hhz:((lo:Nat):Int)+((sz:Nat):Int)=(hi:Nat):=by omega
 rw[hhz] at e3;have hsb:Bn m ab<=524288:=by unfold Bn;split<;>omega
 have hz1:(0:Int)<=(hi:Int):=by omega
 have hz2:(hi:Int)<=(c:Int):=by omega
 have hz3:lo<=hi:=by omega
 have hz4:hi-lo=sz:=by omega
 have hz5:(lo:Int)<=(hi:Int):=by omega
 have hz6:c≠lo:=by omega
 rw[Int.toNat_natCast] at hwl HRD⊢;have HWL:=hd hwl
 have HCL:=hd (fun W (hW:Ext [] w W)=>Io g lo (c-lo) (S.words ⟨ab,(lo:Nat),(sz:Nat)⟩) W (by
  rcases HRD.o with h0|⟨b',o',he,hc⟩
  ·exfalso;rw[h0] at hwl;simp at hwl;omega
  ·cases he;exact fun k x hx=>hW.held (hc k x hx) (by simp)) (by omega) (by omega))
 rw[hwl] at HCL;clear h hr hk hbr hbx hwv hns hrd h1 h4 hsb hhz hwl hm hhi;have HX:=hd (Blk.new w 136 #[ab,lo,hi]);have HE0:=hd ((Ext.refl [] w).alloc (.cells #[ab,lo,hi] 136));have q1:=HBR.o;have q2:=HBX.o;go_enter func93,ntmps93
 go_upto_region 2 with fail
 clear q1 q2 e1 e2 e3;generalize w.alloc (.cells #[ab,lo,hi] 136)=w0 at *;generalize hwl:w.heap.size=bl at *;refine rgE 8 [(3,Bv (.slice (some g) n c))] ?_
 simp only[TK]
 repeat(refine dE (fun wr nr hJ=>by(have qx:=(HX.o.ext hJ (by simp)).cell;have qxl:=(HX.o.ext hJ (by simp)).lt;have q2:=(HE0.o.trans hJ).held HBX.o (by simp);have q2l:bx<wr.heap.size:=nl hbxl (by have:=(HE0.o.trans hJ).size;omega));clear hJ;exact CL) ?_;simp only[PT])
 refine Bj rfl rfl ?_ ?_
 ·apply Exists.intro
  apply Exists.intro
  refine⟨fun wr=>?_,fun wr nr hJ=>?_⟩
  ·go_simp
   first|exact⟨rfl,rfl⟩|rfl
  ·exact(by refine(HWD.o _ (HE0.o.trans hJ)).mono ?_;rintro e w' ⟨rfl,rfl⟩;exact⟨rfl,er⟩)
 simp only[PT]
 repeat(refine dE (fun wr nr hJ=>by(have qx:=(HX.o.ext hJ (by simp)).cell;have qxl:=(HX.o.ext hJ (by simp)).lt);clear hJ;exact CL) ?_;simp only[PT])
 refine Aa (fun w1 hJ hF=>?_)
 have HE1:=hd (HE0.o.trans hJ);have hgl1:g<w1.heap.size:=by have:=HE1.o.size;omega
 clear hF hJ;go_wp2_with fail
 refine(HCL.o _ HE1.o).mono ?_
 rintro e w2 ⟨g2,c2,rfl,hE2,hq2⟩;rw[HWL.o] at hq2⊢;have HQ:=hd (⟨g2,c2,rfl,HE1.o.trans hE2,Abn hq2 HE1.o.size⟩:Ahn (S.words ⟨ab,(lo:Nat),(sz:Nat)⟩) sz w (.returned (.slice (some g2) sz c2)) w2);clear hE2 hq2;go_wp2_with fail
 go_ret
 exact HQ.o
end
section
section
variable {w w':World} {R:RA} {m:Mc} {xs:List Ins} {S:MS} {T:List Nat} {x:Ins}
theorem Mf (hm:m.okB=true)(hw:WfM m S)(hv:VI m x):Agt m (Ae m S x ++ Ab m S x):=by
 intro a ha;have hmk:=Bc hm;have r1:=hw.r x.a;have r2:=hw.r x.b;have hn:=hv.n;have hcb:=hv.cb;have hks:=hv.ks;have hwm:=hv.wm;unfold isW at r1 r2;rcases List.mem_append.1 ha with ha|ha
 ·unfold Ae at ha;by_cases c1:x.op=5
  ·rw[ijp c1] at ha;obtain rfl:=ms ha;dsimp only;omega
  rw[ijn c1] at ha;by_cases c2:x.op=7
  ·rw[ijp c2] at ha;obtain rfl:=ms ha;dsimp only;omega
  rw[ijn c2] at ha;by_cases c3:x.op=9
  ·rw[ijp c3] at ha;obtain rfl:=ms ha;dsimp only;omega
  rw[ijn c3] at ha;by_cases c4:x.op=14
  ·rw[ijp c4] at ha;obtain⟨i,hi,rfl⟩:=List.mem_map.1 ha;have hi':=List.mem_range.1 hi;have h0:=hwm c4;have h1:(0:Int)<=(i:Nat)*x.m:=Int.mul_nonneg (by omega) h0.1;have h2:((i:Nat):Int)*x.m<=8*4096:=Int.mul_le_mul (by omega) (by omega) h0.1 (by omega);dsimp only;generalize ((i:Nat):Int)*x.m=z at *;omega
  rw[ijn c4] at ha;by_cases c5:x.op=18
  ·rw[ijp c5] at ha;have h0:=hks c5;by_cases c6:x.k=2
   ·rw[ijp c6] at ha;obtain rfl:=ms ha;dsimp only;omega
   ·rw[ijn c6] at ha;obtain rfl:=ms ha;dsimp only;omega
  rw[ijn c5] at ha;simp at ha
 ·unfold Ab at ha;by_cases c1:x.op=6
  ·rw[ijp c1] at ha;obtain rfl:=ms ha;dsimp only;omega
  rw[ijn c1] at ha;by_cases c2:x.op=8
  ·rw[ijp c2] at ha;obtain rfl:=ms ha;dsimp only;omega
  rw[ijn c2] at ha;by_cases c3:x.op=10
  ·rw[ijp c3] at ha;obtain rfl:=ms ha;dsimp only;omega
  rw[ijn c3] at ha;by_cases c5:x.op=18
  ·rw[ijp c5] at ha;have h0:=hks c5;by_cases c6:x.k=2
   ·rw[ijp c6] at ha;obtain rfl:=ms ha;dsimp only;omega
   ·rw[ijn c6] at ha;obtain rfl:=ms ha;dsimp only;omega
  rw[ijn c5] at ha;simp at ha
theorem Dq (hm:m.okB=true)(hw:WfM m S)(hv:VI m x)(hb:Cg m S (Ae m S x) (Ab m S x)=0):(∀a∈Ae m S x,Su m a/\a.size<=4096)/\∀a∈Ab m S x,Su m a/\a.size<=4096:=by
 obtain⟨h1,h2⟩:=Fm (m:=m) (S:=S) (rs:=Ae m S x) (ws:=Ab m S x) (by rw[hb];decide);have hB:=Mf hm hw hv;refine⟨fun a ha=>?_,fun a ha=>?_⟩
 ·have h3:=hB a (List.mem_append_left _ ha);have h4:=Cq (h1 a ha);exact⟨⟨h3.1,h3.2.1,h4.1,h4.2⟩,h3.2.2.1⟩
 ·have h3:=hB a (List.mem_append_right _ ha);have h4:=Cq (h2 a ha);exact⟨⟨h3.1,h3.2.1,h4.1,h4.2⟩,h3.2.2.1⟩
theorem Ak.vecT (h:Ak w R m xs S)(hE:Ext T w w')(hT:∀x∈T,R.A.kd x=0\/R.A.kd x=5\/R.A.kd x=9){vb vc wr wc:Nat->Nat}{wcap ab:Nat}{v wt:Int->Int->Int}{acc:Int->Int}
  (href:Blk w' R.A.c 52 (Fu m {R with vb:=vb,vc:=vc,wr:=wr,wc:=wc,wcap:=wcap,ab:=ab } {S with v:=v,wt:=wt,acc:=acc } xs.length))
  (hv:RV w' {R with vb:=vb,vc:=vc,wr:=wr,wc:=wc,wcap:=wcap,ab:=ab } m {S with v:=v,wt:=wt,acc:=acc }) :
  Ak w' {R with vb:=vb,vc:=vc,wr:=wr,wc:=wc,wcap:=wcap,ab:=ab } m xs {S with v:=v,wt:=wt,acc:=acc }:=by
 have hQ:=h.que.ext h.kd hE (fun x hx=>by have:=hT x hx;omega);refine⟨href,h.stat.ext h.kd hE (fun x hx=>by have:=hT x hx;omega),h.mem.ext h.kd hE (fun x hx=>by have:=hT x hx;omega),⟨hQ.map,hQ.words⟩,h.loops.ext hE (fun x hx=>by have:=hT x hx;omega),hv,?_,h.kd⟩
 exact h.flt.ext hE (fun x hx=>by have:=hT x hx;omega)
theorem Ak.setV (h:Ak w R m xs S)(d:Nat)(hd:d<8)(g cap:Nat)(f:Int->Int)(hg:UpW w g 3 m.lanes.toNat fun k=>.int .i64 (f (k:Nat)))(hk:R.A.kd g=8)(hc:m.lanes.toNat<=cap) :
  Ak (w.setCell ⟨R.A.c,22+d,none⟩ (.slice (some g) m.lanes.toNat cap)) {R with vb:=fun i=>if i=d then g else R.vb i,vc:=fun i=>if i=d then cap else R.vc i } m xs {S with v:=Be S.v (d:Nat) f }:=by
 have hE:Ext [R.A.c] w (w.setCell ⟨R.A.c,22+d,none⟩ (.slice (some g) m.lanes.toNat cap)):=er.setCell (.inl (by simp)) _;have hT:∀x∈[R.A.c],R.A.kd x=0:=fun x hx=>by rw[ms hx];exact h.kd.kc
 have hV:=h.vec.ext h.kd hE (fun x hx=>by have:=hT x hx;omega);refine h.vecT hE (fun x hx=>.inl (hT x hx)) (vb:=fun i=>if i=d then g else R.vb i) (vc:=fun i=>if i=d then cap else R.vc i) (wr:=R.wr) (wc:=R.wc) (wcap:=R.wcap) (ab:=R.ab) (v:=Be S.v (d:Nat) f) (wt:=S.wt) (acc:=S.acc) ?_ ⟨fun i hi=>?_,hV.wo,hV.wt,hV.wcap,hV.acc,hV.ak⟩
 ·refine h.ref.set_' (22+d) _ _ (Ic (22+d) (fun j hj hne=>?_) (fun _=>?_))
  ·unfold rmF;dsimp only;by_cases h1:j<6
   ·rw[ijp h1,ijp h1];rfl
   rw[ijn h1,ijn h1];by_cases h2:j<22
   ·rw[ijp h2,ijp h2]
   rw[ijn h2,ijn h2];by_cases h3:j<30
   ·rw[ijp h3,ijp h3,ijn (by omega),ijn (by omega)]
   rw[ijn h3,ijn h3]
  ·unfold rmF;dsimp only;rw[ijn (by omega),ijn (by omega),ijp (by omega),ijp (by omega),ijp (by omega)]
 ·dsimp only;by_cases hid:i=d
  ·subst hid;rw[ijp rfl,ijp rfl];refine⟨?_,hk,hc⟩
   refine(hg.ext hE (fun hm=>?_)).same (fun k _=>by rw[Bt])
   have:=hT g hm;omega
  ·rw[ijn hid,ijn hid];obtain⟨h1,h2,h3⟩:=hV.v i hi;exact⟨h1.same (fun k _=>by rw[Cw _ _ (by omega)]),h2,h3⟩
theorem Ak.setAcc (h:Ak w R m xs S)(g:Nat)(f:Int->Int)(hg:UpW w g 3 m.lanes.toNat fun k=>.int .i64 (f (k:Nat)))(hk:R.A.kd g=9) :
  Ak (w.setCell ⟨R.A.c,31,none⟩ (.slice (some g) m.lanes.toNat m.lanes.toNat)) {R with ab:=g } m xs {S with acc:=f }:=by
 have hE:Ext [R.A.c] w (w.setCell ⟨R.A.c,31,none⟩ (.slice (some g) m.lanes.toNat m.lanes.toNat)):=er.setCell (.inl (by simp)) _;have hT:∀x∈[R.A.c],R.A.kd x=0:=fun x hx=>by rw[ms hx];exact h.kd.kc
 have hV:=h.vec.ext h.kd hE (fun x hx=>by have:=hT x hx;omega);refine h.vecT hE (fun x hx=>.inl (hT x hx)) (vb:=R.vb) (vc:=R.vc) (wr:=R.wr) (wc:=R.wc) (wcap:=R.wcap) (ab:=g) (v:=S.v) (wt:=S.wt) (acc:=f) ?_ ⟨hV.v,hV.wo,hV.wt,hV.wcap,hg.ext hE (fun hm=>by have:=hT g hm;omega),hk⟩
 refine h.ref.set_' 31 _ _ (Ic 31 (fun j hj hne=>?_) (fun _=>rfl))
 unfold rmF;dsimp only;by_cases h1:j<6
 ·rw[ijp h1,ijp h1];rfl
 rw[ijn h1,ijn h1];by_cases h2:j<22
 ·rw[ijp h2,ijp h2]
 rw[ijn h2,ijn h2];by_cases h3:j<30
 ·rw[ijp h3,ijp h3]
 rw[ijn h3,ijn h3];by_cases h4:j=30
 ·rw[ijp h4,ijp h4]
 rw[ijn h4,ijn h4,ijn hne,ijn hne]
theorem Ak.setSum (h:Ak w R m xs S)(k:Nat)(hk:k<m.lanes.toNat)(v:Int) :
  Ak (w.setCell ⟨R.ab,k,none⟩ v) R m xs {S with acc:=Be S.acc (k:Nat) v }:=by
 have hE:Ext [R.ab] w (w.setCell ⟨R.ab,k,none⟩ v):=er.setCell (.inl (by simp)) _;have hT:∀x∈[R.ab],R.A.kd x=9:=fun x hx=>by rw[ms hx];exact h.vec.ak
 refine h.vecT hE (fun x hx=>.inr (.inr (hT x hx))) (vb:=R.vb) (vc:=R.vc) (wr:=R.wr) (wc:=R.wc) (wcap:=R.wcap) (ab:=R.ab) (v:=S.v) (wt:=S.wt) (acc:=Be S.acc (k:Nat) v) ?_ ⟨fun d hd=>?_,?_,fun i hi=>?_,h.vec.wcap,?_,h.vec.ak⟩
 ·exact h.ref.far (fun he=>by have h1:=h.kd.kc;have h2:=h.vec.ak;change R.A.c=R.ab at he;rw[he] at h1;omega) _
 ·obtain⟨h1,h2,h3⟩:=h.vec.v d hd;exact⟨h1.ext hE (fun hm=>by have:=hT _ hm;omega),h2,h3⟩
 ·exact h.vec.wo.ext hE (fun hm=>by have:=hT _ hm;have h1:=h.kd.ke;omega)
 ·obtain⟨h1,h2,h3⟩:=h.vec.wt i hi;exact⟨h1.ext hE (fun hm=>by have:=hT _ hm;omega),h2,h3⟩
 ·refine h.vec.acc.set k _ (fun j hj=>?_)
  dsimp only;by_cases hjk:j=k
  ·subst hjk;rw[ijp rfl,Bt]
  ·rw[ijn hjk,Cw _ _ (by omega)]
theorem Ak.setW (h:Ak w R m xs S)(i:Nat)(hi:i<m.lanes.toNat)(g cap:Nat)(f:Int->Int)(hg:UpW w g 3 m.lanes.toNat fun k=>.int .i64 (f (k:Nat)))(hk:R.A.kd g=8)(hc:m.lanes.toNat<=cap) :
  Ak (w.setCell ⟨R.A.eb,i,none⟩ (.slice (some g) m.lanes.toNat cap)) {R with wr:=fun j=>if j=i then g else R.wr j,wc:=fun j=>if j=i then cap else R.wc j } m xs {S with wt:=Be S.wt (i:Nat) f }:=by
 have hE:Ext [R.A.eb] w (w.setCell ⟨R.A.eb,i,none⟩ (.slice (some g) m.lanes.toNat cap)):=er.setCell (.inl (by simp)) _;have hT:∀x∈[R.A.eb],R.A.kd x=5:=fun x hx=>by rw[ms hx];exact h.kd.ke
 refine h.vecT hE (fun x hx=>.inr (.inl (hT x hx))) (vb:=R.vb) (vc:=R.vc) (wr:=fun j=>if j=i then g else R.wr j) (wc:=fun j=>if j=i then cap else R.wc j) (wcap:=R.wcap) (ab:=R.ab) (v:=S.v) (wt:=Be S.wt (i:Nat) f) (acc:=S.acc) ?_ ⟨fun d hd=>?_,?_,fun j hj=>?_,h.vec.wcap,?_,h.vec.ak⟩
 ·exact h.ref.far (fun he=>by have h1:=h.kd.kc;have h2:=h.kd.ke;change R.A.c=R.A.eb at he;rw[he] at h1;omega) _
 ·obtain⟨h1,h2,h3⟩:=h.vec.v d hd;exact⟨h1.ext hE (fun hm=>by have:=hT _ hm;omega),h2,h3⟩
 ·refine h.vec.wo.set i _ (fun j hj=>?_)
  dsimp only;by_cases hji:j=i
  ·subst hji;rw[ijp rfl,ijp rfl,ijp rfl]
  ·rw[ijn hji,ijn hji,ijn hji]
 ·dsimp only;by_cases hji:j=i
  ·subst hji;rw[ijp rfl,ijp rfl];exact⟨(hg.ext hE (fun hm=>by have:=hT _ hm;omega)).same (fun k _=>by rw[Bt]),hk,hc⟩
  ·rw[ijn hji,ijn hji];obtain⟨h1,h2,h3⟩:=h.vec.wt j hj;exact⟨(h1.ext hE (fun hm=>by have:=hT _ hm;omega)).same (fun k _=>by rw[Cw _ _ (by omega)]),h2,h3⟩
 ·exact h.vec.acc.ext hE (fun hm=>by have:=hT _ hm;have h1:=h.vec.ak;omega)
theorem Ak.acell (h:Ak w R m xs S){k:Nat}(hk:k<m.lanes.toNat):w.cell? ⟨R.ab,k,none⟩=some (.int .i64 (S.acc (k:Nat))):=h.vec.acc.cell hk
theorem Ou {w:World}{B g n c:Nat}{ws:List Int}(h:w.ownsRow B 3 1 (.slice (some g) n c) n (ws.map (Value.int .i64)))(hl:ws.length=n)(h0:1<=n):UpW w g 3 n (fun k=>.int .i64 (ws.getD k 0))/\B<=g/\n<=c:=by
 rcases h.2 with⟨hv,h1⟩|⟨g',cap,cur,hv,hb,hg,hc⟩
 ·omega
 ·cases hv
  refine⟨⟨cur,hg,fun i hi=>?_⟩,hb,?_⟩
  ·have h3:=h.cells (g:=g) rfl i (.int .i64 (ws.getD i 0)) (by rw[List.getElem?_map,List.getD_eq_getElem?_getD,List.getElem?_eq_getElem (by omega)];rfl);rw[Addr.add_mk,Nat.zero_add,Blk.cell hg] at h3;exact h3
  ·obtain⟨A,c',hv',hle⟩:=Mq h;cases hv';exact hle
end
end
section
attribute [local irreducible] Ax
def nsC (ds:List (Nat×Nat)):List Value:=ds.flatMap fun p=>(ndC 2 none 0 0 0 0 0 (some p.1) 1 p.2).toList
theorem Rw (p:Nat×Nat)(ds:List (Nat×Nat)):nsC (p :: ds)=(ndC 2 none 0 0 0 0 0 (some p.1) 1 p.2).toList ++ nsC ds:=by unfold nsC;rw[List.flatMap_cons]
theorem Aat (ds:List (Nat×Nat)):(nsC ds).length=ds.length*12:=by
 induction ds with
 | nil=>rfl
 | cons p ds ih=>rw[Rw,List.length_append,ih];simp[ndC];omega
theorem Afs (ds:List (Nat×Nat))(p:Nat×Nat):nsC (ds ++ [p])=nsC ds ++ (ndC 2 none 0 0 0 0 0 (some p.1) 1 p.2).toList:=by unfold nsC;rw[List.flatMap_append];simp
theorem Aby:∀(ds:List (Nat×Nat)) (q:Nat) (p:Nat×Nat) (i:Nat),ds[q]? = some p->i<12->(nsC ds)[q*12+i]? = (ndC 2 none 0 0 0 0 0 (some p.1) 1 p.2)[i]?
 | [],q,p,i,h,hi=>by simp at h
 | r :: ds,0,p,i,h,hi=>by
  simp at h;subst h;rw[Rw,List.getElem?_append_left (by simp[ndC];omega)];simp
 | r :: ds,q+1,p,i,h,hi=>by
  have h1:=Aby ds q p i (by simpa using h) hi;rw[Rw,List.getElem?_append_right (by simp[ndC];omega),show(q+1)*12+i-(ndC 2 none 0 0 0 0 0 (some r.1) 1 r.2).toList.length=q*12+i by simp[ndC];omega];exact h1
def DsIn (w:World)(ds:List (Nat×Nat))(xs:List Int):Prop:=∀(q:Nat) (p:Nat×Nat),ds[q]? = some p->p.1<w.heap.size/\∃x,xs[q]? = some x/\w.cell? ⟨p.1,0,none⟩=some (.int .i64 x)
theorem Qe.of {w:World}{B n:Nat}{v:Value}{ds:List (Nat×Nat)}{xs:List Int}{k lo hi nn:Int}{ga ca:Nat}(h:w.ownsRow B 189 12 v (n+1) (nsC ds ++ (ndC k (some ga) n ca lo hi nn none 0 0).toList))(hd:DsIn w ds xs)(hl:ds.length=n)(hx:xs.length=n)(hga:ga<w.heap.size)(hgc:∀j:Nat,j<n->w.cell? ⟨ga,j,none⟩=some (.int .i64 j)):∃g c,v=.slice (some ⟨g,0,none⟩) (n+1) c/\Qe w g k lo hi nn n xs:=by
 rcases h.2 with⟨hv,h0⟩|⟨g,c,cur,hv,hb,hg,hc⟩
 ·exfalso;omega
 ·have hB:Blk w g 189 cur:=hg;have hcell:=h.cells (g:=g) (by rw[hv];rfl);have hlen:=Aat ds;refine⟨g,c,hv,hB.lt,fun j x hj=>?_,ga,ca,fun i u hu=>?_,hga,hgc⟩
  ·have hjn:j<ds.length:=by have:=(ils hj).1;omega
   obtain⟨p,hp⟩:∃p,ds[j]? = some p:=⟨_,List.getElem?_eq_getElem hjn⟩;obtain⟨h1,y,h2,h3⟩:=hd j p hp;rw[hj] at h2;cases h2;refine⟨p.1,p.2,fun i u hu=>?_,h1,h3⟩
   have hi:i<12:=by have:=(Array.getElem?_eq_some_iff.1 hu).1;simpa[ndC] using this
   have h4:=Aby ds j p i hp hi;rw[hu] at h4;have h5:=hcell (j*12+i) u (by rw[List.getElem?_append_left (by omega)];exact h4);rw[Addr.add_mk,Nat.zero_add] at h5;exact h5
  ·have hi:i<12:=by have:=(Array.getElem?_eq_some_iff.1 hu).1;simpa[ndC] using this
   have h5:=hcell (n*12+i) u (by rw[List.getElem?_append_right (by omega),hlen,hl,show n*12+i-n*12=i by omega];simpa using hu);rw[Addr.add_mk,Nat.zero_add] at h5;exact h5
end
end Go.Proofs.YtkgmhggliifkjaaGreat
