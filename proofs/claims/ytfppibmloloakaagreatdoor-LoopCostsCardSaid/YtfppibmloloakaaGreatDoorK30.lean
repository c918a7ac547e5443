import Derived.Test.YtfppibmloloakaaGreatDoorK29
namespace Go.Proofs.YtfppibmloloakaaGreatDoor
open Go.RowKit Go.Proofs.Tryz
set_option linter.all false
set_option maxHeartbeats 64000000
section
def TrP (tb B eb:Nat)(cv:Value)(K:List (Nat×List Int))(T:List Tch)(vs:List Int)(is:List Az)(ts:List Tch)(w:World)(e:Ending)(w':World):Prop:=
 e=.returned (.tuple #[])/\XB [tb,eb] B w w'/\TrS tb B cv (K ++ is.map kyI) (T ++ ts) w'/\Bn w' eb vs
def TrC (l:List St):Prop:=∀(tb B eb n nb:Nat) (cv:Value) (K:List (Nat×List Int)) (T:List Tch) (A:Option Addr) (cap:Nat) (gs:List Nat) (names:List ByteArray) (vs:List Int) (no:Nat) (xs:List Int) (gl L:List Nat) (AL:List Value) (w:World),
 TrS tb B cv K T w->Dh w n nb L AL names xs gl no A gs l->Bn w eb vs->vs.length=names.length->n<=tb->n<=eb->eb<B->eb≠tb->Fit K T (Au (names.zip vs) no l)->
  Calls prog 139 #[.pointer (some tb),.slice A l.length cap,.slice (some eb) vs.length 8] w (TrP tb B eb cv K T vs (Au (names.zip vs) no l) (Ft (names.zip vs) no K.length l) w)
attribute [local irreducible] Bj
set_option maxRecDepth 100000 in
theorem Vs (l:List St)(ih:∀s∈l,TrC s.body):TrC l:=by
 intro tb B eb n nb cv K T A cap gs names vs no xs gl L AL w hT hA hV hl hnt hne heB het hfit;have HI:=hd ih;have HT:=hd hT;have HA:=hd hA;have HV:=hd hV;have HL:=hd hl;have bl:=hd hfit;have bP:gs.length<=1000000:=hA.row.1;have bQ:=hV.1;have bR:=hT.nt.1;clear ih hT hA hV hl hfit;generalize hn:l.length=m at *;have HN:=hd hn;generalize bi:vs.length=d at *;have HD:=hd bi;have bS:m<=1000000:=by have:=HA.o.len;omega
 clear hn bi;generalize az:names.zip vs=env at *;have a2:=hd az;clear az
 have aF:Hd (∀x∈[tb,eb],n<=x):=hd fun x hx=>by
  rcases jE.1 hx with rfl|hx
  ·exact hnt
  ·rw[jA.1 hx];exact hne
 have aG:n<=B:=by omega
 have ab:Hd (∀b,b<n->b<B/\b∉[tb,eb]):=hd fun b hb=>⟨by omega,fun hm=>by have:=aF.o b hm;omega⟩
 have aT:Hd (eb∉[tb]):=hd fun h=>het (jA.1 h)
 have bm:Hd (∀a b:World,XB [tb] B a b->XB [tb,eb] B a b):=hd fun _ _ h=>h.mono fun x hx=>.inl (by rw[jA.1 hx];exact jO ..)
 go_enter func139,ntmps139
 go_wp2_with fail
 go_loopw [13] (fun i wr=>∃k:Nat,i=.int .i64 k/\k<=m/\Hd (XB [tb,eb] B w wr)/\Hd (TrS tb B cv (K ++ (Au env no (l.take k)).map kyI) (T ++ Ft env no K.length (l.take k)) wr)/\Hd (Bn wr eb vs)) (fun i _=>(m-intOf i).toNat)
 case atStart=>exact⟨0,rfl,jQ _,hd (XB.refl _ _ _),hd (by simpa[Au,Ft] using HT.o),HV⟩
 case round=>
  obtain⟨k,rfl,hk,HE,an,ah⟩:=hrel;rename World=>wq
  by_cases bV:k<m
  ·have aU:(k:Int)<(m:Int):=by omega
   have aV:=hd (HE.o.lst aF.o aG HA.o);obtain⟨bA,g,rfl,hg,ba⟩:=aV.o.row.at (i:=k) (by have:=HA.o.len;have:=HN.o;omega);have bn:wq.cell? ⟨bA,k,none⟩=some (.pointer (some g)):=by have:=ba 0 _ rfl;rw[Nat.mul_one,Nat.add_zero] at this;exact this
   have aH:=jB wq _ bn;simp only at aH;obtain⟨s,hs⟩:∃s,l[k]? = some s:=⟨_,jJ (by have:=HN.o;omega)⟩;obtain⟨h,bs⟩:=s;have ae:=ilm hs;obtain⟨pb,po,CA,cc,BA,bcap,aQ,PA,pc,vv,hC⟩:=(aV.o.at_ k g _ hg hs).open_;have HC:=hd hC;have af:=hd (HA.o.fd _ ae);have aW:=hd (HI.o _ ae);have aX:=hd (Ko (env:=env) (no:=no) hs);have aY:=hd (Aer (env:=env) (no:=no) (c:=K.length) hs);have a8:=hd (bl.o.list hs);clear hg ba hs ae hC;have aZ:Hd ((K ++ (Au env no (l.take k)).map kyI).length=K.length+(Au env no (l.take k)).length):=hd (by simp);have a7:Hd (K ++ (Au env no (l.take (k+1))).map kyI=(K ++ (Au env no (l.take k)).map kyI) ++ (Cv env (no+Ab (l.take k)) (.mk h bs)).map kyI):=hd (by rw[aX.o,List.map_append,jP]);have a1:Hd (T ++ Ft env no K.length (l.take (k+1))=(T ++ Ft env no K.length (l.take k)) ++ Om env (no+Ab (l.take k)) (K ++ (Au env no (l.take k)).map kyI).length (.mk h bs)):=hd (by rw[aY.o,aZ.o,jP]);clear aX aY aZ;generalize K ++ (Au env no (l.take k)).map kyI=Kk at *;generalize T ++ Ft env no K.length (l.take k)=Tk at *;generalize bU:no+Ab (l.take k)=nk at *;have bo:wq.cell? ⟨g,0,none⟩=some (.pointer (some ⟨pb,po,none⟩)):=HC.o.blk.cell 0;have bp:=HC.o.blk.lt;have qk:wq.cell? ⟨pb,po,none⟩=some (.int .i64 h.k):=HC.o.src 0 _ rfl;have b0:=jB wq _ qk;simp only at b0;have aj:=HC.o.gn;have ak:=HC.o.pn;by_cases ai:h.k=3
   ·
    have e3:(h.k==3)=true:=by simpa using ai
    have aa:=hd ai;have b1:=hd (Sy.of HC.o ai af.o);generalize h.k=hk at qk e3;clear ai;rw[Hk aa.o] at a7 a8;rw[Abj aa.o] at a1;have bq:Kk.length<2000:=by have:=a8.o.1;simp only[jS] at this;omega
    have br:Tk.length+rdE h.val<=30000:=by have:=a8.o.2;simp only[Gq,List.map_cons,List.map_nil,List.sum_cons,List.sum_nil] at this;omega
    have aA:=hd (Zk tb B eb n g cv Kk Tk names nb nk vs h wq an.o b1.o ah.o (by rw[HD.o];exact HL.o) hnt heB het bq br);rw[HD.o,a2.o] at aA;unfold ptV at aA;go_wp2_with fail
    refine aA.o.mono ?_
    rintro e w2 ⟨rfl,hE,bc⟩;have ag:=hd hE;have aB:=hd bc;have ao:=hd (hE.env ah.o heB aT.o);have aI:=hd (b1.o.xb hE (fun x hx=>by rw[jA.1 hx];exact hnt) aG);clear hE bc aA;have aC:=hd (Ac3 tb B eb n g cv _ _ names nb nk vs h (Kk.length:Nat) (rdE h.val:Nat) w2 aB.o aI.o ao.o (by rw[HD.o];exact HL.o) hnt heB (by rw[jG,Tb,Qy];omega));rw[HD.o,a2.o] at aC;unfold ptV at aC;have aJ:=hd (jP Tk (Tb env h Kk.length) [Zf env h Kk.length]);have bt:Hd ((nk,vs)=kyI ⟨nk,h,env⟩):=hd (by rw[<-a2.o,Ac4 (by rw[HD.o];exact HL.o)]);go_wp2_with fail
    refine aC.o.mono ?_
    rintro e w3 ⟨rfl,hE,bd⟩;have ap:=hd hE;have b2:=hd bd;have aq:=hd (hE.env ao.o heB aT.o);clear hE bd aC;go_wp2_with fail
    go_roundw
    case rel=>exact⟨k+1,by go_num,by omega,hd (HE.o.trans (bm.o _ _ (ag.o.trans ap.o))),hd (by rw[a7.o,a1.o,<-aJ.o];rw[bt.o] at b2;exact b2.o),aq⟩
    case measure=>simp[intOf];omega
   ·have e3:(h.k==3)=false:=by simpa using ai
    by_cases ad:h.k=2
    ·
     have e2:(h.k==2)=true:=by simpa using ad
     have aK:Hd (Aw names h=names):=hd (ijn (by omega))
     have aL:=hd (Ms g CA h.conds.length cc h names eb vs wq (by have:=HC.o.blk.cell 3;rw[this];simp[Ck,ad]) rfl (HC.o.cond ad).1 (by
       have:=af.o;cases this with
       | loop _ _ _ h1=>omega
       | when _ _ _ _ _ h1 h2=>exact h1
       | store _ _ h1=>omega) ah.o (by rw[HD.o];exact HL.o))
     rw[HD.o,a2.o] at aL;rw[Ij ad] at a7 a8;rw[Aep ad] at a1;generalize h.k=hk at qk e2 e3;clear ad ai;go_wp2_with fail
     refine aL.o.mono ?_
     rintro e w2 ⟨rfl,hE⟩;have ag:=hd hE;have b3:Hd (XB [tb,eb] B wq w2):=hd (XB.of0 hE);clear hE aL;have b4:w2.cell? ⟨g,4,none⟩=some (.slice BA bs.length bcap):=(HC.o.blk.ext ag.o (by simp)).cell 4;have bu:=(HC.o.blk.ext ag.o (by simp)).lt;have aB:=hd (an.o.ext0 ag.o);have ao:=hd (ah.o.keep ag.o (by simp));cases hh:Ec env h
     ·rw[hh] at a7 a1;simp only[Bool.false_eq_true,if_false,List.map_nil,List.append_nil] at a7 a1;clear hh;go_wp2_with fail
      go_roundw
      case rel=>exact⟨k+1,by go_num,by omega,hd (HE.o.trans b3.o),hd (by rw[a7.o,a1.o];exact aB.o),ao⟩
      case measure=>simp[intOf];omega
     ·rw[hh] at a7 a1 a8;simp only[if_true] at a7 a1 a8;clear hh;have al:=hd ((Dh.body HC.o af.o).step ag.o (by simp));rw[aK.o] at al;have HQ:=hd (aW.o tb B eb n nb cv Kk Tk BA bcap aQ names vs nk (xs ++ [(k:Int)]) (Co gl h g) L AL w2 aB.o al.o ao.o (by rw[HD.o];exact HL.o) hnt hne heB het (by simp only[St.body];rw[a2.o];exact a8.o));simp only[St.body] at HQ;rw[HD.o,a2.o] at HQ;go_wp2_with fail
      refine HQ.o.mono ?_
      rintro e w3 ⟨rfl,aw,ax,ay⟩;have ap:=hd aw;have aM:=hd ax;have aq:=hd ay;clear aw ax ay HQ;go_wp2_with fail
      go_roundw
      case rel=>exact⟨k+1,by go_num,by omega,hd ((HE.o.trans b3.o).trans ap.o),hd (by rw[a7.o,a1.o];exact aM.o),aq⟩
      case measure=>simp[intOf];omega
    ·have e2:(h.k==2)=false:=by simpa using ad
     have aN:h.k=1:=by
      have:=af.o;cases this with
      | loop _ _ _ h1=>exact h1
      | when _ _ _ h1=>omega
      | store _ _ h1=>omega
     have aO:wq.cell? ⟨g,2,none⟩=some (.int .i64 (if h.k=1 then(Ar h:Int) else 0)):=HC.o.blk.cell 2;have b4:wq.cell? ⟨g,4,none⟩=some (.slice BA bs.length bcap):=HC.o.blk.cell 4;have qv:wq.cell? ⟨pb,po+5,none⟩=some (.bool h.vec):=HC.o.src 5 _ rfl;rw[ijp aN] at aO;have aa:=hd aN
     have ac:Hd ((-100000<=h.lo/\h.lo<=100000)/\(-100000<=h.hi/\h.hi<=100000)/\(1<=h.step/\h.step<=100000)/\names.length<8):=hd (by
      have:=af.o;cases this with
      | loop _ _ _ _ _ _ h0 h1 h2 h3=>exact⟨h1,h2,h3,h0⟩
      | when _ _ _ h1=>omega
      | store _ _ h1=>omega)
     have bT:Ar h<=200000:=Fl ac.o.1 ac.o.2.1 ac.o.2.2.1;generalize h.k=hk at qk e2 e3;clear aN ad ai;cases hvec:h.vec
     ·
      rw[hvec] at qv;rw[Jv aa.o hvec] at a7 a8;rw[Ag8 aa.o hvec] at a1;have aP:Hd (T ++ Ft env no K.length (l.take (k+1))=Tk ++ Abk env h nk Kk.length bs (Ar h)):=a1;clear hvec a1;generalize bj:Ar h=mn at *;have bv:=hd bj;clear bj;go_wp2_with fail
      clear aO;go_loopw [21] (fun i wx=>∃j:Nat,i=.int .i64 j/\j<=mn/\Hd (XB [tb,eb] B wq wx)/\Hd (TrS tb B cv (Kk ++ (Ef j fun k=>Au (Bh env h k) nk bs).map kyI) (Tk ++ Abk env h nk Kk.length bs j) wx)/\Hd (Bn wx eb vs)) (fun i _=>(mn-intOf i).toNat)
      case atStart=>exact⟨0,rfl,jQ _,hd (XB.refl _ _ _),hd (by rw[Jt,Vq,List.map_nil,List.append_nil,List.append_nil];exact an.o),ah⟩
      case round=>
       obtain⟨j,rfl,hj,aR,bb,aS⟩:=hrel;rename World=>wj
       by_cases bk:j<mn
       ·have b5:(j:Int)<(mn:Int):=by omega
        have au:=aR;have q0:wj.cell? ⟨g,0,none⟩=some (.pointer (some ⟨pb,po,none⟩)):=au.o.held bo (ab.o g aj).1 (ab.o g aj).2;have q4:wj.cell? ⟨g,4,none⟩=some (.slice BA bs.length bcap):=au.o.held b4 (ab.o g aj).1 (ab.o g aj).2;have ql:wj.cell? ⟨pb,po+2,none⟩=some (.int .i64 h.lo):=au.o.held (HC.o.src 2 _ rfl) (ab.o pb ak).1 (ab.o pb ak).2;have qs:wj.cell? ⟨pb,po+4,none⟩=some (.int .i64 h.step):=au.o.held (HC.o.src 4 _ rfl) (ab.o pb ak).1 (ab.o pb ak).2
        have bx:Hd (∀W,Ext [eb] wj W->W.cell? ⟨g,0,none⟩=some (.pointer (some ⟨pb,po,none⟩))/\W.cell? ⟨g,4,none⟩=some (.slice BA bs.length bcap)/\g<W.heap.size/\W.cell? ⟨pb,po+2,none⟩=some (.int .i64 h.lo)/\W.cell? ⟨pb,po+4,none⟩=some (.int .i64 h.step)/\pb<W.heap.size):=hd fun W hW=>by
         have a6:∀b,b<n->b∉[eb]:=fun b hb hm=>by rw[jA] at hm;omega
         have h1:=hW.size;have h2:=au.o.size;exact⟨hW.held q0 (a6 g aj),hW.held q4 (a6 g aj),by omega,hW.held ql (a6 pb ak),hW.held qs (a6 pb ak),by omega⟩
        have am:=hd (Es ac.o.1 ac.o.2.1 ac.o.2.2.1 (by rw[bv.o];exact bk):Bdd (Dj h j));have bz:d<8:=by have:=ac.o.2.2.2;have:=HL.o;omega
        have aD:=hd (Kd (by rw[HD.o];exact HL.o) h j:Bh (names.zip vs) h j=_);rw[a2.o] at aD;have bB:=ac.o.1;unfold Dj at am aD;generalize bN:h.lo=lo at *;generalize bO:h.step=st at *;clear q0 q4 ql qs;have m1 : -9223372036854775808<=(j:Int)*st:=by have:=am.o.1;omega
        have m2:(j:Int)*st<=9223372036854775807:=by have:=am.o.2;omega
        have m3 : -9223372036854775808<=lo+(j:Int)*st:=by have:=am.o.1;omega
        have m4:lo+(j:Int)*st<=9223372036854775807:=by have:=am.o.2;omega
        clear bN bO;have bC:=hd (Ei j fun k=>Au (Bh env h k) nk bs);have bD:=hd (Vr env h nk Kk.length bs j);have bE:=hd (a8.o.cat bk (Zj env h nk Kk.length bs j));have aK:Hd (Aw names h=names ++ [h.var]):=hd (ijp aa.o);have bF:Hd ((Kk ++ (Ef j fun k=>Au (Bh env h k) nk bs).map kyI).length=Kk.length+(Ef j fun k=>Au (Bh env h k) nk bs).length):=hd (by simp);have bG:=hd (jP Kk ((Ef j fun k=>Au (Bh env h k) nk bs).map kyI) ((Au (Bh env h j) nk bs).map kyI));have aJ:=hd (jP Tk (Abk env h nk Kk.length bs j) (Ft (Bh env h j) nk (Kk.length+(Ef j fun k=>Au (Bh env h k) nk bs).length) bs));go_upto_region 6 with fail
        refine rgW 25 [eb] (Nr eb d (lo+(j:Int)*st)) [(23,Aq wj.heap.size [.int .i64 (lo+(j:Int)*st)]),(24,Is eb (d+1) (vs ++ [lo+(j:Int)*st]))] ?_ ?_
        ·refine Am.cons (Aq.stays fun b j u y hb hu hf=>?_) (Am.cons (Is.stays fun y hy=>?_) Am.nil)
         ·have h9:b=eb:=hf.1;have:=aS.o.lt;omega
         ·rw[<-HD.o,jM (jD _),Nat.sub_self] at hy;cases hy
          rfl
        simp only[TK]
        repeat(refine dE (fun wr nr hJ=>by(obtain⟨q0,q4,bp,ql,qs,b0⟩:=bx.o wr hJ.1);clear hJ;exact CL) ?_;simp only[PT])
        refine Eg (Aq wj.heap.size [.int .i64 (lo+(j:Int)*st)]) rfl rfl (fun wr nr hJ hf=>?_) ?_
        ·refine⟨wr.heap.size,.cells #[.int .i64 (lo+(j:Int)*st)] 3,?_,Ext.size hJ.1,Cs _ _ _ ((jK wr 3 #[.int .i64 (lo+(j:Int)*st)]).cell 0)⟩
         (go_simp;try go_bits)
         first|rfl|exact⟨rfl,rfl⟩
        intro (b23:Nat);simp only[PT];refine Iq eb b23 1 d vs (lo+(j:Int)*st) _ _ rfl rfl rfl rfl rfl HD.o bz am.o (fun wr nr hJ hf=>?_) ?_
        ·have bH:(Aq wj.heap.size [.int .i64 (lo+(j:Int)*st)]).V b23 wr:=Bd hf 23 (by kernel_rfl);exact⟨aS.o.rw hJ.2 fun y hy=>by have:=(ils hy).1;have:=HD.o;omega,bH.2 0 _ rfl⟩
        simp only[PT]
        repeat(refine dE (fun wr nr hJ=>by clear hJ;exact CL) ?_;simp only[PT])
        refine Aj (fun w5 hJ hF=>?_)
        have b6:Hd (Bn w5 eb (vs ++ [lo+(j:Int)*st])):=hd (hF 24);have b7:=hd hJ.1;clear hF hJ;have b8:Hd (XB [tb,eb] B wq w5):=hd (aR.o.trans (XB.of b7.o fun x hx=>.inl (by rw[jA.1 hx];simp)));have al:=hd (b8.o.lst aF.o aG (Dh.body HC.o af.o));rw[aK.o] at al;have HQ:=hd (aW.o tb B eb n nb cv _ _ BA bcap aQ (names ++ [h.var]) (vs ++ [lo+(j:Int)*st]) nk (xs ++ [(k:Int)]) (Co gl h g) L AL w5 (bb.o.ext b7.o fun x hx=>by rw[jA.1 hx];exact⟨het,.inl heB⟩) al.o b6.o (by simp;have:=HL.o;have:=HD.o;omega) hnt hne heB het (by simp only[St.body];rw[<-aD.o];exact bE.o));simp only[St.body] at HQ;rw[<-aD.o,jG,jS,HD.o,bF.o] at HQ;clear al;go_wp2_with fail
        refine HQ.o.mono ?_
        rintro e w7 ⟨rfl,be,bf,bh⟩;have bI:=hd be;have bJ:=hd bf;have bK:=hd bh.pop;clear be bf bh HQ b6;have bL:Hd (XB [tb,eb] B wq w7):=hd (b8.o.trans bI.o);go_wp2_with fail
        go_roundw
        case rel=>exact⟨j+1,by go_num,by omega,bL,hd (by rw[bC.o,bD.o,List.map_append,<-bG.o,<-aJ.o];exact bJ.o),bK⟩
        case measure=>simp[intOf];omega
       ·have b5:j=mn:=by omega
        subst b5;go_wp2_with fail
        go_roundw
        case rel=>exact⟨k+1,by go_num,by omega,hd (HE.o.trans aR.o),hd (by rw[a7.o,aP.o];exact bb.o),aS⟩
        case measure=>simp[intOf];omega
     ·
      rw[hvec] at qv;rw[Ju aa.o hvec] at a7 a8;rw[Ag7 aa.o hvec] at a1;have aE:=hd (Ahd tb B eb n nb cv Kk Tk names vs nk (xs ++ [(k:Int)]) gl L AL g pb po CA cc BA bcap aQ PA pc vv h bs wq an.o HC.o af.o aa.o hvec ah.o (by rw[HD.o];exact HL.o) hnt hne heB het (by rw[a2.o];exact a8.o));rw[HD.o,a2.o] at aE;unfold ptV at aE;clear hvec aO;go_wp2_with fail
      refine aE.o.mono ?_
      rintro e w3 ⟨rfl,aw,ax,ay⟩;have ap:=hd aw;have aM:=hd ax;have aq:=hd ay;clear aw ax ay aE;go_wp2_with fail
      go_roundw
      case rel=>exact⟨k+1,by go_num,by omega,hd (HE.o.trans ap.o),hd (by rw[a7.o,a1.o];exact aM.o),aq⟩
      case measure=>simp[intOf];omega
  ·
   have aU:k=m:=by omega
   subst aU;have bM:l.take k=l:=List.take_of_length_le (by rw[HN.o];exact jD _);rw[bM] at an;go_wp2_with fail
   exact bodyPost_end (results_none rfl _ _ _) rfl ⟨rfl,HE.o,an.o,ah.o⟩
theorem Ahe (l:List St):TrC l:=Vs l fun s _=>Dn (P:=fun s=>TrC s.body) (fun h ks ih=>Vs ks ih) s
end
section
theorem Cm (w:World)(B e s:Nat):w.ownsRow B e s (.slice none 0 0) 0 []:=⟨by simp,.inl ⟨rfl,rfl⟩⟩
def Qd (body:List St):List (Nat×List Int):=(Au [] 0 body).map kyI
def tchB (body:List St):List Tch:=Ft [] 0 0 body
def Ac5 (p:Pg)(w:World)(n cb:Nat):Prop:=∃(gs:List Nat) (gA:Option Addr) (gc:Nat) (L:List Nat) (AL:List Value) (sA:Option Addr) (sc:Nat) (av:Value),Hp w n cb p.A p.bs.length p.cap p.body gs gA gc L AL sA sc (.slice p.B p.body.length p.bcap) av
attribute [local irreducible] Bj
set_option maxRecDepth 100000 in
theorem Aes (body:List St)(cb nb n:Nat)(bA:Option Addr)(nbb bc:Nat)(gs:List Nat)(gA:Option Addr)(gc:Nat)(L:List Nat)(AL:List Value)(sA:Option Addr)(sc:Nat)(v1 av:Value)(w:World)
  (hC:Hp w n cb bA nbb bc body gs gA gc L AL sA sc v1 av) (hF:∀s∈body,Fd nb [] s) (hg:gs.length<=1000000) (hn:n<=w.heap.size) (hs:Ky body=true) :
  Calls prog 93 #[.pointer (some cb)] w fun e w'=>∃tb B,e=.returned (.pointer (some ⟨tb,0,none⟩))/\w.heap.size<=tb/\Ext [] w w'/\TrS tb B (.pointer (some cb)) (Qd body) (tchB body) w':=by
 have HC:=hd hC;have HF:=hd hF
 have HS:=hd (show Fit [] [] (Au [] 0 body) by
  unfold Ky at hs;simp only[Bool.and_eq_true,decide_eq_true_eq] at hs;exact⟨by simpa using hs.1,by simpa using hs.2⟩)
 have ae:=hC.cbn;clear hC hF hs;go_enter func93,ntmps93
 go_upto_region 2 with fail
 generalize hW:World.alloc w _=w1;have a1:Hd (Ext [] w w1):=hd (by rw[<-hW];exact(jF [] w).alloc _);have a8:Hd (Blk w1 w.heap.size 95 #[.pointer (some cb),.slice none 0 0,.slice none 0 0]):=hd (by rw[<-hW];exact jK w _ _);have af:w1.heap.size=w.heap.size+1:=by rw[<-hW];exact Ag _ _
 clear hW;generalize aj:w.heap.size=tb at *;have HQ:Hd (∀W,Ext [] w1 W->W.cell? ⟨cb,2,none⟩=some (.slice gA body.length gc)/\cb<W.heap.size):=hd fun W hW=>⟨(HC.o.blk.ext (a1.o.trans hW) (by simp)).cell 2,(HC.o.blk.ext (a1.o.trans hW) (by simp)).lt⟩
 refine rgH 6 [(5,Et w1.heap.size)] ?_ ?_
 ·refine Am.cons Et.stays Am.nil
 simp only[TK]
 repeat(refine dE (fun wr nr hJ=>by(obtain⟨q2,ql⟩:=HQ.o wr hJ.1);clear hJ;exact CL) ?_;simp only[PT])
 refine Gi (Et w1.heap.size) rfl rfl (fun wr nr hJ hf=>?_) ?_
 ·refine⟨wr.heap.size,.cells (Array.replicate 8 (.int .i64 0)) 3,?_,hJ.1.size,Bn.made wr⟩
  have ag:=Ma wr;(go_simp;try go_bits)
  rfl
 intro (eb:Nat);simp only[PT]
 repeat(refine dE (fun wr nr hJ=>by clear hJ;exact CL) ?_;simp only[PT])
 refine Aj (fun w2 hJ hF=>?_)
 have a2:Hd (w1.heap.size<=eb/\Bn w2 eb []):=hd (hF 5);have a6:=hd hJ.1;clear hF hJ;dsimp only[Et];have ah:=a2.o.1;have ai:=a2.o.2.lt;have aa:=hd (show TrS tb (eb+1) (.pointer (some cb)) [] [] w2 from⟨by omega,by omega,_,_,a8.o.ext a6.o (by simp),Cm _ _ _ _,Cm _ _ _ _⟩);have ab:=hd ((⟨HC.o.row.1,fun b o hA=>(HC.o.row.2 b o hA).1,HC.o.len,fun i g s hg hs=>by have:=HC.o.cst i g s hg hs;rw[Nat.zero_add];exact this,HF.o⟩:Dh w n nb L AL [] [] [] 0 gA gs body).step (a1.o.trans a6.o) (by simp));have a7:=hd (Ahe body tb (eb+1) eb n nb (.pointer (some cb)) [] [] gA gc gs [] [] 0 [] [] L AL w2 aa.o ab.o a2.o.2 rfl hn (by omega) (by omega) (by omega) HS.o);simp only[List.length_nil] at a7;go_wp2_with fail
 refine a7.o.mono ?_
 rintro e w3 ⟨rfl,hX,hT,-⟩;have ac:=hd hT
 have ad:Hd (Ext [] w w3):=hd (by
  obtain⟨S,hS,hE⟩:=hX;refine(a1.o.trans a6.o).step hE fun x hx=>.inr ?_
  rcases hS x hx with h|h
  ·rcases jE.1 h with rfl|h
   ·omega
   ·rw[jA.1 h];omega
  ·omega)
 clear hX hT a7;go_wp2_with fail
 go_ret
 exact⟨tb,eb+1,rfl,by omega,ad.o,ac.o⟩
def Jj (p:Pg):Int:=if Cd p.bs p.body≠0 then Cd p.bs p.body else if Ky p.body then 0 else 2
def Xe (p:Pg)(w:World)(e:Ending)(w':World):Prop:=Ext [] w w'/\((Jj p≠0/\e=.returned (.tuple #[.pointer none,(Jj p:Int)]))\/
 (Jj p=0/\Cd p.bs p.body=0/\Ky p.body=true/\∃(n cb tb B:Nat),e=.returned (.tuple #[.pointer (some tb),(0:Int)])/\w.heap.size<=tb/\n<=tb/\Ac5 p w' n cb/\TrS tb B (.pointer (some cb)) (Qd p.body) (tchB p.body) w'))
set_option maxRecDepth 100000 in
theorem Abm (p:Pg)(w:World)(hP:Lz w p):Calls prog 40 #[pgV p] w (Xe p w):=by
 have HC:=hd (fun W (hW:Ext [] w W)=>Iz p W (hP.keep hW));have a1:Hd (Jj p=if Cd p.bs p.body≠0 then Cd p.bs p.body else if Ky p.body then 0 else 2):=hd rfl;have an:Hd (∀W n cb,Ac5 p W n cb ↔ Ac5 p W n cb):=hd fun _ _ _=>Iff.rfl
 generalize af:Jj p=oe at *;unfold Xe;rw[af];clear af hP;obtain⟨A,cap,bs,B,bcap,body⟩:=p;dsimp only[pgV] at *;have a7:=hd ((jF [] w).alloc (.cells #[.slice A bs.length cap,.slice B body.length bcap] 29));go_enter func40,ntmps40
 go_wp2_with fail
 generalize World.alloc w _=w1 at *;refine(HC.o w1 a7.o).mono ?_
 rintro e w2 ⟨hE,h1|⟨h1,n,cb,gs,gA,gc,L,AL,sA,sc,av,h2,h3,h4,h5⟩⟩
 ·obtain⟨h1,h2⟩:=h1;simp only at h1 h2;rw[ijp h1] at a1;have HN:=hd h1;have a6:=hd (a7.o.trans hE);generalize Cd bs body=ce at *;subst h2;have e1:(ce != 0)=true:=by simpa using h1
  clear h1 hE;go_wp2_with fail
  go_ret2
  exact⟨a6.o,.inl ⟨by rw[a1.o];exact HN.o,by rw[a1.o];rfl⟩⟩
 ·simp only at h1 h5;subst h2;rw[ijn (by simpa using h1)] at a1;have ag:=hd h1;have a6:=hd (a7.o.trans hE)
  have a8:=hd (Jg.of (show Du bs body=0 by
   unfold Cd at h1;split at h1
   ·assumption
   ·exact absurd h1 (by assumption)))
  have ah:=hd h5;have ac:gs.length<=1000000:=by have:=h5.row.1.1;omega
  have ai:L.length<=3000:=by have:=h5.lenS.1;have:=a8.o.sto;omega
  have ao:=h5.cbn;have ap:=a6.o.size;have ad:=hd (Aej bs cb n A bs.length cap body gs gA gc L AL sA sc (.slice B body.length bcap) av w2 h5 a8.o.fd ac ai h4);clear h1 hE h5;go_wp2_with fail
  refine ad.o.mono ?_
  rintro e w3 ⟨rfl,hE⟩;have aa:=hd (a6.o.trans hE);have a2:=hd (ah.o.step hE (by simp) (jD n));have aq:=hE.size;clear hE ad;cases hs:Ky body
  ·rw[hs] at a1;simp only[Bool.false_eq_true,if_false] at a1;clear hs;go_wp2_with fail
   go_ret2
   exact⟨aa.o,.inl ⟨by rw[a1.o];decide,by rw[a1.o];rfl⟩⟩
  ·rw[hs] at a1;simp only[if_true] at a1;have aj:=hd hs;have ae:=hd (Aes body cb bs.length n A bs.length cap gs gA gc L AL sA sc (.slice B body.length bcap) av w3 a2.o a8.o.fd ac (by omega) hs);clear hs;go_wp2_with fail
   refine ae.o.mono ?_
   rintro e w4 ⟨tb,BB,rfl,au,hE,hT⟩;have ak:=hd (aa.o.trans hE);have al:=hd hT;have ab:=hd (show Ac5 ⟨A,cap,bs,B,bcap,body⟩ w4 n cb from⟨gs,gA,gc,L,AL,sA,sc,av,a2.o.step hE (by simp) (jD n)⟩);have am:=aa.o.size;clear hE hT ae;go_wp2_with fail
   go_ret2
   exact⟨ak.o,.inr ⟨a1.o,ag.o,aj.o,n,cb,tb,BB,rfl,by omega,by omega,ab.o,al.o⟩⟩
end
section
def It (H:Nat)(A:Option Addr)(vs:List Int)(w:World):Prop:=vs=[]\/∃(b:Nat) (C:Array Value),A=some b/\H<=b/\Blk w b 3 C/\∀(i:Nat) (x:Int),vs[i]? = some x->C[i]? = some (.int .i64 x)
theorem It.ext {H:Nat}{A:Option Addr}{vs:List Int}{w w':World}(h:It H A vs w){S:List Nat}(hE:Ext S w w')(hS:∀b C,H<=b->Blk w b 3 C->b∉S):It H A vs w':=by
 rcases h with h|⟨b,C,h1,h2,h3,h4⟩
 ·exact .inl h
 ·exact .inr ⟨b,C,h1,h2,h3.ext hE (hS b C h2 h3),h4⟩
theorem It.ext0 {H:Nat}{A:Option Addr}{vs:List Int}{w w':World}(h:It H A vs w)(hE:Ext [] w w'):It H A vs w':=h.ext hE (by simp)
theorem It.low {H H':Nat}{A:Option Addr}{vs:List Int}{w:World}(h:It H A vs w)(hH:H'<=H):It H' A vs w:=by
 rcases h with h|⟨b,C,h1,h2,h3,h4⟩
 ·exact .inl h
 ·exact .inr ⟨b,C,h1,by omega,h3,h4⟩
theorem It.own {H:Nat}{A:Option Addr}{vs:List Int}{w w':World}(h:It H A vs w){base e s n:Nat}{v:Value}{l:List Value}(hR:w.ownsRow base e s v n l)(hne:e≠3)(hE:Ext v.ownBlock.toList w w'):It H A vs w':=h.ext hE fun b C _ hb hm=>by
 obtain⟨C',h6⟩:=Dm hR (jC.1 hm);exact hne (h6.type hb)
set_option maxRecDepth 100000 in
theorem Abn (b o n cap:Nat)(vs:List Int)(w:World)(hb:b<w.heap.size)(hc:∀(i:Nat) (x:Int),vs[i]? = some x->w.cell? ⟨b,o+i,none⟩=some (.int .i64 x))(hl:vs.length=n)(h9:n<=1000000) :
  Calls prog 41 #[.slice (some ⟨b,o,none⟩) n cap] w fun e w'=>∃A c,e=.returned (.slice A n c)/\It w.heap.size A vs w'/\Ext [] w w':=by
 by_cases h0:n=0
 ·subst h0;have hv:vs=[]:=List.length_eq_zero_iff.1 hl;obtain⟨i0,a1,a2,a6,a7⟩:=Ht;have a8:∀W:World,(binOp .eql 22 (.slice (some ⟨b,o,none⟩) 0 cap) (.slice none 0 0)).run prog W=.ok (.bool false) W:=fun W=>Go.Lib.run_eql_slice_nil (P:=prog) (w:=W) (h:=underlying22) ..
  have hB:Blk (w.alloc (.cells #[] 3)) w.heap.size 3 #[]:=jK _ _ _
  obtain⟨w2,hr,hE⟩:∃w2,(∀ty,(Builtin.append_ #[22,22] ty #[.slice (some w.heap.size) 0 0,.slice (some ⟨b,o,none⟩) 0 cap]).run prog (w.alloc (.cells #[] 3))=.ok (.slice (some w.heap.size) 0 0) w2)/\Ext [w.heap.size] (w.alloc (.cells #[] 3)) w2:=
   ⟨_,fun ty=>run_append_room (P:=prog) _ 22 ty 3 i0 underlying22 a1 w.heap.size 0 0 _ hB ⟨b,o,none⟩ 0 cap [] (by simp) (by simp) (by simp) (by omega) (by simp),
    ⟨rfl,rfl,rfl,by simp[World.setRow],fun i _ hi=>setRow_other _ _ i _ (by simpa using hi)⟩⟩
  have HE:Hd (Ext [] w w2):=hd (((jF [] w).alloc _).step hE (fun x hx=>.inr (by rw[jA.1 hx];exact jD _)));clear hE hB;go_enter func41,ntmps41
  go_wp2_with (at_builtin;refine Lib.wpList_append_run _ rfl _ _ _ _ rfl _ _ rfl rfl _ _ (hr _) ?_)
  go_ret
  exact⟨_,_,rfl,.inl hv,by first|exact HE.o|exact(jF [] w).alloc _⟩
 ·obtain⟨i0,a1,a2,a6,a7⟩:=Ht;have a8:∀W:World,(binOp .eql 22 (.slice (some ⟨b,o,none⟩) n cap) (.slice none 0 0)).run prog W=.ok (.bool false) W:=fun W=>Go.Lib.run_eql_slice_nil (P:=prog) (w:=W) (h:=underlying22) ..
  have HH:=hd hc;have HL:=hd hl;clear hc;go_enter func41,ntmps41
  go_wp2_with (
   refine wpList_append_lies _ rfl _ _ 22 rfl w.heap.size 3 i0 _ 1 8 underlying22 a1 a2 a6 a7 rfl (by decide) _ 0 [] rfl ?c0 ⟨b,o,none⟩ n cap (vs.map (Value.int .i64)) rfl (by simp;exact HL.o) ?c1 ?c2 (by omega) ?c3 ?c4 ?c5 _ rfl ?_
   case c0=>exact⟨rfl,.inr ⟨w.heap.size,0,#[],rfl,jD _,by show(w.heap.push _)[w.heap.size]? = _;simp,jD _,by decide,by simp,rfl⟩⟩
   case c1=>
    intro i x hx;rw[List.getElem?_map] at hx;cases hy:vs[i]? with
    | none=>rw[hy] at hx;cases hx
    | some y=>
     rw[hy] at hx;cases hx
     rw[Addr.add_mk];exact((jF [] w).alloc _).held (HH.o i y hy) (by simp)
   case c2=>intro u hu;obtain⟨y,-,rfl⟩:=List.mem_map.1 hu;rfl
   case c3=>unfold maxLen;omega
   case c4=>omega
   case c5=>simp
   intro g c8 w8 ho hg ha hlt;have HX:=hd (And.intro ho (And.intro hg ha));clear ho hg ha hlt)
  go_ret
  obtain⟨ho,hg,ha⟩:=HX.o;rw[Nat.zero_add,List.nil_append] at ho;obtain⟨C,hC⟩:=Cl ho rfl;refine⟨_,_,rfl,.inr ⟨g,C,rfl,Ad ho g rfl,hC,fun i x hx=>?_⟩,((jF [] w).alloc _).grown hg (fun k hk=>.inr ?_)⟩
  ·rw[<-hC.cell];exact Dg ho rfl (by rw[List.getElem?_map,hx];rfl)
  ·cases hk;exact jD _
def Pk (B e s n:Nat)(l:List Value)(X:List Value->Nat->World->Prop):Ba:=
 ⟨Nat×Nat,(0,0),fun u=>.slice (some u.1) (n+1) u.2,fun u w=>∃ys,X ys u.1 w/\w.ownsRow B e s (.slice (some u.1) (n+1) u.2) (n+1) (l ++ ys)⟩
section
variable {ops:Array Oper} {p:Nat} {S:Nat->Option Ba} {Q:Act->World->Prop} {k:Nat} {o:Oper} {rest:List Oper} {a:Act} {F:Nat->World->Prop} {w0:World} {T:List Nat} {ka:Nat}
theorem Zl (j b:Nat)(t B sz:Nat)(e:TypeId)(i:TypeInfo)(z:Value)(bytes:Nat)(v:Value)(n c:Nat)(l:List Value)(s x:Operand)(X9:Nat->List Value->World->Prop)(X:List Value->Nat->World->Prop)(V9:Nat->World->Prop)
  (hS:S k=some (Pk B e sz n l X)) (hgd:o.guard=none) (ho:o.op=.call {callee:=.builtin .append,args:=#[s,x],argTypes:=#[t,t] })
  (ht:prog.underlying t=some (.slice e)) (hi:prog.info? e=some i) (hz:i.zero=some z) (hsize:i.size=sz) (hby:i.bytes=bytes) (hzs:z.cells.size=sz) (hsz:0<sz)
  (hs:a.eval s=v) (hx:a.eval x=.slice (some b) 1 c) (hT:T=v.ownBlock.toList) (hk:k=ka)
  (hv:∀w,Ext [] w0 w->w.ownsRow B e sz v n l)
  (hj:o.after.any (fun e=>Region.binds .any e&&e.on==j)=true) (hF:F j=V9 b) (hV9:∀w,V9 b w->∃us,us.length=1*sz/\(∀j u,us[j]? = some u->w.cell? ⟨b,j,none⟩=some u)/\(∀u∈us,u.oneCell'=true)/\X9 b us w)
  (hX:∀y g w w',X9 b y w->Ext T w w'->(v.ownBlock=some g\/g=w.heap.size)->g<w'.heap.size->X y g w')
  (h63:n+1<=maxLen) (hbytes:(n+1)*bytes<=140737488355328) (hbase:B<=w0.heap.size)
  (h:∀u:Nat×Nat,Bb prog ops p (JA w0 T ka) (RA1 T ka) S Q (k+1) rest (a.put o.dst (.slice (some u.1) (n+1) u.2)) (upd F k ((Pk B e sz n l X).V u))) :
  Bb prog ops p (JA w0 T ka) (RA1 T ka) S Q k (o :: rest) a F:=by
 subst hT;subst hk;refine Bv _ hS (by simp[Region.wanted,hgd]) (fun w m hgo hJ hf=>?_) h
 have h9:=Bd hf j hj;rw[hF] at h9;obtain⟨us,a1,hu,a2,a6⟩:=hV9 w h9;obtain⟨g,cap,w',hr,a7,hg,a8,aa⟩:=run_append_lies (P:=prog) w t o.type B e i z sz bytes ht hi hz hsize hby hzs hsz v n l (hv w (hJ.pre hgo.mine)) ⟨b,0,none⟩ 1 c us a1 (fun j u hj=>by rw[Addr.add_mk,Nat.zero_add];exact hu j u hj) a2 (by decide) h63 hbytes (nt hbase hJ.all.size) _ rfl;have hE:Ext v.ownBlock.toList w w':=(jF _ w).grown hg (fun k hk=>.inl (by rw[hk];simp));refine⟨(g,cap),w',?_,⟨us,hX _ _ _ _ a6 hE a8 aa,a7⟩,hJ.app hE,by unfold RA1;rw[ijp rfl];exact hE⟩
 unfold execOp;simp only[ho,resolve,invoke,builtin,Sem.run_bind,Sem.run_pure,Result.andThen_ok,List.map_toArray,List.map_cons,List.map_nil,hs,hx,hr];rfl
end
section
variable {P:Program} {ops:Array Oper} {p:Nat} {S:Nat->Option Ba} {Q:Act->World->Prop} {k:Nat} {o:Oper} {rest:List Oper} {a:Act} {F:Nat->World->Prop} {w0:World} {T:List Nat} {ka:Nat}
theorem Ahf (s:Ba)(x:s.α)(hS:S k=some s)(hw:Region.wanted o (yielded ops a.tmps)=true)(hk:k≠ka)
  (hr:∀w,(execOp a.eval o).run P w=.ok (.value (s.f x)) w)
  (hV:∀w r,Fp ops k r->JA w0 T ka r w->(∀e∈o.after,Region.binds .any e=true->F e.on w)->s.V x w)
  (h:∀x:s.α,Bb P ops p (JA w0 T ka) (RA1 T ka) S Q (k+1) rest (a.put o.dst (s.f x)) (upd F k (s.V x))):Bb P ops p (JA w0 T ka) (RA1 T ka) S Q k (o :: rest) a F:=
 Bv s hS hw (fun w n hg hJ hf=>⟨x,w,hr w,hV w n hg hJ hf,hJ.offs hk,by unfold RA1;rw[ijn hk];exact jF _ _⟩) h
end
theorem Abo {a b c d:Nat}{x y z q:Ba}{R:Nat->World->World->Prop}(hx:∀j,j≠a->∀u w w',R j w w'->x.V u w->x.V u w')(hy:∀j,j≠b->∀u w w',R j w w'->y.V u w->y.V u w')(hz:∀j,j≠c->∀u w w',R j w w'->z.V u w->z.V u w')(hq:∀j,j≠d->∀u w w',R j w w'->q.V u w->q.V u w') :
  ∀i s j,Bi [(a,x),(b,y),(c,z),(d,q)] i=some s->j≠i->∀u w w',R j w w'->s.V u w->s.V u w':=fun i s j h hj=>by
 have hm:=Fx h;simp only[jE,Prod.mk.injEq,jH,or_false] at hm;rcases hm with⟨rfl,rfl⟩|⟨rfl,rfl⟩|⟨rfl,rfl⟩|⟨rfl,rfl⟩
 ·exact hx j hj
 ·exact hy j hj
 ·exact hz j hj
 ·exact hq j hj
structure InO where
 no:Nat
 vs:List Int
 A:Option Addr
 c:Nat
def ioC (x:InO):List Value:=[.int .i64 x.no,.slice x.A x.vs.length x.c]
def InO.key (x:InO):Nat×List Int:=(x.no,x.vs)
theorem Ahg:∃i,prog.info? 101=some i/\i.zero=some (.agg #[(0:Int),.slice none 0 0])/\i.size=2/\i.bytes=32:=info_parts (show((prog).info? 101).map (fun i=>(i.zero,i.size,i.bytes))=some (some (.agg #[(0:Int),.slice none 0 0]),2,32) by kernel_rfl)
theorem Ahh (w:World)(x y:Value)(hx:x.cells=#[x])(hy:y.cells=#[y]):(Instr.buildSlice 51 1 #[(0,.agg #[x,y])]).run prog w=.ok (.slice (some w.heap.size) 1 1) (w.alloc (.cells #[x,y] 101)):=by
 obtain⟨i0,a2,a6,a1,a7⟩:=Ahg;refine run_buildSlice w _ _ 1 _ _ i0 _ underlying51 a2 a6 (by rw[a1];decide) (by rw[a1];decide) ?_
 rw[a1];have hz:((Array.range (1*2)).map (fun x=>(Value.agg #[(0:Int),.slice none 0 0]).cells[x % (Value.agg #[(0:Int),.slice none 0 0]).cells.size]!))=#[.int .i64 0,.slice none 0 0]:=by kernel_rfl
 rw[hz];simp[Instr.fill,Value.cells]
def Ac6 (H:Nat)(O:List InO)(w:World):Prop:=∀x∈O,It H x.A x.vs w
def Ak9 (H:Nat)(v:Value)(O:List InO)(w:World):Prop:=O.length<=2000/\(∃B,H<=B/\w.ownsRow B 101 2 v O.length (O.flatMap ioC))/\Ac6 H O w
def Ahi (p:Pg)(w:World)(e:Ending)(w':World):Prop:=Ext [] w w'/\((Jj p≠0/\e=.returned (.tuple #[.slice none 0 0,(Jj p:Int)]))\/
 (Jj p=0/\∃(O:List InO) (v:Value),e=.returned (.tuple #[v,(0:Int)])/\O.map InO.key=Qd p.body/\Ak9 w.heap.size v O w'))
def Ako (H n:Nat)(vs:List Int):Ba:=⟨Option Addr×Nat,(none,0),fun u=>.slice u.1 n u.2,fun u w=>It H u.1 vs w⟩
def sBu (H no n:Nat)(vs:List Int):Ba:=⟨Option Addr×Nat,(none,0),fun u=>.agg #[no,.slice u.1 n u.2],fun u w=>It H u.1 vs w⟩
def sIo (H no n:Nat)(vs:List Int):Ba:=⟨Nat,0,fun b=>.slice (some ⟨b,0,none⟩) 1 1,fun b w=>H<=b/\∃A c,It H A vs w/\∀j u,([.int .i64 no,.slice A n c]:List Value)[j]? = some u->w.cell? ⟨b,j,none⟩=some u⟩
def ioX (H no n:Nat)(vs:List Int)(L:Nat->Prop)(ys:List Value)(g:Nat)(w:World):Prop:=L g/\∃A c,It H A vs w/\ys=[.int .i64 no,.slice A n c]
theorem Ai6 (O:List InO):(O.flatMap ioC).length=O.length*2:=by
 induction O with
 | nil=>rfl
 | cons t T ih=>rw[List.flatMap_cons,jG,ih,List.length_cons,Nat.add_mul];simp[ioC];omega
theorem Ai7 {vs:List Int}{i:Nat}{x:Int}(h:vs[i]? = some x):vAt vs i=x:=by unfold vAt;rw[h];rfl
end
section
theorem Pl {l:List St}{m:Nat}(ih:∀s∈l,∀(env:Env) (no:Nat),env.length=m->∀i∈Cv env no s,i.env.length<=8):∀(env:Env) (no:Nat),env.length=m->∀i∈Au env no l,i.env.length<=8:=by
 induction l with
 | nil=>intro env no _ i hi;simp[Au] at hi
 | cons s l ihl=>
  intro env no he i hi;simp only[Au,jN] at hi;rcases hi with hi|hi
  ·exact ih s (jO ..) env no he i hi
  ·exact ihl (fun s hs=>ih s (jI _ hs)) env _ he i hi
theorem vec8 {env:Env}{h:SH}:∀(b:List St) (no:Nat),∀i∈Ct env h no b,i.env.length=env.length+1
 | [],no,i,hi=>by simp[Ct] at hi
 | s :: b,no,i,hi=>by
  simp only[Ct,jN,List.mem_map] at hi;rcases hi with⟨k,-,rfl⟩|hi
  ·simp[Bh]
  ·exact vec8 b (no+1) i hi
theorem env8 {nb:Nat}:∀(s:St) (names:List ByteArray),Fd nb names s->names.length<=8->∀(env:Env) (no:Nat),env.length=names.length->∀i∈Cv env no s,i.env.length<=8:=by
 refine Dn fun h b ih=>?_
 intro names hF h8 env no he i hi;cases hF with
 | store _ _ h1=>
  rw[Hk h1] at hi;rw[jA.1 hi];simp only;omega
 | when _ _ _ h1 _ _ _ h9=>
  rw[Ij h1] at hi;split at hi
  ·exact Pl (fun s hs env no he=>ih s hs names (h9 s hs) h8 env no he) env no he i hi
  ·simp at hi
 | loop _ _ _ h1 _ _ h0 _ _ _ _ h9=>
  cases hv:h.vec
  ·rw[Jv h1 hv] at hi;unfold Ef at hi;rw[List.mem_flatten] at hi;obtain⟨l',a1,a2⟩:=hi;obtain⟨k,-,rfl⟩:=List.mem_map.1 a1;exact Pl (m:=names.length+1) (fun s hs env no he=>ih s hs (names ++ [h.var]) (h9 s hs) (by simp;omega) env no (by simpa using he)) _ no (by simp[Bh,he]) i a2
  ·rw[Ju h1 hv] at hi;have:=vec8 b no i hi;omega
theorem Ala {nb:Nat}{body:List St}(hF:∀s∈body,Fd nb [] s):∀k∈Qd body,k.2.length<=8:=fun k hk=>by
 obtain⟨i,hi,rfl⟩:=List.mem_map.1 hk;have:=Pl (m:=0) (fun s hs env no he=>env8 s [] (hF s hs) (by simp) env no (by simpa using he)) [] 0 rfl i hi;simpa[kyI] using this
attribute [local irreducible] Bj
theorem Ai8 (W:World):(zeroValue 98).run prog W=.ok (.agg (Hw 0 0)) W:=by kernel_rfl
set_option maxRecDepth 100000 in
theorem Uf (p:Pg)(w:World)(hP:Lz w p):Calls prog 16 #[pgV p] w (Ahi p w):=by
 have HC:=hd (fun W (hW:Ext [] w W)=>Abm p W (hP.keep hW));unfold Ahi;unfold Xe at HC;generalize Jj p=oe at *;obtain⟨A,cap,bs,B,bcap,body⟩:=p;dsimp only[pgV] at *;clear hP;have aa:=hd ((jF [] w).alloc (.cells #[.slice A bs.length cap,.slice B body.length bcap] 29));go_enter func16,ntmps16
 go_wp2_with fail
 generalize World.alloc w _=w1 at *;refine(HC.o w1 aa.o).mono ?_
 rintro e w2 ⟨hE,⟨h1,h2⟩|⟨h1,h2,h3,n,cb,tb,BB,h4,h5,h6,h7,hT⟩⟩
 ·have HN:=hd h1;have a2:=hd (aa.o.trans hE);subst h2;have e1:(oe != 0)=true:=by simpa using h1
  clear h1 hE;go_wp2_with fail
  go_ret2
  exact⟨a2.o,.inl ⟨HN.o,rfl⟩⟩
 ·subst h1;subst h4;have a2:=hd (aa.o.trans hE)
  have aY:(Qd body).length<=2000:=by
   unfold Ky at h3;simp only[Bool.and_eq_true,decide_eq_true_eq] at h3;unfold Qd;rw[List.length_map];exact h3.1
  obtain⟨vL,vT,hB,hL,-⟩:=hT.2.2
  have aG:=hd (Ala (Jg.of (show Du bs body=0 by
   unfold Cd at h2;split at h2
   ·assumption
   ·exact absurd h2 (by assumption))).fd)
  generalize aC:Qd body=K at *;have aH:=hd aC;clear aC;obtain⟨LA,lc,rfl,ay,-⟩:=Yc kyL (fun x=>by simp[kyL,Ek]) hL rfl (by omega);have ab:=hd ay;have qb:=hB.cell;have ai:=hB.lt;have aZ:=a2.o.size;clear hE h2 h3 h5 h6 h7 hT hB hL ay HC;generalize aD:K.length=m at *;have aj:=hd aD;clear aD;go_wp2_with fail
  clear qb ai;have aI:=hd (jF [] w2);generalize aX:w2.heap.size=H2 at *;go_loopw [6,22] (fun v i wr=>∃(k:Nat) (O:List InO),i=.int .i64 k/\k<=m/\O.length=k/\Hd (Ext [] w2 wr)/\Hd (O.map InO.key=K.take k)/\Hd (wr.ownsRow H2 101 2 v k (O.flatMap ioC))/\Hd (Ac6 w.heap.size O wr)) (fun _ i _=>(m-intOf i).toNat)
  case atStart=>exact⟨0,[],rfl,jQ _,rfl,aI,hd (by simp),hd (Cm _ _ _ _),hd (fun x hx=>by simp at hx)⟩
  case round=>
   obtain⟨k,O,rfl,hk,hO,HE,HM,HR,az⟩:=hrel;rename World=>wq
   by_cases aW:k<m
   ·have ak:(k:Int)<(m:Int):=by omega
    obtain⟨bb,⟨no,vs⟩,rfl,hx,hc⟩:=(ab.o.keep HE.o).at (i:=k) (by have:=aj.o;omega);have aJ:=aG.o _ (ilm hx);simp only at aJ;have aK:=hd hx;have HW:=hd (fun j v hv=>hc j v hv:∀(j:Nat) (v:Value),(Ek no vs).toList[j]? = some v->wq.cell? ⟨bb,k*10+j,none⟩=some v)
    have b0:bb<wq.heap.size:=by
     have:=jB wq _ (HW.o 0 (.int .i64 no) rfl);simpa using this
    have ac:=hd (show(prog.info? 98).map (·.size)=some (Ek no vs).size from Ac2);have al:=hd (show(Hw 0 0).size=(Ek no vs).size from rfl);have am:=hd (Zc no vs);have a6:=hd (jK wq 98 (Ek no vs));have a1:=hd ((jF [] wq).alloc (.cells (Ek no vs) 98));have b1:(Ek no vs)[0]? = some (.int .i64 no):=rfl;have b2:(Ek no vs)[1]? = some (.int .i64 vs.length):=rfl
    have an:Hd (∀(i:Nat) (x:Int),vs[i]? = some x->(Ek no vs)[2+i]? = some (.int .i64 x)):=hd fun i x hx=>by
     have hi:=(ils hx).1;have h9:=Ai7 hx;have:i=0\/i=1\/i=2\/i=3\/i=4\/i=5\/i=6\/i=7:=by omega
     rcases this with rfl|rfl|rfl|rfl|rfl|rfl|rfl|rfl<;>(rw[<-h9];rfl)
    generalize Ek no vs=arr at *;clear hx hc;generalize aE:vs.length=d at *;have ao:=hd aE;clear aE
    go_upto_region 8 with(first
     | refine Ac rfl 98 _ rfl bb (k*10) rfl arr HW.o _ underlying98 rfl ac.o ?_
     | refine Ax rfl rfl 98 _ _ rfl rfl (Hw 0 0) (Ai8 _) arr rfl rfl ac.o al.o am.o ?_)
    have ap:=hd (HE.o.trans a1.o);have aq:=hd (Ah HR.o a1.o (by simp));have ad:Hd (Ac6 w.heap.size O (World.alloc wq (.cells arr 98))):=hd fun x hx=>(az.o x hx).ext0 a1.o
    have b3:wq.heap.size<=(World.alloc wq (.cells arr 98)).heap.size:=a1.o.size;generalize World.alloc wq _=w3 at *;generalize ba:wq.heap.size=kb at *;have b4:w.heap.size<=kb:=by have:=HE.o.size;omega
    obtain⟨i0,aS,aT,aU,aV⟩:=Ahg
    have a7:Hd (∀q,u6.ownBlock=some q->H2<=q/\q<kb):=hd fun q hq=>by
     obtain⟨C,h6⟩:=Dm HR.o hq;have:=h6.lt;exact⟨Ad HR.o q hq,by omega⟩
    have au:Hd (kb∉u6.ownBlock.toList):=hd fun hm=>by have:=(a7.o kb (jC.1 hm)).2;omega
    have aL:kb<w3.heap.size:=a6.o.lt;have aM:H2<=w3.heap.size:=by have:=ap.o.size;omega
    have aw:=hd (fun W (hW:Ext [] w3 W)=>Abn kb 2 d 8 vs W (by have:=hW.size;omega) (fun i x hx=>by rw[(a6.o.ext hW (by simp)).cell];exact an.o i x hx) ao.o (by omega));have b5:=hd (Ai6 O);generalize aF:O.flatMap ioC=ts at *;have aN:=hd aF;clear aF HW ac al am an;have b6:(0:Int)<=d:=by omega
    have b7:(d:Int)<=8:=by omega
    refine rgA 11 10 u6.ownBlock.toList [(7,Ako w3.heap.size d vs),(8,sBu w3.heap.size no d vs),(9,sIo w3.heap.size no d vs),(10,Pk H2 101 2 k ts (ioX w3.heap.size no d vs fun g8=>u6.ownBlock=some g8\/w3.heap.size<=g8))] rfl (by simp[Bi]) (fun oi h=>by cases h;rfl) ?_ ?_
    ·have a8:∀b,w3.heap.size<=b->b∉u6.ownBlock.toList:=fun b hb hm=>by have:=(a7.o b (jC.1 hm)).2;omega
     refine Abo (fun j hj u w w' hR h=>?_) (fun j hj u w w' hR h=>?_) (fun j hj u w w' hR h=>?_) fun j hj u w w' hR h=>?_
     ·exact It.ext h hR.all fun b _ h1 _=>a8 b h1
     ·exact It.ext h hR.all fun b _ h1 _=>a8 b h1
     ·obtain⟨h0,A,c,h1,h2⟩:=h;exact⟨h0,A,c,h1.ext hR.all fun b _ h1 _=>a8 b h1,fun j u hj=>hR.all.held (h2 j u hj) (a8 _ h0)⟩
     ·obtain⟨ys,⟨h0,A,c,h1,h3⟩,h2⟩:=h;exact⟨ys,⟨h0,A,c,h1.ext0 (hR.pre hj),h3⟩,Ah h2 (hR.pre hj) (by simp)⟩
    simp only[TK]
    repeat(refine dEU (fun wr nr hg hJ=>by(have hA:=hJ.all;have qb:=(a6.o.ext hA au.o).cell;have ai:=(a6.o.ext hA au.o).lt;clear hA hg);clear hJ;exact CL) ?_;simp only[PT])
    refine Oh (Ako w3.heap.size d vs) rfl rfl (by decide) ?_ ?_
    ·refine EC fun wr r hg hJ hf=>?_
     have hW:=hJ.pre (hg.later 10 (by kernel_rfl));refine(aw.o wr hW).mono ?_
     rintro e w' ⟨A,c,rfl,hN,hE⟩;exact⟨(A,c),rfl,hN.low hW.size,hE⟩
    rintro⟨A7,c7⟩;simp only[PT];refine Ahf (sBu w3.heap.size no d vs) (A7,c7) rfl rfl (by decide) (fun wr=>?_) (fun wr r hg hJ hf=>(Bd hf 7 (by kernel_rfl):(Ako w3.heap.size d vs).V (A7,c7) wr)) ?_
    ·(go_simp;try go_bits)
     first|rfl|exact⟨rfl,rfl⟩
    rintro⟨A8,c8⟩;simp only[PT];refine Rx (sIo w3.heap.size no d vs) rfl rfl (by decide) (fun wr r hg hJ hf=>?_) ?_
    ·have hq:(sBu w3.heap.size no d vs).V (A8,c8) wr:=Bd hf 8 (by kernel_rfl);refine⟨wr.heap.size,.cells #[no,.slice A8 d c8] 101,?_,hJ.all.size,A8,c8,It.ext0 hq ((jF [] wr).alloc _),fun j u hj=>by rw[(jK wr 101 #[no,.slice A8 d c8]).cell j];simpa using hj⟩
     refine As rfl _ _ _ _ (.agg #[no,.slice A8 d c8]) ?_ ?_
     ·rfl
     ·exact Ahh wr _ _ rfl rfl
    intro (b8:Nat);simp only[PT];refine Zl 9 b8 51 H2 2 101 i0 _ 32 u6 k 1 ts _ _ (fun b ys w=>w3.heap.size<=w.heap.size/\∃A c,It w3.heap.size A vs w/\ys=[.int .i64 no,.slice A d c]) (ioX w3.heap.size no d vs fun g8=>u6.ownBlock=some g8\/w3.heap.size<=g8) (sIo w3.heap.size no d vs).V rfl rfl rfl (by kernel_rfl) aS aT aU aV rfl (by decide) rfl rfl rfl rfl ?_ (by kernel_rfl) rfl ?_ ?_ ?_ ?_ ?_ ?_
    ·exact fun wr hE=>Ah aq.o hE (by simp)
    ·exact fun w ⟨h0,A,c,h1,h2⟩=>⟨_,rfl,h2,fun u hu=>by simp only[jE,jH,or_false] at hu;rcases hu with rfl|rfl<;>rfl,nt h0 (Nat.le_of_lt (jB w _ (h2 0 _ rfl))),A,c,h1,rfl⟩
    ·rintro y g8 w8 w9 ⟨h0,A,c,h1,rfl⟩ hE hg aW;exact⟨hg.imp id (fun h=>by omega),A,c,h1.ext hE fun b _ hb _ hm=>by have:=(a7.o b (jC.1 hm)).2;omega,rfl⟩
    ·unfold maxLen;omega
    ·omega
    ·omega
    intro u9;simp only[PT];refine Ci (fun w8 r hr hJ hF=>?_)
    have aO:(Pk H2 101 2 k ts (ioX w3.heap.size no d vs fun g8=>u6.ownBlock=some g8\/w3.heap.size<=g8)).V u9 w8:=hF 10;obtain⟨g8,c9⟩:=u9;obtain⟨ys,⟨ag,A9,ah,aA,rfl⟩,aB⟩:=aO;have ax:=hd hJ.all;have aP:Hd (w8.ownsRow H2 101 2 (.slice (some g8) (k+1) c9) (k+1) (ts ++ [.int .i64 no,.slice A9 d ah])):=hd aB;have aQ:=hd aA;have ae:Hd (Ext [] w2 w8):=hd (ap.o.step ax.o fun x hx=>.inr (by rw[aX];exact(a7.o x (jC.1 hx)).1))
    have af:Hd (Ac6 w.heap.size (O ++ [⟨no,vs,A9,ah⟩]) w8):=hd fun x hx=>by
     rcases jN.1 hx with hx|hx
     ·exact(ad.o x hx).own aq.o (by decide) ax.o
     ·rw[jA.1 hx];exact aQ.o.low (by omega)
    dsimp only[Pk];clear hF hJ hr aB ag aw aA;go_wp2_with fail
    go_roundw
    case rel=>
     refine⟨k+1,O ++ [⟨no,vs,A9,ah⟩],by go_num,by omega,by simp[hO],ae,hd ?_,hd ?_,af⟩
     ·rw[List.map_append,HM.o,List.take_add_one,aK.o];rfl
     ·rw[List.flatMap_append,aN.o];simpa[ioC,ao.o] using aP.o
    case measure=>simp[intOf];omega
   ·have ak:k=m:=by omega
    subst ak;have aR:Hd (K.take k=K):=hd (List.take_of_length_le (by have:=aj.o;omega));have HO:=hd hO;clear hO;go_wp2_with fail
    go_ret2
    exact⟨a2.o.trans HE.o,O,u6,rfl,by rw[HM.o,aR.o,aH.o],by have:=HO.o;omega,⟨H2,by omega,by rw[HO.o];exact HR.o⟩,az.o⟩
end
section
structure Abp (w:World)(mb wb sb cw cs:Nat)(R:List (Nat×Nat×Nat)):Prop where
 blk:Blk w mb 176 #[.slice (some wb) R.length cw,.slice (some sb) R.length cs]
 row:∀(i:Nat) (x:Nat×Nat×Nat),R[i]? = some x->w.cell? ⟨wb,i,none⟩=some (.slice (some x.1) x.2.2 x.2.2)/\w.cell? ⟨sb,i,none⟩=some (.slice (some x.2.1) x.2.2 x.2.2)
 len:R.length<=1000/\∀x∈R,x.2.2<=1000000
theorem Abp.ext {w w':World}{mb wb sb cw cs:Nat}{R:List (Nat×Nat×Nat)}(h:Abp w mb wb sb cw cs R){S:List Nat}(hE:Ext S w w')(hS:mb∉S/\wb∉S/\sb∉S):Abp w' mb wb sb cw cs R:=
 ⟨h.blk.ext hE hS.1,fun i x hx=>⟨hE.held (h.row i x hx).1 hS.2.1,hE.held (h.row i x hx).2 hS.2.2⟩,h.len⟩
set_option maxRecDepth 100000 in
theorem Aet (mb wb sb cw cs:Nat)(R:List (Nat×Nat×Nat))(i j:Nat)(b c n:Nat)(v:Int)(w:World)(hM:Abp w mb wb sb cw cs R)(hx:R[i]? = some (b,c,n))(hj:j<n)
  (hs:w.cell? ⟨c,j,none⟩=some (.bool true)) (hv:w.cell? ⟨b,j,none⟩=some (.int .i64 v)) :
  Calls prog 182 #[.pointer (some mb),i,j] w fun e w'=>e=.returned (.int .i64 v)/\Ext [] w w':=by
 have hi:=(ils hx).1;obtain⟨h1,h2⟩:=hM.row i _ hx;simp only at h1 h2;have qb:=hM.blk.cell;have a1:=hM.blk.lt;have l1:=jB w _ h1;have l2:=jB w _ h2;have l3:=jB w _ hs;have l4:=jB w _ hv;have hl:=hM.len.1;have hn:=hM.len.2 _ (ilm hx);simp only at l1 l2 l3 l4 hn;have a2:(i:Int)<(R.length:Int):=by omega
 have a6:(j:Int)<(n:Int):=by omega
 clear hM hx;generalize R.length=m at *;go_enter func182,ntmps182
 go_wp2_with fail
 go_ret
 exact⟨rfl,jF _ _⟩
attribute [local irreducible] Bj
set_option maxRecDepth 100000 in
theorem Aeu (mb wb sb cw cs:Nat)(R:List (Nat×Nat×Nat))(i j b c n:Nat)(v:Int)(h:EH)(g nn nb eb:Nat)(names:List ByteArray)(vs:List Int)(w:World)(hM:Abp w mb wb sb cw cs R)(hx:R[i]? = some (b,c,n))(hj:j<n)
  (hs:w.cell? ⟨c,j,none⟩=some (.bool true)) (hv:w.cell? ⟨b,j,none⟩=some (.int .i64 v)) (hk:h.k=3) (hb:h.buf=i) (hC:CEx w nn [] names g (.mk h [])) (hX:Bs names nb (.mk h [])=0) (hV:Bn w eb vs) (hl:vs.length=names.length) (hA:evA (names.zip vs) h.at_=j) :
  Calls prog 143 #[.pointer (some mb),ptV g,.slice (some eb) vs.length 8] w fun e w'=>e=.returned (.int .i64 v)/\Ext [] w w':=by
 have HO:=hd (Tv.of hX)
 obtain⟨pb,po,A,cap,gs,hg,a6⟩:∃(pb po:Nat) (A:Option Addr) (cap:Nat) (gs:List Nat),Blk w g 271 (Jy pb po h.at_.base (Bq names h.at_.ts) (.slice A 0 cap))/\(∀(j:Nat) (v:Value),(exH h 0)[j]? = some v->w.cell? ⟨pb,po+j,none⟩=some v):=by
  cases hC with
  | mk _ _ _ pb po A cap gs hg hg2 hp hp2 hk hk2 hl hs=>exact⟨pb,po,A,cap,gs,hg,hp⟩
 have HG:=hd hg
 have a8:Hd (∀(j:Nat) (v:Value),(Bl h.at_.base (Bq names h.at_.ts)).toList[j]? = some v->w.cell? ⟨g,1+j,none⟩=some v):=hd fun j v hv=>by
  rw[HG.o.cell];have h9:=(ils hv).1;have:j=0\/j=1\/j=2\/j=3\/j=4\/j=5\/j=6\/j=7\/j=8:=by simp[Bl] at h9;omega
  rcases this with rfl|rfl|rfl|rfl|rfl|rfl|rfl|rfl|rfl<;>exact hv
 have a1:=hd (fun W (hW:Ext [] w W)=>Ku g 1 names h.at_ eb vs W (fun j v hv=>hW.held (a8.o j v hv) (by simp)) (hV.keep hW (by simp)) HO.o.aff hl);rw[hA] at a1;have aa:=hd (fun W (hW:Ext [] w W)=>Aet mb wb sb cw cs R i j b c n v W (hM.ext hW (by simp)) hx hj (hW.held hs (by simp)) (hW.held hv (by simp)));have a7:w.cell? ⟨g,0,none⟩=some (.pointer (some ⟨pb,po,none⟩)):=hg.cell 0;have ab:=hg.lt;have qk:w.cell? ⟨pb,po,none⟩=some (.int .i64 h.k):=a6 0 _ rfl;have qf:w.cell? ⟨pb,po+6,none⟩=some (.int .i64 h.buf):=a6 6 _ rfl;rw[hk] at qk;rw[hb] at qf;have a2:=jB w _ qk;simp only at a2;have HQ:Hd (∀W,Ext [] w W->W.cell? ⟨g,0,none⟩=some (.pointer (some ⟨pb,po,none⟩))/\g<W.heap.size/\W.cell? ⟨pb,po+6,none⟩=some (.int .i64 i)/\pb<W.heap.size):=hd fun W hW=>⟨hW.held a7 (by simp),by have:=hW.size;omega,hW.held qf (by simp),by have:=hW.size;omega⟩
 clear hM hx hs hv hC hX hV hl hA hg a6 hk hb;generalize vs.length=d at *;unfold ptV;go_enter func143,ntmps143
 go_upto_region 7 with fail
 clear a7 ab qk qf a2;refine rgE 14 [(12,Cx (.int .i64 j)),(13,Cx (.int .i64 v))] ?_
 simp only[TK]
 repeat(refine dE (fun wr nr hJ=>by(obtain⟨q0,ql,q6,a2⟩:=HQ.o wr hJ);clear hJ;exact CL) ?_;simp only[PT])
 refine Gh rfl rfl ?_ ?_
 ·refine EC fun wr nr hJ=>?_
  exact(a1.o wr hJ).mono (by rintro e w' ⟨rfl,hE⟩;exact⟨rfl,hE⟩)
 simp only[PT];refine Gh rfl rfl ?_ ?_
 ·refine EC fun wr nr hJ=>?_
  exact(aa.o wr hJ).mono (by rintro e w' ⟨rfl,hE⟩;exact⟨rfl,hE⟩)
 simp only[PT];refine Aj (fun w2 hJ hF=>?_)
 have HE:=hd hJ;clear hF hJ;go_wp2_with fail
 go_ret
 exact⟨rfl,HE.o⟩
set_option maxRecDepth 100000 in
theorem Abq (mb wb sb cw cs:Nat)(R:List (Nat×Nat×Nat))(i j b c m:Nat)(v:Int)(h:SH)(g n nb no eb:Nat)(names:List ByteArray)(vs:List Int)(C D:Array Value)(w:World)(hM:Abp w mb wb sb cw cs R)(hx:R[i]? = some (b,c,m))(hj:j<m)
  (hB:Blk w b 3 C) (hD:Blk w c 4 D) (hC9:m<=C.size) (hD9:m<=D.size) (hb:h.buf=i) (hS:Sy w n g names nb h no) (hV:Bn w eb vs) (hl:vs.length=names.length) (hA:evA (names.zip vs) h.at_=j) :
  Calls prog 142 #[.pointer (some mb),ptV g,.slice (some eb) vs.length 8,v] w fun e w'=>e=.returned (.tuple #[])/\Ext [b,c] w w'/\Blk w' b 3 (C.setIfInBounds j (.int .i64 v))/\Blk w' c 4 (D.setIfInBounds j (.bool true)):=by
 have hi:=(ils hx).1;have aa:b≠c:=hB.apart hD (by decide);obtain⟨pb,po,vb,h1,h2,h3,h4,h5⟩:=hS.src;have a1:=hd (Ku g 7 names h.at_ eb vs w hS.line hV (Ld.of hS.aff) hl);rw[hA] at a1;have al:=hM.len.1;have ac:=hM.len.2 _ (ilm hx);simp only at ac;have HM:=hd hM;have HX:=hd hx;have HB:=hd hB;have ad:=hd hD;have q1:=h2;have q2:=h3;rw[hb] at q2;have HQ:=hd (And.intro q1 q2);have ab:=jB w _ q1;simp only at ab;obtain⟨x0,aj⟩:∃x,C[j]? = some x:=⟨_,Array.getElem?_eq_getElem (by omega)⟩;obtain⟨y0,ak⟩:∃x,D[j]? = some x:=⟨_,Array.getElem?_eq_getElem (by omega)⟩;clear hM hx hB hD hC9 hD9 hS hV hl hA h2 h3 h4 h5 q1 q2 hb;generalize au:vs.length=d at *;unfold ptV;go_enter func142,ntmps142
 go_wp2_with fail
 refine a1.o.mono ?_
 rintro e w1 ⟨rfl,hE⟩;have ae:=hd hE;have a7:=hd (HM.o.ext hE (by simp));have a2:=hd (HB.o.ext hE (by simp));have a6:=hd (ad.o.ext hE (by simp));have q0:=hE.held HQ.o.1 (by simp);have q8:=hE.held HQ.o.2 (by simp);have af:=jB w1 _ q8;simp only at af;have a8:=jB w1 _ q0;simp only at a8;obtain⟨r1,r2⟩:=a7.o.row i _ HX.o;simp only at r1 r2;have l1:=jB w1 _ r1;have l2:=jB w1 _ r2;simp only at l1 l2;have qb:=a7.o.blk.cell;have am:=a7.o.blk.lt;have an:(i:Int)<(R.length:Int):=by omega
 have ao:(j:Int)<(m:Int):=by omega
 have c1:w1.cell? ⟨b,j,none⟩=some x0:=by rw[a2.o.cell];exact aj
 have c2:w1.cell? ⟨c,j,none⟩=some y0:=by rw[a6.o.cell];exact ak
 have f1:=a2.o.frozen;have f2:=a6.o.frozen;have ap:=a2.o.lt;have aq:=a6.o.lt;clear hE a1 ab;generalize R.length=nr at *;go_upto_region 1 with fail
 go_region
 have ag:=hd ((a2.o.set_ j v).far (p:=⟨c,j,none⟩) aa (.bool true));have ah:=hd ((a6.o.far (p:=⟨b,j,none⟩) (Ne.symm aa) (.int .i64 v)).set_ j (.bool true));have ai:=hd (((ae.o.nil:Ext [b,c] w w1).setAt (b:=b) (i:=j) (u:=.int .i64 v) (.inl (by simp))).setAt (b:=c) (i:=j) (u:=.bool true) (.inl (by simp)));go_wp2_with fail
 exact bodyPost_end (results_none rfl _ _ _) rfl ⟨rfl,ai.o.drew,ag.o.drew,ah.o.drew⟩
end
section
def nmI:ByteArray:=⟨#[105]⟩
def wdK (k:Nat):Array Value:=#[.int .i64 (if 0<k then 4 else 0),.int .i64 (if 1<k then 5 else 0)]
def sbK (k:Nat):Array Value:=#[.bool (decide (0<k)),.bool (decide (1<k))]
theorem Ai9 {k:Nat}(h:k<2):(wdK k).setIfInBounds k (.int .i64 ((k:Int)+4))=wdK (k+1):=by
 have:k=0\/k=1:=by omega
 rcases this with rfl|rfl<;>rfl
theorem Aja {k:Nat}(h:k<2):(sbK k).setIfInBounds k (.bool true)=sbK (k+1):=by
 have:k=0\/k=1:=by omega
 rcases this with rfl|rfl<;>rfl
structure Ac7 (h:SH):Prop where
 k:h.k=3
 buf:h.buf=1
 at_:∀x:Int,evA [(nmI,x)] h.at_=x
 val:∃e:EH,h.val=.mk e []/\e.k=3/\e.buf=0/\∀x:Int,evA [(nmI,x)] e.at_=x
structure Ahj (h:SH):Prop where
 k:h.k=1
 vec:h.vec=false
 var:h.var=nmI
 lo:h.lo=0
 step:h.step=1
 many:Ar h=2
structure Kh (w:World)(mb wb sb cw cs b0 c0 b1 c1:Nat)(k:Nat):Prop where
 mem:Abp w mb wb sb cw cs [(b0,c0,2),(b1,c1,2)]
 w0:Blk w b0 3 #[(4:Int),(5:Int)]
 s0:Blk w c0 4 #[.bool true,.bool true]
 w1:Blk w b1 3 (wdK k)
 s1:Blk w c1 4 (sbK k)
 apart:b0≠b1/\c0≠c1/\b0≠c1/\c0≠b1/\mb≠b1/\mb≠c1/\wb≠b1/\wb≠c1/\sb≠b1/\sb≠c1
theorem Kh.ext {w w':World}{mb wb sb cw cs b0 c0 b1 c1 k:Nat}(h:Kh w mb wb sb cw cs b0 c0 b1 c1 k){S:List Nat}(hE:Ext S w w')(hS:mb∉S/\wb∉S/\sb∉S/\b0∉S/\c0∉S/\b1∉S/\c1∉S):Kh w' mb wb sb cw cs b0 c0 b1 c1 k:=
 ⟨h.mem.ext hE ⟨hS.1,hS.2.1,hS.2.2.1⟩,h.w0.ext hE hS.2.2.2.1,h.s0.ext hE hS.2.2.2.2.1,h.w1.ext hE hS.2.2.2.2.2.1,h.s1.ext hE hS.2.2.2.2.2.2,h.apart⟩
theorem Kh.next {w w':World}{mb wb sb cw cs b0 c0 b1 c1 k k':Nat}(h:Kh w mb wb sb cw cs b0 c0 b1 c1 k)(hE:Ext [b1,c1] w w')(h1:Blk w' b1 3 (wdK k'))(h2:Blk w' c1 4 (sbK k')):Kh w' mb wb sb cw cs b0 c0 b1 c1 k':=by
 obtain⟨a1,a2,a3,a4,a5,a6,a7,a8,a9,aa⟩:=h.apart;exact⟨h.mem.ext hE (by simp only[jE,jH,or_false,not_or];exact⟨⟨a5,a6⟩,⟨a7,a8⟩,a9,aa⟩),h.w0.ext hE (by simp only[jE,jH,or_false,not_or];exact⟨a1,a3⟩),h.s0.ext hE (by simp only[jE,jH,or_false,not_or];exact⟨a4,a2⟩),h1,h2,h.apart⟩
attribute [local irreducible] Bj
set_option maxRecDepth 100000 in
theorem Abr (mb wb sb cw cs b0 c0 b1 c1 eb n nb k:Nat)(h:SH)(A:Option Addr)(cap:Nat)(gs:List Nat)(no:Nat)(xs:List Int)(gl L:List Nat)(AL:List Value)(w:World)
  (hM:Kh w mb wb sb cw cs b0 c0 b1 c1 k) (hk:k<2) (hS:Ac7 h) (hA:Dh w n nb L AL [nmI] xs gl no A gs [.mk h []]) (hV:Bn w eb [(k:Int)]) :
  Calls prog 96 #[.pointer (some mb),.slice A 1 cap,.slice (some eb) 1 8] w fun e w'=>e=.returned (.tuple #[])/\Ext [b1,c1] w w'/\Blk w' b1 3 (wdK (k+1))/\Blk w' c1 4 (sbK (k+1)):=by
 obtain⟨bA,g,rfl,hg,ad⟩:=hA.row.at (i:=0) (by have:=hA.len;simp at this;omega);have ae:w.cell? ⟨bA,0,none⟩=some (.pointer (some g)):=by have:=ad 0 _ rfl;exact this
 have a8:=jB w _ ae;simp only at a8;obtain⟨pb,po,CA,cc,BA,bcap,am,PA,pc,vv,hC⟩:=(hA.at_ 0 g _ hg rfl).open_;have a6:=hd (Sy.of hC hS.k (hA.fd _ (jO ..)));obtain⟨e,he,ek,ai,aj⟩:=hS.val;obtain⟨an,ao,vb,k1,k2,k3,k4,k5⟩:=a6.o.src;rw[he] at k5;have a1:=a6.o.val;rw[he] at a1;have hz:[nmI].zip [(k:Int)]=[(nmI,(k:Int))]:=rfl
 have aa:w.cell? ⟨b0,k,none⟩=some (.int .i64 ((k:Int)+4)):=by
  rw[hM.w0.cell];have:k=0\/k=1:=by omega
  rcases this with rfl|rfl<;>rfl
 have ab:w.cell? ⟨c0,k,none⟩=some (.bool true):=by
  rw[hM.s0.cell];have:k=0\/k=1:=by omega
  rcases this with rfl|rfl<;>rfl
 have a7:=hd (Aeu mb wb sb cw cs _ 0 k b0 c0 2 ((k:Int)+4) e vb n nb eb [nmI] [(k:Int)] w hM.mem rfl hk ab aa ek ai k5 a1 hV rfl (by rw[hz];exact aj k));have a2:=hd (fun W (hW:Ext [] w W)=>Abq mb wb sb cw cs _ 1 k b1 c1 2 ((k:Int)+4) h g n nb (no+Ab ([St.mk h []].take 0)) eb [nmI] [(k:Int)] (wdK k) (sbK k) W (hM.mem.ext hW (by simp)) rfl hk (hM.w1.ext hW (by simp)) (hM.s1.ext hW (by simp)) (jD 2) (jD 2) hS.buf (a6.o.xb (XB.of0 (D:=[]) (B:=n) hW) (by simp) (jD n)) (hV.keep hW (by simp)) rfl (by rw[hz];exact hS.at_ k));rw[Ai9 hk,Aja hk] at a2;have ak:w.cell? ⟨g,0,none⟩=some (.pointer (some ⟨pb,po,none⟩)):=hC.blk.cell 0;have al:=hC.blk.lt;have qk:w.cell? ⟨pb,po,none⟩=some (.int .i64 h.k):=hC.src 0 _ rfl;rw[hS.k] at qk;have af:=jB w _ qk;simp only at af;unfold ptV at k4 a7 a2;simp only[List.length_cons,List.length_nil,Nat.zero_add] at a7 a2;clear hM hS hA hV hg ad hC a6 he k2 k3 k5 a1 aa ab hz;go_enter func96,ntmps96
 go_wp2_with fail
 go_loopw [17] (fun i wr=>(i=.int .i64 0/\wr=w)\/(i=.int .i64 1/\Hd (Ext [b1,c1] w wr/\Blk wr b1 3 (wdK (k+1))/\Blk wr c1 4 (sbK (k+1))))) (fun i _=>(1-intOf i).toNat)
 case atStart=>exact .inl ⟨rfl,rfl⟩
 case round=>
  rcases hrel with⟨rfl,rfl⟩|⟨rfl,HF⟩
  ·go_wp2_with fail
   refine a7.o.mono ?_
   rintro r w2 ⟨rfl,hE⟩;have ag:=hd hE;have ac:=hd (a2.o w2 hE);clear hE a7 a2;go_wp2_with fail
   refine ac.o.mono ?_
   rintro r w3 ⟨rfl,hE,h1,h2⟩;have ah:=hd (And.intro (ag.o.nil.trans hE) (And.intro h1 h2));clear hE h1 h2 ac;go_wp2_with fail
   go_roundw
   case rel=>exact .inr ⟨by go_num,ah⟩
   case measure=>simp[intOf]
  ·go_wp2_with fail
   exact bodyPost_end (results_none rfl _ _ _) rfl ⟨rfl,HF.o⟩
set_option maxRecDepth 100000 in
theorem Ahk (mb wb sb cw cs b0 c0 b1 c1 eb n nb:Nat)(h hs:SH)(A:Option Addr)(cap:Nat)(gs:List Nat)(no:Nat)(xs:List Int)(gl L:List Nat)(AL:List Value)(w:World)
  (hM:Kh w mb wb sb cw cs b0 c0 b1 c1 0) (hF:Ahj h) (hS:Ac7 hs) (hA:Dh w n nb L AL [] xs gl no A gs [.mk h [.mk hs []]]) (hV:Bn w eb []) (hne:n<=eb) (hlow:n<=b1/\n<=c1) (hEB:eb≠mb/\eb≠wb/\eb≠sb/\eb≠b0/\eb≠c0/\eb≠b1/\eb≠c1) :
  Calls prog 96 #[.pointer (some mb),.slice A 1 cap,.slice (some eb) (0:Nat) 8] w fun e w'=>e=.returned (.tuple #[])/\Ext [eb,b1,c1] w w'/\Kh w' mb wb sb cw cs b0 c0 b1 c1 2:=by
 obtain⟨bA,g,rfl,hg,an⟩:=hA.row.at (i:=0) (by have:=hA.len;simp at this;omega);have aq:w.cell? ⟨bA,0,none⟩=some (.pointer (some g)):=by have:=an 0 _ rfl;exact this
 have ab:=jB w _ aq;simp only at ab;obtain⟨pb,po,CA,cc,BA,bcap,aO,PA,pc,vv,hC⟩:=(hA.at_ 0 g _ hg rfl).open_;have HC:=hd hC;have au:=hd (hA.fd _ (jO ..));have aw:=hd hM;have ax:=hd hS;have ac:=hd hEB;have HV:=hd hV;have aQ:=hd (show h.var=nmI from hF.var);have aR:=hd hF.many;have ay:Hd (Aw [] h=[nmI]):=hd (by rw[show Aw [] h=[] ++ [h.var] from ijp hF.k,hF.var];rfl);have aS:=hd hF;have az:w.cell? ⟨g,0,none⟩=some (.pointer (some ⟨pb,po,none⟩)):=hC.blk.cell 0;have aA:=hC.blk.lt;have qk:w.cell? ⟨pb,po,none⟩=some (.int .i64 h.k):=hC.src 0 _ rfl;have ad:w.cell? ⟨pb,po+2,none⟩=some (.int .i64 h.lo):=hC.src 2 _ rfl;have ae:w.cell? ⟨pb,po+4,none⟩=some (.int .i64 h.step):=hC.src 4 _ rfl;have qv:w.cell? ⟨pb,po+5,none⟩=some (.bool h.vec):=hC.src 5 _ rfl;have ai:w.cell? ⟨g,2,none⟩=some (.int .i64 (if h.k=1 then(Ar h:Int) else 0)):=hC.blk.cell 2;have aB:w.cell? ⟨g,4,none⟩=some (.slice BA 1 bcap):=hC.blk.cell 4;rw[ijp hF.k,hF.many] at ai;rw[hF.k] at qk;rw[hF.vec] at qv;rw[hF.lo] at ad;rw[hF.step] at ae;have af:=jB w _ qk;simp only at af;have a6:=hC.gn;have a7:=hC.pn
 have a8:Hd (∀b,b<n->b∉[eb,b1,c1]):=hd fun b hb hm=>by
  simp only[jE,jH,or_false] at hm;omega
 have aC:Hd (∀x∈[eb,b1,c1],n<=x):=hd fun x hx=>by
  simp only[jE,jH,or_false] at hx;omega
 have aD:=hd ad;have aE:=hd ae;clear hM hF hS hA hV hg an hC ad ae hEB;go_enter func96,ntmps96
 go_wp2_with fail
 go_loopw [17] (fun i wr=>(i=.int .i64 0/\wr=w)\/(i=.int .i64 1/\Hd (Ext [eb,b1,c1] w wr/\Kh wr mb wb sb cw cs b0 c0 b1 c1 2))) (fun i _=>(1-intOf i).toNat)
 case atStart=>exact .inl ⟨rfl,rfl⟩
 case round=>
  rcases hrel with⟨rfl,hw⟩|⟨rfl,HF⟩
  ·have hw':=hw.symm;subst hw';have aF:=hd af;have aG:=hd az;have aH:=hd aB;go_wp2_with fail
   clear ai;go_loopw [25] (fun i wx=>∃j:Nat,i=.int .i64 j/\j<=2/\Hd (Ext [eb,b1,c1] w wx)/\Hd (Kh wx mb wb sb cw cs b0 c0 b1 c1 j)/\Hd (Bn wx eb [])) (fun i _=>(2-intOf i).toNat)
   case atStart=>exact⟨0,rfl,by omega,hd (jF _ _),aw,HV⟩
   case round=>
    obtain⟨j,rfl,hj,a2,ao,ap⟩:=hrel;rename World=>wj
    by_cases aP:j<2
    ·have aj:(j:Int)<2:=by omega
     have q0:wj.cell? ⟨g,0,none⟩=some (.pointer (some ⟨pb,po,none⟩)):=a2.o.held aG.o (a8.o g a6);have q4:wj.cell? ⟨g,4,none⟩=some (.slice BA 1 bcap):=a2.o.held aH.o (a8.o g a6);have ql:wj.cell? ⟨pb,po+2,none⟩=some (.int .i64 0):=a2.o.held aD.o (a8.o pb a7);have qs:wj.cell? ⟨pb,po+4,none⟩=some (.int .i64 1):=a2.o.held aE.o (a8.o pb a7)
     have aI:Hd (∀W,Ext [eb] wj W->W.cell? ⟨g,0,none⟩=some (.pointer (some ⟨pb,po,none⟩))/\W.cell? ⟨g,4,none⟩=some (.slice BA 1 bcap)/\g<W.heap.size/\W.cell? ⟨pb,po+2,none⟩=some (.int .i64 0)/\W.cell? ⟨pb,po+4,none⟩=some (.int .i64 1)/\pb<W.heap.size):=hd fun W hW=>by
      have a1:∀b,b<n->b∉[eb]:=fun b hb hm=>by rw[jA] at hm;omega
      have h1:=hW.size;have h2:=a2.o.size;have h3:=aF.o;exact⟨hW.held q0 (a1 g a6),hW.held q4 (a1 g a6),by omega,hW.held ql (a1 pb a7),hW.held qs (a1 pb a7),by omega⟩
     clear q0 q4 ql qs;have aJ:Hd (Bdd (j:Int)):=hd ⟨by omega,by omega⟩;go_upto_region 6 with fail
     refine rgW 25 [eb] (Nr eb 0 (j:Int)) [(23,Aq wj.heap.size [.int .i64 (j:Int)]),(24,Is eb (0+1) [(j:Int)])] ?_ ?_
     ·refine Am.cons (Aq.stays fun b j u y hb hu hf=>?_) (Am.cons (Is.stays fun y hy=>?_) Am.nil)
      ·have h9:b=eb:=hf.1;have:=ap.o.lt;omega
      ·cases hy
       rfl
     simp only[TK]
     repeat(refine dE (fun wr nr hJ=>by(obtain⟨q0,q4,aA,ql,qs,af⟩:=aI.o wr hJ.1);clear hJ;exact CL) ?_;simp only[PT])
     refine Eg (Aq wj.heap.size [.int .i64 (j:Int)]) rfl rfl (fun wr nr hJ hf=>?_) ?_
     ·refine⟨wr.heap.size,.cells #[(j:Int)] 3,?_,Ext.size hJ.1,Cs _ _ _ ((jK wr 3 #[(j:Int)]).cell 0)⟩
      (go_simp;try go_bits)
      first|rfl|exact⟨rfl,rfl⟩
     intro (b23:Nat);simp only[PT];refine Iq eb b23 1 0 [] (j:Int) _ _ rfl rfl rfl rfl rfl rfl (by omega) aJ.o (fun wr nr hJ hf=>?_) ?_
     ·have aK:(Aq wj.heap.size [.int .i64 (j:Int)]).V b23 wr:=Bd hf 23 (by kernel_rfl);exact⟨ap.o.rw hJ.2 fun y hy=>by simp at hy,aK.2 0 _ rfl⟩
     simp only[PT]
     repeat(refine dE (fun wr nr hJ=>by clear hJ;exact CL) ?_;simp only[PT])
     refine Aj (fun w5 hJ hF=>?_)
     have ag:Hd (Bn w5 eb [(j:Int)]):=hd (hF 24);have ak:=hd hJ.1;clear hF hJ;have al:Hd (Ext [eb,b1,c1] w w5):=hd (a2.o.trans (ak.o.mono fun x hx=>.inl (by rw[jA.1 hx];simp)));have ah:=hd ((Dh.body HC.o au.o).step al.o aC.o);rw[ay.o] at ah;obtain⟨e1,e2,e3,e4,e5,e6,e7⟩:=ac.o;have am:=hd (ao.o.ext ak.o (by simp only[jA];exact⟨Ne.symm e1,Ne.symm e2,Ne.symm e3,Ne.symm e4,Ne.symm e5,Ne.symm e6,Ne.symm e7⟩));have HQ:=hd (Abr mb wb sb cw cs b0 c0 b1 c1 eb n nb j hs BA bcap aO no _ _ L AL w5 am.o aP ax.o ah.o ag.o);clear ah e1 e2 e3 e4 e5 e6 e7;go_wp2_with fail
     refine HQ.o.mono ?_
     rintro e w7 ⟨rfl,aa,h1,h2⟩;have aL:Hd (Ext [eb,b1,c1] w w7):=hd (al.o.trans (aa.mono fun x hx=>.inl (jI _ hx)));have aM:=hd (am.o.next aa h1 h2);have aN:Hd (Bn w7 eb []):=hd (ag.o.keep aa (by simp only[jE,jH,or_false,not_or];exact⟨ac.o.2.2.2.2.2.1,ac.o.2.2.2.2.2.2⟩)).pop;clear aa h1 h2 HQ ag;go_wp2_with fail
     go_roundw
     case rel=>exact⟨j+1,by go_num,by omega,aL,aM,aN⟩
     case measure=>simp[intOf];omega
    ·have aj:j=2:=by omega
     subst aj;go_wp2_with fail
     go_roundw
     case rel=>exact .inr ⟨by go_num,hd ⟨a2.o,ao.o⟩⟩
     case measure=>simp[intOf]
  ·go_wp2_with fail
   exact bodyPost_end (results_none rfl _ _ _) rfl ⟨rfl,HF.o⟩
end
end Go.Proofs.YtfppibmloloakaaGreatDoor
