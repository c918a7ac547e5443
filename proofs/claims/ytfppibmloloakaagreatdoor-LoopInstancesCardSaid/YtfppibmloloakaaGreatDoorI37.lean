import Derived.Test.YtfppibmloloakaaGreatDoorI36
namespace Go.Proofs.YtfppibmloloakaaGreatDoor
open Go.RowKit Go.Proofs.Tryz
set_option linter.all false
set_option maxHeartbeats 64000000
theorem Qu {α:Type}{f:Nat->List α}{g:Nat->Nat}(h:∀k,(f k).length<=g k):∀n,(Cj n f).length<=Kc n g
 | 0=>by simp[Gg]
 | n+1=>by
  rw[Bq,jG,Hh];have:=Qu h n;have:=h n;omega
theorem Pi {env:Env}(l:List St)(ih:∀s∈l,∀no,(Br env no s).length<=Ga env s):∀no,(Aj env no l).length<=Ax env l:=by
 induction l with
 | nil=>intro no;simp[Aj]
 | cons s r ihr=>
  intro no;simp only[Aj,Ax,jG];have h1:=ih s (jO ..) no;have h2:=ihr (fun s hs=>ih s (jI _ hs)) (no+Aw s);omega
theorem Af7:∀(s:St) (env:Env) (no:Nat),(Br env no s).length<=Ga env s:=by
 refine Dr fun h b ih=>?_
 intro env no;have hl:∀env no,(Aj env no b).length<=Ax env b:=fun env=>Pi b fun s hs no=>ih s hs env no
 rw[Br,Ga];split
 ·simp
 split
 ·split
  ·have:=hl env no;omega
  ·simp
 split
 ·rw[Kx,Nat.mul_add,Nat.mul_comm (An h) b.length];omega
 ·have h1:=Qu (f:=fun k=>Aj (Bb env h k) no b) (g:=fun k=>1+Ax (Bb env h k) b) (fun k=>by have:=hl (Bb env h k) no;omega) (An h);have h2:(Cj (An h) fun k=>Aj (Bb env h k) no b).length<=((List.range (An h)).map fun k=>1+Ax (Bb env h k) b).sum:=h1;show(Cj (An h) fun k=>Aj (Bb env h k) no b).length<=_
  omega
theorem Af8 (env:Env)(no:Nat)(l:List St):(Aj env no l).length<=Ax env l:=Pi l (fun s _=>Af7 s env) no
theorem Acx {nb:Nat}{body:List St}(hF:∀s∈body,Fd nb [] s):Bt (Aj [] 0 body)<=(Aj [] 0 body).length*10000000:=by
 rw[<-Py (body:=body) _ (Tb hF)];generalize Aj [] 0 body=l
 induction l with
 | nil=>simp[Hc]
 | cons i l ih=>
  have:=Ahx hF i.no;have h1:Hc (wdB body) (i :: l)=wdB body i.no+Hc (wdB body) l:=by simp[Hc]
  rw[h1,List.length_cons,Nat.add_mul];omega
def Yc (H:Nat)(v:Value)(O:List RtO)(w:World):Prop:=O.length<=20000/\∃B hi,H<=B/\hi<=w.heap.size/\w.ownsRow B 113 7 v O.length (O.flatMap rtC)/\∀x∈O,Ia B hi x.A x.d.vs w
theorem Yc.keep {H:Nat}{v:Value}{O:List RtO}{w w':World}(h:Yc H v O w)(hE:Ext [] w w'):Yc H v O w':=by
 obtain⟨h1,B,hi,h2,h3,h4,h5⟩:=h;exact⟨h1,B,hi,h2,nt h3 hE.size,Ah h4 hE (by simp),fun x hx=>(h5 x hx).ext hE (by simp)⟩
def Alz (body:List St)(w:World)(e:Ending)(w':World):Prop:=Ext [] w w'/\((Ef body=false/\e=.returned (.tuple #[.slice none 0 0,(2:Int)]))\/
 (Ef body=true/\∃(O:List RtO) (v:Value),e=.returned (.tuple #[v,(0:Int)])/\O.map RtO.d=rqL [] 0 0 body/\Yc w.heap.size v O w'))
def Amm (p:Pg)(w:World)(e:Ending)(w':World):Prop:=Ext [] w w'/\((Eu p≠0/\e=.returned (.tuple #[.slice none 0 0,(Eu p:Int)]))\/
 (Eu p=0/\∃(O:List RtO) (v:Value),e=.returned (.tuple #[v,(0:Int)])/\O.map RtO.d=rqL [] 0 0 p.body/\Yc w.heap.size v O w'))
theorem Aau {w:World}{tb mb:Nat}{keep:Bool}(hB:Blk w tb 163 #[.slice none 0 0,(0:Int),.bool keep,(0:Int)])(hM:Ci w mb [])(ht:tb<mb)(hs:w.heap.size=mb+1):Dq tb mb (mb+1) keep [] [] 0 [] 0 0 none w:=
 ⟨by omega,w.heap.size,jD _,⟨by omega,by omega,.slice none 0 0,[],rfl,rfl,hB,Ca _ _ _ _,by simp⟩,⟨[],hM,by simp,by simp,fun s hs=>by cases hs⟩⟩
set_option maxRecDepth 100000 in
theorem Aav (p:Pg)(w:World)(hP:Mo w p)(hc:Cg p.bs p.body=0):Calls prog 39 #[pgV p] w (Alz p.body w):=by
 obtain⟨A,cap,bs,PB,bcap,body⟩:=p;unfold pgV;dsimp only at *
 have ag:Du bs body=0/\Ax [] body<=2500000:=by
  unfold Cg at hc;split at hc
  ·rename_i h0
   split at hc
   ·omega
   ·exact⟨h0,by omega⟩
  ·rename_i h0
   exact absurd hc h0
 have a8:=hd (Kf.of ag.1);have aP:=Af8 [] 0 body;have aQ:=Acx a8.o.fd;have aR:=ag.2;have ao:=hd (Ua body (fun s _=>Af6 s));have aG:Hd (Ef body=(decide ((Aj [] 0 body).length<=2000)&&decide (Bt (Aj [] 0 body)<=20000))):=hd rfl;have ap:=hd hP.body;have aq:=hd hP.stmt;clear hc hP ag;generalize hm:body.length=m at *;have HM:=hd hm;clear hm;generalize bs.length=n at *;have au:=hd ((jF [] w).alloc (.cells #[.slice A n cap,.slice PB m bcap] 29));have aw:=hd (jK w 29 #[.slice A n cap,.slice PB m bcap]);go_enter func39,ntmps39
 go_upto_region 2 with fail
 have ax:((w.alloc (.cells #[.slice A n cap,.slice PB m bcap] 29)).alloc (.cells #[.slice none 0 0,(0:Int),.bool false,(0:Int)] 163)).heap.size=w.heap.size+1+1:=by rw[Ad,Ad]
 have ay:=hd (au.o.alloc (.cells #[.slice none 0 0,(0:Int),.bool false,(0:Int)] 163));have a1:=hd (aw.o.alloc (.cells #[.slice none 0 0,(0:Int),.bool false,(0:Int)] 163));have ah:=hd (jK (w.alloc (.cells #[.slice A n cap,.slice PB m bcap] 29)) 163 #[.slice none 0 0,(0:Int),.bool false,(0:Int)]);rw[Ad] at ah;generalize World.alloc (World.alloc w _) _=w2 at *;generalize aO:w.heap.size=s0 at *;clear au aw;have qp:=a1.o.cell;have ai:=a1.o.lt;have aj:=hd (ay.o.alloc (.map #[] 0));have aa:=hd (a1.o.alloc (.map #[] 0));have ab:=hd (ah.o.alloc (.map #[] 0));have ak:=hd (Ci.made w2);have aH:=Ad w2 (.map #[] 0);rw[ax] at ak;have ae:=hd (Aau ab.o ak.o (by omega) (by omega));have a2:=hd (ao.o (s0+1) (s0+1+1) (s0+1+1+1) bs.length 0 0 0 0 false none 0 [] [] w (w2.alloc (.map #[] 0)) PB bcap [] none NmG.nil (by omega) (by omega) ae.o ap.o aq.o a8.o.fd aj.o (.inl rfl) ⟨fun _=>⟨rfl,rfl⟩,jD _,fun a ha=>by cases ha⟩ (by have:=a8.o.sto;omega) (by show 0+2*Ax [] body<=_;omega) ⟨by simp,by show 0+Bt (Aj [] 0 body)<=_;omega,by show 0+(Aj [] 0 body).length<=_;omega⟩);rw[HM.o] at a2;have aS:=@run_makeMap prog;go_wp2_with fail
 refine a2.o.mono ?_
 rintro e w4 ⟨rfl,V4,hE,hq⟩;have af:=hd (hE.stay ae.o aj.o (by omega) (by omega));have al:=hd (hE.blk ae.o aa.o (by decide) (by decide));obtain⟨vt,aE⟩:=hq.tch;have a6:=hd aE;clear hE hq aE a2 ae a1 aa ah ab aj ay ak qp ai ax aH;have a7:=hd (show Ef body=(decide (0+(Aj [] 0 body).length<=2000)&&decide (0+Bt (Aj [] 0 body)<=20000)) by rw[aG.o,Nat.zero_add,Nat.zero_add]);have az:([]:List ByteArray).zip ([]:List Int)=[]:=rfl;rw[az] at a6;have aT:0+Bt (Aj [] 0 body)<=30000000000000:=by omega
 have aU:0+(Aj [] 0 body).length<=3000000:=by omega
 generalize aX:0+Bt (Aj [] 0 body)=mk at *;generalize aY:0+(Aj [] 0 body).length=ck at *;have qt:=a6.o.cell;have aA:=a6.o.lt;by_cases h1:2000<ck
 ·have e1:decide ((2000:Int)<(ck:Int))=true:=by simp;omega
  have ac:Ef body=false:=by rw[a7.o];simp;omega
  go_wp2_with fail
  go_ret2
  exact⟨af.o,.inl ⟨ac,rfl⟩⟩
 ·have e1:decide ((2000:Int)<(ck:Int))=false:=by simp;omega
  by_cases h2:20000<mk
  ·have e2:decide ((20000:Int)<(mk:Int))=true:=by simp;omega
   have ac:Ef body=false:=by rw[a7.o];simp;omega
   go_wp2_with fail
   go_ret2
   exact⟨af.o,.inl ⟨ac,rfl⟩⟩
  ·have e2:decide ((20000:Int)<(mk:Int))=false:=by simp;omega
   have ac:Ef body=true:=by rw[a7.o];simp;omega
   go_upto_region 6 with fail
   clear qt aA;have aI:=hd (af.o.alloc (.cells #[.slice none 0 0,(0:Int),.bool true,(0:Int)] 163));have ad:=hd (al.o.alloc (.cells #[.slice none 0 0,(0:Int),.bool true,(0:Int)] 163));have am:=hd (jK w4 163 #[.slice none 0 0,(0:Int),.bool true,(0:Int)]);have aJ:=Ad w4 (.cells #[.slice none 0 0,(0:Int),.bool true,(0:Int)] 163);have aV:s0<=w4.heap.size:=by have:=af.o.size;omega
   generalize World.alloc w4 _=w5 at *;generalize aZ:w4.heap.size=s4 at *;have qp:=ad.o.cell;have ai:=ad.o.lt;have aB:=hd (aI.o.alloc (.map #[] 0));have an:=hd (am.o.alloc (.map #[] 0));have aC:=hd (Ci.made w5);have aW:=Ad w5 (.map #[] 0);rw[aJ] at aC;have aD:=hd (Aau an.o aC.o (by omega) (by omega));have a2:=hd (ao.o s4 (s4+1) (s4+1+1) bs.length 0 0 0 0 true none 0 [] [] w (w5.alloc (.map #[] 0)) PB bcap [] none NmG.nil (by omega) (by omega) aD.o ap.o aq.o a8.o.fd aB.o (.inl rfl) ⟨fun _=>⟨rfl,rfl⟩,jD _,fun a ha=>by cases ha⟩ (by have:=a8.o.sto;omega) (by show 0+2*Ax [] body<=_;omega) ⟨fun _=>by show 0+Bt (Aj [] 0 body)<=_;omega,by show 0+Bt (Aj [] 0 body)<=_;omega,by show 0+(Aj [] 0 body).length<=_;omega⟩);rw[HM.o] at a2;go_wp2_with fail
   refine a2.o.mono ?_
   rintro e w7 ⟨rfl,V7,hE,hq⟩;have aK:=hd (hE.stay aD.o aB.o (by omega) (by omega));rw[az] at hq;obtain⟨-,hi,h7,⟨-,-,v,O,-,hO,hB,hR,aF⟩,-⟩:=hq;have hO':O.map RtO.d=rqL [] 0 0 body:=by simpa[kL] using hO
   have aL:O.length=Bt (Aj [] 0 body):=by rw[<-Ya [] 0 0,<-hO',List.length_map]
   have aM:=hd (show Yc w.heap.size v O w7 from⟨by omega,s4+1+1,hi,by omega,h7,hR,aF⟩);have aN:=hd hO';have qt:=hB.cell;have aA:=hB.lt;clear hE hB hR aF a2 qp ai hO hO' aL h7;go_wp2_with fail
   go_ret2
   exact⟨aK.o,.inr ⟨ac,O,v,rfl,aN.o,aO ▸ aM.o⟩⟩
set_option maxRecDepth 100000 in
theorem Af9 (p:Pg)(w:World)(hP:Mo w p):Calls prog 15 #[pgV p] w (Amm p w):=by
 have HL:=hd (fun W (hW:Ext [] w W)=>Mt p W (hP.keep hW));have HT:=hd (fun W (hW:Ext [] w W) (hc:Cg p.bs p.body=0)=>Aav p W (hP.keep hW) hc);have a8:Hd (Eu p=if Cg p.bs p.body≠0 then Cg p.bs p.body else if Ef p.body then 0 else 2):=hd rfl;unfold Amm;generalize Eu p=oe at *;generalize ae:Cg p.bs p.body=ce at *;unfold Alz at HT;obtain⟨A,cap,bs,PB,bcap,body⟩:=p;unfold pgV at *;dsimp only at *;clear hP;generalize body.length=m at *;generalize bs.length=n at *;have ab:=hd ((jF [] w).alloc (.cells #[.slice A n cap,.slice PB m bcap] 29));have ac:=hd (jK w 29 #[.slice A n cap,.slice PB m bcap]);go_enter func15,ntmps15
 have ah:w.heap.size<=(w.alloc (.cells #[.slice A n cap,.slice PB m bcap] 29)).heap.size:=ab.o.size;go_upto_region 1 with fail
 generalize World.alloc w _=w1 at *;generalize ak:w.heap.size=s0 at *;have qp:=ac.o.cell;have ad:=ac.o.lt;go_wp2_with fail
 refine(HL.o w1 ab.o).mono ?_
 rintro e w2 ⟨rfl,hE⟩;have aa:=hd (ab.o.trans hE);have a7:=hd (ac.o.ext hE (by simp));clear hE HL qp ad;have qp:=a7.o.cell;have ad:=a7.o.lt;by_cases a6:ce=0
 ·subst a6;have a2:=a8.o;simp only[ne_eq,not_true,if_false] at a2;have a1:=hd a2;clear a2 a8;go_wp2_with fail
  refine(HT.o w2 aa.o (by first|trivial|exact ae)).mono ?_
  rintro e w3 ⟨hE,hr⟩;have af:=hd (aa.o.trans hE);have ai:s0<=w2.heap.size:=by have:=aa.o.size;omega
  clear hE HT qp ad ae;rcases hr with⟨h1,rfl⟩|⟨h1,O,v,rfl,hO,hA⟩
  ·have h2:oe=2:=by rw[a1.o,h1];rfl
   subst h2;go_wp2_with fail
   go_ret2
   exact⟨af.o,.inl ⟨by decide,rfl⟩⟩
  ·have h2:oe=0:=by rw[a1.o,h1];rfl
   subst h2;have HO:=hd hO
   have HA:=hd (show Yc s0 v O w3 by
    obtain⟨h1,B,hi,h2,h3⟩:=hA;exact⟨h1,B,hi,by omega,h3⟩)
   clear hO hA;go_wp2_with fail
   go_ret2
   exact⟨af.o,by first|exact .inr ⟨rfl,O,v,rfl,HO.o,HA.o⟩|exact⟨O,v,rfl,HO.o,HA.o⟩⟩
 ·have a2:=a8.o;rw[ijp a6] at a2;have hb:(ce != 0)=true:=by simpa using a6
  have aj:(ce==0)=false:=by simpa using a6
  have ag:=hd a6;have a1:=hd a2;clear a2 a8 HT a6 ae;go_wp2_with fail
  go_ret2
  exact⟨aa.o,.inl ⟨by rw[a1.o];exact ag.o,by rw[a1.o];rfl⟩⟩
theorem Di {α:Type}{f:α->List Value}{s:Nat}(hs:∀x,(f x).length=s):∀{l:List α} {k j:Nat} {x:α},l[k]? = some x->j<s->(l.flatMap f)[k*s+j]? = (f x)[j]?
 | [],k,j,x,h,_=>by simp at h
 | y :: l,0,j,x,h,hj=>by
  cases h
  rw[List.flatMap_cons,Nat.zero_mul,Nat.zero_add,List.getElem?_append_left (by rw[hs];exact hj)]
 | y :: l,k+1,j,x,h,hj=>by
  have h1:=Di hs (l:=l) (k:=k) (j:=j) (x:=x) h hj;rw[List.flatMap_cons,jM (by rw[hs,Nat.add_mul,Nat.one_mul];omega),hs,show(k+1)*s+j-s=k*s+j by rw[Nat.add_mul,Nat.one_mul];omega];exact h1
theorem Aaw {α:Type}{f:α->List Value}{s:Nat}(hs:∀x,(f x).length=s){w:World}{B:Nat}{e:TypeId}{A:Option Addr}{n c:Nat}{l:List α}(h:w.ownsRow B e s (.slice A n c) l.length (l.flatMap f))(hl:l.length<=1000000):n=l.length/\Al w A s f l:=by
 obtain⟨A',c',hv,hc,a1⟩:=Be h;cases hv
 refine⟨rfl,hl,?_⟩
 by_cases h0:l=[]
 ·exact .inl h0
 ·obtain⟨g,rfl,-,-⟩:=a1 (List.length_pos_iff.2 h0);refine .inr ⟨g,rfl,fun i x hx j v hv=>?_⟩
  refine Cz h rfl ?_
  have hj:=(ils hv).1;rw[hs] at hj;rw[Di hs hx hj];exact hv
theorem Ak1 (x:RtO):(rtC x).length=7:=rfl
theorem Ak2 (x:InO):(ioC x).length=2:=rfl
def Amn (x:RtO):InO:=⟨x.d.no,x.d.vs,x.A,x.c⟩
def wrO (O:List RtO):List InO:=(O.filter fun x=>x.d.wr).map Amn
theorem Aiy {O:List RtO}{k:Nat}{x:RtO}(h:O[k]? = some x):wrO (O.take (k+1))=wrO (O.take k) ++ (if x.d.wr then [Amn x] else []):=by
 unfold wrO;rw[List.take_add_one,h,List.filter_append,List.map_append];cases hw:x.d.wr<;>simp[hw]
theorem Ak3 {O:List RtO}{k:Nat}:(wrO (O.take k)).length<=(wrO O).length:=by
 have h:=congrArg wrO (List.take_append_drop k O);have h2:wrO (O.take k ++ O.drop k)=wrO (O.take k) ++ wrO (O.drop k):=by unfold wrO;rw[List.filter_append,List.map_append]
 rw[h2] at h;rw[<-h,jG];omega
def Rc (x:RtO):Array Value:=#[.int .i64 x.d.no,.slice x.A x.d.vs.length x.c,.int .i64 x.d.buf,.int .i64 x.d.at_,.bool x.d.wr,.int .i64 x.d.part,.int .i64 x.d.inst]
theorem Aga (x:RtO):(Rc x).toList=rtC x:=rfl
set_option maxRecDepth 100000 in
theorem Lw (H:Nat)(v:Value)(O:List RtO)(w:World)(hA:Yc H v O w)(hl:(wrO O).length<=2000)(hH:H<=w.heap.size):Calls prog 20 #[v] w fun e w'=>∃v',e=.returned v'/\Ext [] w w'/\Mq H v' (wrO O) w':=by
 obtain⟨aA,B,hi,hB,aB,hO,hN⟩:=hA;obtain⟨A,c,rfl,hc,-⟩:=Be hO;have HS:=hd (Aaw Ak1 hO (by omega)).2;have HN:=hd hN;have HL:=hd hl;have af:=hd (fun k=>@Ak3 O k);clear hO hN hl;generalize hn:O.length=n at *;have a7:=hd hn;clear hn;generalize aC:w.heap.size=H0 at *;go_enter func20,ntmps20
 go_wp2_with fail
 go_loopw [3,8] (fun q i wr=>∃(k:Nat) (vv:Value),vv=q/\i=.int .i64 k/\k<=n/\Hd (Ext [] w wr)/\Hd (wr.ownsRow H0 101 2 vv (wrO (O.take k)).length ((wrO (O.take k)).flatMap ioC))) (fun _ i _=>(n-intOf i).toNat)
 case atStart=>exact⟨0,_,rfl,rfl,jQ _,hd (jF _ _),hd (Ca _ _ _ _)⟩
 case round=>
  obtain⟨k,vv,rfl,rfl,hk,HE,HO⟩:=hrel;rename World=>wq
  by_cases aE:k<n
  ·obtain⟨b,x,rfl,hx,hc⟩:=(HS.o.keep HE.o).at (i:=k) (by have:=a7.o;omega);have a8:=hd (Aiy hx);have aw:=af.o (k+1);have HW:=hd (fun j u hu=>hc j u (by rw[<-Aga];exact hu):∀(j:Nat) (u:Value),(Rc x).toList[j]? = some u->wq.cell? ⟨b,k*7+j,none⟩=some u);have aa:=hd (jK wq 113 (Rc x));have a2:=hd ((jF [] wq).alloc (.cells (Rc x) 113));have ab:=hd (show(prog.info? 113).map (·.size)=some (Rc x).size from Aiq);have ac:=hd (show(rtA 0 none 0 0 0).size=(Rc x).size from rfl);have ad:=hd (show(Rc x).all (·.oneCell')=true from by simp[Rc];repeat(first|exact rfl|refine⟨rfl,?_⟩));have ax:=HE.o.size;clear hx hc
   go_upto_region 5 with(first
    | refine Ac rfl 113 _ rfl b (k*7) rfl (Rc x) HW.o _ underlying113 rfl ab.o ?_
    | refine Av rfl rfl 113 _ _ rfl rfl (rtA 0 none 0 0 0) (Aeg _) (Rc x) rfl rfl ab.o ac.o ad.o ?_)
   have ae:=hd (HE.o.trans a2.o);have a6:=hd (Ah HO.o a2.o (by simp));have ay:(World.alloc wq (.cells (Rc x) 113)).heap.size=wq.heap.size+1:=Ad _ _;generalize World.alloc wq _=w2 at *;generalize aD:wq.heap.size=s2 at *;have qb:=aa.o.cell;unfold Rc at qb;have az:=aa.o.lt;clear HO HE HW ac ad a2;cases hwr:x.d.wr
   ·have a1:Hd (wrO (O.take (k+1))=wrO (O.take k)):=hd (by rw[a8.o,hwr];simp);rw[hwr] at qb;clear hwr;go_wp2_with fail
    go_roundw
    case rel=>exact⟨k+1,_,rfl,by go_num,by omega,ae,by rw[a1.o];exact a6⟩
    case measure=>simp[intOf];omega
   ·have a1:Hd (wrO (O.take (k+1))=wrO (O.take k) ++ [Amn x]):=hd (by rw[a8.o,hwr];simp)
    have ag:(wrO (O.take k)).length+1<=2000:=by
     have h1:=congrArg List.length a1.o;rw[jG,jS] at h1;have:=HL.o;omega
    have ah:=hd (show(wrO (O.take (k+1))).length=(wrO (O.take k)).length+1 by rw[a1.o];simp);have ai:=hd (show(wrO (O.take (k+1))).flatMap ioC=(wrO (O.take k)).flatMap ioC ++ [.int .i64 x.d.no,.slice x.A x.d.vs.length x.c] by rw[a1.o,List.flatMap_append];rfl);rw[hwr] at qb;clear hwr;obtain⟨i0,ao,ap,aq,au⟩:=Acc;generalize (wrO (O.take k)).length=m at *;generalize (wrO (O.take k)).flatMap ioC=ts at *;have aj:=hd (jK w2 101 #[.int .i64 x.d.no,.slice x.A x.d.vs.length x.c]);have ak:=hd (Zz w2 (.int .i64 x.d.no) (.slice x.A x.d.vs.length x.c) rfl rfl)
    go_wp2_with (first
     | refine Bk rfl (.slice (some w2.heap.size) 1 1) _ (As rfl _ _ _ _ (.agg #[.int .i64 x.d.no,.slice x.A x.d.vs.length x.c]) rfl ak.o) ?_
     | (
       refine wpList_append_lies _ rfl _ _ 51 rfl H0 101 i0 _ 2 32 underlying51 ao ap aq au rfl (by decide) vv m ts rfl ?c0 ⟨w2.heap.size,0,none⟩ 1 1 [.int .i64 x.d.no,.slice x.A x.d.vs.length x.c] rfl rfl ?c1 ?c2 (by omega) ?c3 ?c4 ?c5 _ rfl ?_
       case c0=>exact Ah a6.o ((jF [] w2).alloc _) (by simp)
       case c1=>intro j u hu;rw[Addr.add_lit,Nat.zero_add,aj.o.cell,<-Array.getElem?_toList];exact hu
       case c2=>intro u hu;simp only[jE,jH,or_false] at hu;rcases hu with rfl|rfl<;>rfl
       case c3=>unfold maxLen;omega
       case c4=>omega
       case c5=>exact nt (by omega) ((jF [] w2).alloc _).size
       intro g8 c8 w8 ho8 hg8 hi8 ha8;have al:=hd ho8;have am:Hd (Ext [] w w8):=hd ((ae.o.alloc _).grown hg8 fun q hq=>.inr (by have:=Ae a6.o q hq;omega));clear ho8 hg8 hi8 ha8))
    go_roundw
    case rel=>exact⟨k+1,_,rfl,by go_num,by omega,am,by rw[ah.o,ai.o];exact al⟩
    case measure=>simp[intOf];omega
  ·have an:k=n:=by omega
   subst an;have HT:Hd (O.take k=O):=hd (List.take_of_length_le (by have:=a7.o;omega));rw[HT.o] at HO;go_wp2_with fail
   go_ret
   refine⟨_,rfl,HE.o,HL.o,⟨H0,by omega,HO.o⟩,fun y hy=>?_⟩
   unfold wrO at hy;obtain⟨z,hz,rfl⟩:=List.mem_map.1 hy;have h1:=(HN.o z (List.mem_filter.1 hz).1).ext HE.o (by simp);rcases h1 with h1|⟨b,C,h1,h2,h3,h4,h5⟩
   ·exact .inl h1
   ·exact .inr ⟨b,C,h1,by omega,h4,h5⟩
section
def Aq {α:Type}(P:Nat->Prop)(N:Nat)(w:World)(A:Option Addr)(k:Nat)(cs:α->List Value)(l:List α):Prop:=
 l.length<=N/\(l=[]\/∃b:Nat,A=some b/\P b/\b<w.heap.size/\∀(i:Nat) (x:α),l[i]? = some x->∀(j:Nat) (v:Value),(cs x)[j]? = some v->w.cell? ⟨b,i*k+j,none⟩=some v)
section
variable {α:Type} {P Q:Nat->Prop} {N M:Nat} {w w':World} {A:Option Addr} {k:Nat} {cs:α->List Value} {l:List α}
theorem Aq.ext (h:Aq P N w A k cs l){S:List Nat}(hE:Ext S w w')(hS:∀x∈S,¬P x):Aq P N w' A k cs l:=by
 obtain⟨h0,h⟩:=h;refine⟨h0,?_⟩
 rcases h with h|⟨b,rfl,hp,hb,hc⟩
 ·exact .inl h
 ·exact .inr ⟨b,rfl,hp,nl hb hE.size,fun i x hx j v hv=>hE.held (hc i x hx j v hv) fun hm=>hS _ hm hp⟩
theorem Aq.mono (h:Aq P N w A k cs l)(hP:∀b,b<w.heap.size->P b->Q b)(hN:N<=M):Aq Q M w A k cs l:=by
 obtain⟨h0,h⟩:=h;refine⟨nt h0 hN,?_⟩
 rcases h with h|⟨b,rfl,hp,hb,hc⟩
 ·exact .inl h
 ·exact .inr ⟨b,rfl,hP b hb hp,hb,hc⟩
theorem Aq.inn (h:Aq P N w A k cs l)(hN:N<=1000000):Al w A k cs l:=by
 obtain⟨h0,h⟩:=h;refine⟨nt h0 hN,?_⟩
 rcases h with h|⟨b,rfl,hp,hb,hc⟩
 ·exact .inl h
 ·exact .inr ⟨b,rfl,hc⟩
theorem Aq.nil (P:Nat->Prop)(N:Nat)(w:World)(A:Option Addr)(k:Nat)(cs:α->List Value):Aq P N w A k cs []:=⟨by simp,.inl rfl⟩
theorem Aq.own {f:α->List Value}{s:Nat}(hs:∀x,(f x).length=s){w:World}{B:Nat}{e:TypeId}{A:Option Addr}{n c:Nat}{l:List α}(h:w.ownsRow B e s (.slice A n c) l.length (l.flatMap f))(hl:l.length<=N)(h0:0<s)
  (hP:∀g,A=some ⟨g,0,none⟩->B<=g->g<w.heap.size->P g):n=l.length/\Aq P N w A s f l:=by
 obtain⟨A',c',hv,hc,a6⟩:=Be h;cases hv
 refine⟨rfl,hl,?_⟩
 by_cases hn:l=[]
 ·exact .inl hn
 ·obtain⟨g,rfl,h1,h2⟩:=a6 (List.length_pos_iff.2 hn)
  have a1:∀i x,l[i]? = some x->∀j v,(f x)[j]? = some v->w.cell? ⟨g,i*s+j,none⟩=some v:=fun i x hx j v hv=>by
   refine Cz h rfl ?_
   have hj:=(ils hv).1;rw[hs] at hj;rw[Di hs hx hj];exact hv
  obtain⟨x,hx⟩:∃x,l[0]? = some x:=⟨_,jJ (List.length_pos_iff.2 hn)⟩;obtain⟨v,hv⟩:∃v,(f x)[0]? = some v:=⟨_,jJ (by rw[hs];exact h0)⟩;have a2:=jB w _ (a1 0 x hx 0 v hv);exact .inr ⟨g,rfl,hP g rfl h1 a2,a2,a1⟩
end
def AfA (P:Nat->Prop)(N:Nat)(w:World)(a:Af):Prop:=Aq P N w a.A 2 tmC a.ts
inductive ExA (P:Nat->Prop) (N:Nat) (w:World):Ex->Prop
 | mk (h:EH) (ks:List Ex) (ha:AfA P N w h.at_) (hk:Aq P N w h.A 10 exC ks) (hs:∀e∈ks,ExA P N w e):ExA P N w (.mk h ks)
inductive StI (P:Nat->Prop) (w:World):Nat->St->Prop
 | mk (N:Nat) (h:SH) (b:List St) (hc:Aq P N w h.cA 2 afC h.conds) (hcs:∀a∈h.conds,AfA P N w a) (ha:AfA P N w h.at_) (hv:ExA P N w h.val) (hp:Ap h.val<=N) (hz:h.var.size<=N) (hn:1<=N) (hb:Aq P N w h.A 21 stC b) (hs:∀s∈b,StI P w (N-1) s):StI P w N (.mk h b)
def StA (P:Nat->Prop)(N:Nat)(w:World)(s:St):Prop:=StI P w N s
theorem StA.mk {P:Nat->Prop}{N:Nat}{w:World}(h:SH)(b:List St)(hc:Aq P N w h.cA 2 afC h.conds)(hcs:∀a∈h.conds,AfA P N w a)(ha:AfA P N w h.at_)(hv:ExA P N w h.val)(hp:Ap h.val<=N)(hz:h.var.size<=N)(hn:1<=N)(hb:Aq P N w h.A 21 stC b)(hs:∀s∈b,StA P (N-1) w s):StA P N w (.mk h b):=StI.mk N h b hc hcs ha hv hp hz hn hb hs
def BfA (P:Nat->Prop)(N:Nat)(w:World)(b:Bf):Prop:=Aq P N w b.A 1 inC b.data/\b.name.size<=N
section
variable {P Q:Nat->Prop} {N M:Nat} {w w':World}
theorem ExA.ext {S:List Nat}(hE:Ext S w w')(hS:∀x∈S,¬P x){e:Ex}(h:ExA P N w e):ExA P N w' e:=by
 induction h with
 | mk h ks ha hk hs ih=>exact .mk h ks (Aq.ext ha hE hS) (hk.ext hE hS) ih
theorem ExA.mono (hP:∀b,b<w.heap.size->P b->Q b)(hN:N<=M){e:Ex}(h:ExA P N w e):ExA Q M w e:=by
 induction h with
 | mk h ks ha hk hs ih=>exact .mk h ks (Aq.mono ha hP hN) (hk.mono hP hN) ih
theorem ExA.inn (hN:N<=1000000){e:Ex}(h:ExA P N w e):Hf w e:=by
 induction h with
 | mk h ks ha hk hs ih=>exact .mk h ks (Aq.inn ha hN) (hk.inn hN) ih
theorem ExA.all {h:EH}{ks:List Ex}(k:ExA P N w (.mk h ks)):AfA P N w h.at_/\Aq P N w h.A 10 exC ks/\∀e∈ks,ExA P N w e:=by
 cases k;exact⟨by assumption,by assumption,by assumption⟩
theorem StA.ext {S:List Nat}(hE:Ext S w w')(hS:∀x∈S,¬P x){s:St}(h:StA P N w s):StA P N w' s:=by
 unfold StA at *
 induction h with
 | mk N h b hc hcs ha hv hp hz hn hb hs ih=>exact .mk N h b (hc.ext hE hS) (fun a h=>Aq.ext (hcs a h) hE hS) (Aq.ext ha hE hS) (hv.ext hE hS) hp hz hn (hb.ext hE hS) ih
theorem StA.mono (hP:∀b,b<w.heap.size->P b->Q b)(hN:N<=M){s:St}(h:StA P N w s):StA Q M w s:=by
 unfold StA at *
 induction h generalizing M with
 | mk N h b hc hcs ha hv hp hz hn hb hs ih=>exact .mk M h b (hc.mono hP hN) (fun a h=>Aq.mono (hcs a h) hP hN) (Aq.mono ha hP hN) (hv.mono hP hN) (nt hp hN) (nt hz hN) (nt hn hN) (hb.mono hP hN) fun s hs=>ih s hs (Nat.sub_le_sub_right hN 1)
theorem StA.inn (hN:N<=1000000){s:St}(h:StA P N w s):Gb w s:=by
 unfold StA at h
 induction h with
 | mk N h b hc hcs ha hv hp hz hn hb hs ih=>exact .mk h b (hc.inn hN) (fun a h=>Aq.inn (hcs a h) hN) (Aq.inn ha hN) (hv.inn hN) (nt hp hN) (nt hz hN) (hb.inn hN) fun s hs=>ih s hs (by omega)
theorem StA.all {h:SH}{b:List St}(k:StA P N w (.mk h b)):Aq P N w h.cA 2 afC h.conds/\(∀a∈h.conds,AfA P N w a)/\AfA P N w h.at_/\ExA P N w h.val/\Ap h.val<=N/\h.var.size<=N/\Aq P N w h.A 21 stC b/\∀s∈b,StA P (N-1) w s:=by
 unfold StA at *;cases k;exact⟨by assumption,by assumption,by assumption,by assumption,by assumption,by assumption,by assumption,by assumption⟩
theorem StA.pos {s:St}(k:StA P N w s):1<=N:=by
 unfold StA at *;cases k;assumption
theorem BfA.ext {S:List Nat}(hE:Ext S w w')(hS:∀x∈S,¬P x){b:Bf}(h:BfA P N w b):BfA P N w' b:=⟨h.1.ext hE hS,h.2⟩
theorem BfA.mono (hP:∀b,b<w.heap.size->P b->Q b)(hN:N<=M){b:Bf}(h:BfA P N w b):BfA Q M w b:=⟨h.1.mono hP hN,nt h.2 hN⟩
theorem BfA.inn (hN:N<=1000000){b:Bf}(h:BfA P N w b):Abe w b:=⟨h.1.inn hN,nt h.2 hN⟩
theorem Rp (P:Nat->Prop)(N:Nat)(w:World)(b:Int)(A:Option Addr)(c:Nat):AfA P N w ⟨b,A,c,[]⟩:=Aq.nil ..
end
end
section
def TmR (w:World)(b:Nat)(ts:List (ByteArray×Int)):Prop:=∃cur,Blk w b 178 cur/\∀(i:Nat) (x:ByteArray×Int),ts[i]? = some x->cur[i*2]? = some (.string x.1)/\cur[i*2+1]? = some (.int .i64 x.2)
section
variable {w w':World} {b:Nat} {ts:List (ByteArray×Int)}
theorem TmR.ext (h:TmR w b ts){S:List Nat}(hE:Ext S w w')(hS:b∉S):TmR w' b ts:=by
 obtain⟨a1,h1,h2⟩:=h;exact⟨a1,h1.ext hE hS,h2⟩
theorem TmR.lt (h:TmR w b ts):b<w.heap.size:=by obtain⟨a1,h1,-⟩:=h;exact h1.lt
theorem TmR.fz (h:TmR w b ts)(i:Nat):w.frozen? ⟨b,i,none⟩=false:=by obtain⟨a1,h1,-⟩:=h;exact h1.frozen i
theorem TmR.at (h:TmR w b ts){i:Nat}(hi:i<ts.length):∃s k,ts[i]? = some (s,k)/\w.cell? ⟨b,i*2,none⟩=some (.string s)/\w.cell? ⟨b,i*2+1,none⟩=some (.int .i64 k):=by
 obtain⟨a1,h1,h2⟩:=h;obtain⟨e1,e2⟩:=h2 i _ (jJ hi);exact⟨_,_,jJ hi,(h1.cell _).trans e1,(h1.cell _).trans e2⟩
theorem TmR.set (h:TmR w b ts){j:Nat}(hj:j<ts.length)(x:ByteArray×Int):TmR ((w.setCell ⟨b,j*2,none⟩ (.string x.1)).setCell ⟨b,j*2+1,none⟩ x.2) b (ts.set j x):=by
 obtain⟨a7,h1,h2⟩:=h;obtain⟨e1,e2⟩:=h2 j _ (jJ hj);have a2:=(Array.getElem?_eq_some_iff.1 e1).1;have a6:=(Array.getElem?_eq_some_iff.1 e2).1;refine⟨_,(h1.set_ (j*2) (.string x.1)).set_ (j*2+1) (.int .i64 x.2),fun i y hy=>?_⟩
 rw[List.getElem?_set] at hy;by_cases a1:j=i
 ·subst a1;rw[ijp rfl,ijp hj] at hy;cases hy
  simp only[Array.getElem?_setIfInBounds,Array.size_setIfInBounds];constructor
  ·rw[ijn (by omega),ijp trivial,ijp a2]
  ·rw[ijp trivial,ijp a6]
 ·rw[ijn a1] at hy;obtain⟨f1,f2⟩:=h2 i y hy;simp only[Array.getElem?_setIfInBounds,Array.size_setIfInBounds];rw[ijn (by omega),ijn (by omega),ijn (by omega),ijn (by omega)];exact⟨f1,f2⟩
theorem TmR.seq (h:TmR w b ts){P:Nat->Prop}{N:Nat}(hl:ts.length<=N)(hP:P b):Aq P N w (some b) 2 tmC ts:=by
 refine⟨hl,.inr ⟨b,rfl,hP,h.lt,fun i x hx j v hv=>?_⟩⟩
 obtain⟨a1,h1,h2⟩:=h;obtain⟨e1,e2⟩:=h2 i x hx
 match j,hv with
 | 0,hv=>cases hv;exact(h1.cell _).trans e1
 | 1,hv=>cases hv;exact(h1.cell _).trans e2
theorem TmR.own {B n c:Nat}(h:w.ownsRow B 178 2 (.slice (some b) n c) n (ts.flatMap tmC)):TmR w b ts:=by
 obtain⟨hl,h⟩:=h;rcases h with⟨h,-⟩|⟨g,cap,a6,hv,hb,hg,h1,h2,h3,h4⟩
 ·cases h
 ·cases hv
  refine⟨a6,hg,fun i x hx=>?_⟩
  have a1:(ts.flatMap tmC)[i*2+0]? = some (.string x.1):=by rw[Di (s:=2) (fun _=>rfl) hx (by decide)];rfl
  have a2:(ts.flatMap tmC)[i*2+1]? = some (.int .i64 x.2):=by rw[Di (s:=2) (fun _=>rfl) hx (by decide)];rfl
  rw[<-h4,List.getElem?_take] at a1 a2;split at a1
  ·split at a2
   ·rw[Array.getElem?_toList] at a1 a2;exact⟨a1,a2⟩
   ·cases a2
  ·cases a1
end
set_option maxRecDepth 100000 in
theorem Ak4 (x y:ByteArray×Int)(w:World):Calls prog 199 #[tmV x,tmV y] w fun e w'=>∃r:Int,e=.returned (.int .i64 r)/\Ext [] w w':=by
 obtain⟨s,k⟩:=x;obtain⟨s',k'⟩:=y;unfold tmV;dsimp only;go_enter func199,ntmps199
 go_wp2_with fail
 all_goals
  go_ret
  exact⟨_,rfl,((jF [] w).alloc _).alloc _⟩
def Aeh (A:Option Addr)(ts:List (ByteArray×Int))(w:World)(e:Ending)(w':World):Prop:=e=.returned (.tuple #[])/\∃ts',ts'.length=ts.length/\((ts'=[]/\Ext [] w w')\/∃b,A=some ⟨b,0,none⟩/\TmR w' b ts'/\Ext [b] w w')
end
section
section
variable {P:Program} {ops:Array Oper} {S:Nat->Option Bc} {Q:Act->World->Prop} {k:Nat} {o:Oper} {rest:List Oper} {a:Act} {F:Nat->World->Prop} {w0:World}
theorem Aiz (hS:S k=some Ea)(hw:Region.wanted o (yielded ops a.tmps)=true)
  (hh:∃(f:FuncId) (a1:Array Value),(∀w,(execOp a.eval o).run P w=.ok (.enter f a1) w)/\∀w,Calls P f a1 w fun e w'=>∃r:Int,e=.returned (.int .i64 r)/\Ext [] w w')
  (h:∀x:Int,Bm P ops (JE w0) (Ext []) S Q (k+1) rest (a.put o.dst (.int .i64 x)) (upd F k (fun _=>True))):Bm P ops (JE w0) (Ext []) S Q k (o :: rest) a F:=by
 obtain⟨f,a1,hr,hu⟩:=hh;refine Je Ea hS hw ⟨f,a1,hr,fun w n' hJ _=>?_⟩ h
 refine(hu w).mono ?_
 rintro e w' ⟨r,rfl,hE⟩;exact⟨r,rfl,trivial,Ext.trans hJ hE,hE⟩
end
theorem Uy (n c:Nat)(N:Int)(A:Option Addr)(f:Value)(hn0:0<=N)(hn:N<=1)(w:World) :
  Calls prog 234 #[.slice A n c,(0:Int),N,f] w fun e w'=>e=.returned (.tuple #[])/\w=w':=by
 go_enter func234,ntmps234
 go_wp2
 go_loop [8] (fun i=>i=.int .i64 1) (fun i=>0)
 case atStart=>rfl
 case round=>
  subst hrel;have h1:¬(1<N):=by omega
  go_wp2
  exact bodyPost_end (results_none rfl _ _ _) rfl ⟨rfl,rfl⟩
theorem Wm {a:Nat}{x:Bc}{R:Nat->World->World->Prop}(hx:∀j,j≠a->∀u w w',R j w w'->x.V u w->x.V u w'):∀i s j,Bj [(a,x)] i=some s->j≠i->∀u w w',R j w w'->s.V u w->s.V u w':=fun i s j h hj=>by
 have hm:=Gl h;simp only[jE,Prod.mk.injEq,jH,or_false] at hm;obtain⟨rfl,rfl⟩:=hm;exact hx j hj
theorem Wn {w:World}{b i:Nat}{x:ByteArray×Int}{ts:List (ByteArray×Int)}(hx:ts[i]? = some x)(h:TmR w b ts):w.cell? ⟨b,i*2,none⟩=some (.string x.1)/\w.cell? ⟨b,i*2+1,none⟩=some (.int .i64 x.2):=by
 obtain⟨a1,h1,h2⟩:=h;obtain⟨e1,e2⟩:=h2 i x hx;exact⟨(h1.cell _).trans e1,(h1.cell _).trans e2⟩
set_option maxRecDepth 100000 in
theorem Uz (n c b:Nat)(ts:List (ByteArray×Int))(w:World)(hl:ts.length=n)(h2:2<=n)(hn:n<=12)(h:TmR w b ts) :
  Calls prog 234 #[.slice (some b) n c,(0:Int),n,.func (.func 199) #[] #[]] w fun e w'=>e=.returned (.tuple #[])/\∃a1,a1.length=n/\TmR w' b a1/\Ext [b] w w':=by
 have HT:=hd h;have HL:=hd hl;clear h hl;go_enter func234,ntmps234
 go_wp2_with fail
 go_loopw [8,9] (fun i j wr=>∃(k:Nat) (a1:List (ByteArray×Int)),i=.int .i64 k/\1<=k/\k<=n/\Hd (a1.length=n)/\Hd (TmR wr b a1)/\Hd (Ext [b] w wr)) (fun i _ _=>(n-intOf i).toNat)
 case atStart=>exact⟨1,ts,rfl,by omega,by omega,HL,HT,hd (jF _ _)⟩
 case round=>
  obtain⟨k,a1,rfl,aH,aI,am,an,ao⟩:=hrel;by_cases aK:k<n
  ·have hlt':(k:Int)<n:=by omega
   go_wp2_with fail
   rename World=>wq
   go_loopw [9] (fun j wr=>∃(m:Nat) (a1:List (ByteArray×Int)),j=.int .i64 m/\m<=k/\Hd (a1.length=n)/\Hd (TmR wr b a1)/\Hd (Ext [b] w wr)) (fun j _=>(intOf j).toNat)
   case atStart=>exact⟨k,a1,rfl,jD _,am,an,ao⟩
   case round=>
    obtain⟨m,ac,rfl,aJ,a6,a7,ap⟩:=hrel;by_cases ax:m=0
    ·subst ax;have h0:(0<(0:Int))=False:=by simp
     go_wp2_with fail
     go_quiet (fail)
     go_wp2_with fail
     go_roundw
     case rel=>exact⟨k+1,ac,by go_num,by omega,by omega,a6,a7,hd (ap.o.drewN _)⟩
     case measure=>simp[intOf];omega
    ·obtain⟨p,aq⟩:∃p,p+1=m:=⟨m-1,by omega⟩;have hp:decide (0<m)=true:=decide_eq_true (by omega);have aD:(m:Int)<n:=by omega
     have ay:(p:Int)<n:=by omega
     have aE:(m:Int)-1=(p:Int):=by omega
     have ad:=hd aq;clear aq ax;go_wp2_with fail
     refine Dz 17 (JE _) (Ext []) (Bj [(14,Ea)]) (by kernel_rfl) (by kernel_rfl) JE.less ?_ JE.start ?_
     ·exact Am.cons Ea.stays Am.nil
     simp only[TK];obtain⟨s1,k1,au,-,-⟩:=a7.o.at (i:=m) (by rw[a6.o];omega);obtain⟨s0,k0,aw,-,-⟩:=a7.o.at (i:=p) (by rw[a6.o];have:=ad.o;omega);have ai:=hd au;have aj:=hd aw;have ak:=hd (fun W (hW:Ext [] wr W)=>And.intro (a7.o.ext hW (by simp)).lt (And.intro (Wn ai.o (a7.o.ext hW (by simp))) (Wn aj.o (a7.o.ext hW (by simp)))));clear au aw
     repeat(refine dE (fun wr nr hJ=>by(have hc:=ak.o wr hJ;have af:=hc.1;have a8:=hc.2.1;have aa:=hc.2.2;clear hc;obtain⟨c1,c2⟩:=a8;obtain⟨c3,c4⟩:=aa);clear hJ;exact CL) ?_;simp only[PT])
     refine Aiz rfl rfl ?_ ?_
     ·refine EC fun wr=>?_
      exact Ak4 (s1,k1) (s0,k0) wr
     intro (r:Int);simp only[PT]
     repeat(refine dE (fun wr nr hJ=>by clear hJ;exact CL) ?_;simp only[PT])
     refine Ak (fun wy hJ hF=>?_)
     have al:=hd (ap.o.trans (Ext.nil hJ));have ab:=hd (a7.o.ext hJ (by simp));clear hJ hF ak;by_cases hr:r<0
     ·have az:decide (r<0)=true:=decide_eq_true hr;go_wp2_with fail
      refine rgA 16 15 [b] [(15,⟨Unit,(),fun _=>undef,fun _ w=>TmR w b (ac.set m (s0,k0))⟩)] rfl (by simp[Bj]) (fun oi h=>by cases h;rfl) ?_ ?_
      ·exact Wm fun j hj u w w' hR h=>h.ext (hR.pre hj) (by simp)
      simp only[TK];have ae:=hd (fun W (hW:Ext [] wy W)=>And.intro (ab.o.ext hW (by simp)).lt (And.intro (Wn ai.o (ab.o.ext hW (by simp))) (Wn aj.o (ab.o.ext hW (by simp)))))
      repeat(refine dEU (fun wr nr hg hJ=>by(clear hg);clear hJ;exact CL) ?_;simp only[PT])
      refine dEU (fun wr nr hg hJ=>by(have hA:=hJ.pre (hg.later 15 (by kernel_rfl));have hc:=ae.o wr hA;have af:=hc.1;have a8:=hc.2.1;have aa:=hc.2.2;clear hc hA;obtain⟨c1,c2⟩:=a8;obtain⟨c3,c4⟩:=aa);clear hJ;exact CL) ?_
      simp only[PT]
      repeat(refine dEU (fun wr nr hg hJ=>by(clear hg);clear hJ;exact CL) ?_;simp only[PT])
      refine dEU (fun wr nr hg hJ=>by(have hA:=hJ.pre (hg.later 15 (by kernel_rfl));have hc:=ae.o wr hA;have af:=hc.1;have a8:=hc.2.1;have aa:=hc.2.2;clear hc hA;obtain⟨c1,c2⟩:=a8;obtain⟨c3,c4⟩:=aa);clear hJ;exact CL) ?_
      simp only[PT]
      repeat(refine dEU (fun wr nr hg hJ=>by(clear hg);clear hJ;exact CL) ?_;simp only[PT])
      refine Dd _ rfl rfl (fun _=>rfl) (fun w12 r12 hg hJ hf=>?_) ?_
      ·have hA:=hJ.pre hg.mine;have hT:=ab.o.ext hA (by simp);have HS:=hd (hT.set (j:=m) (by rw[a6.o];omega) (s0,k0));have hE:Ext [b] w12 ((w12.setCell ⟨b,m*2,none⟩ (.string s0)).setCell ⟨b,m*2+1,none⟩ k0):=jL (.inl (by simp)) (jL (.inl (by simp)) (jF _ _));refine⟨(),(w12.setCell ⟨b,m*2,none⟩ (.string s0)).setCell ⟨b,m*2+1,none⟩ k0,?_,HS.o,hJ.app hE,by unfold RA1;rw[ijp rfl];exact hE⟩
       have hc:=ae.o w12 hA;have af:=hc.1;obtain⟨c1,c2⟩:=hc.2.1;have aF:=hT.fz (m*2);have aG:=hT.fz (m*2+1);clear hc hA hT hE hJ hf hg;go_simp
      rintro⟨⟩;simp only[PT];refine Cp (fun w13 r13 hr hJ hF=>?_)
      have hT:TmR w13 b (ac.set m (s0,k0)):=hF 15;have aA:=hd hT;have ag:=hd (al.o.trans hJ.all);have a2:p<(ac.set m (s0,k0)).length:=by rw[List.length_set,a6.o];have:=ad.o;omega
      have aB:=hd (hT.set (j:=p) a2 (s1,k1));have aC:=hd (ag.o.trans (jL (b:=b) (i:=p*2+1) (u:=.int .i64 k1) (.inl (by simp)) (jL (b:=b) (i:=p*2) (u:=.string s1) (.inl (by simp)) (jF [b] w13))));obtain⟨s9,k9,-,c5,c6⟩:=hT.at a2;have c7:=hT.fz (p*2);have c8:=hT.fz (p*2+1);have c9:=hT.lt;clear hJ hF hr hT a2 ae;go_wp2_with fail
      go_roundw
      case rel=>exact⟨p,_,by go_num,by have:=ad.o;omega,hd (by rw[List.length_set,List.length_set];exact a6.o),aB,aC⟩
      case measure=>simp[intOf];have:=ad.o;omega
     ·have az:decide (r<0)=false:=decide_eq_false hr;go_wp2_with fail
      go_roundw
      case rel=>exact⟨k+1,ac,by go_num,by omega,by omega,a6,ab,al⟩
      case measure=>simp[intOf];omega
  ·have ah:k=n:=by omega
   subst ah;go_wp2_with fail
   exact bodyPost_end (results_none rfl _ _ _) rfl ⟨rfl,a1,am.o,an.o,ao.o⟩
end
def Acy:Value:=.func (.func 199) #[] #[]
theorem Va (n c:Nat)(A:Option Addr)(ts:List (ByteArray×Int))(w:World)(hl:ts.length=n)(hn:n<=12)(h:ts=[]\/∃b,A=some ⟨b,0,none⟩/\TmR w b ts) :
  Calls prog 234 #[.slice A n c,(0:Int),n,Acy] w (Aeh A ts w):=by
 by_cases h2:2<=n
 ·rcases h with rfl|⟨b,rfl,hT⟩
  ·simp at hl;omega
  ·refine(Uz n c b ts w hl h2 hn hT).mono ?_
   rintro e w' ⟨rfl,a1,h1,h3,h4⟩;exact⟨rfl,a1,by omega,.inr ⟨b,rfl,h3,h4⟩⟩
 ·refine(Uy n c n A Acy (by omega) (by omega) w).mono ?_
  rintro e w' ⟨rfl,rfl⟩;refine⟨rfl,ts,rfl,?_⟩
  rcases h with h|⟨b,h1,h3⟩
  ·exact .inl ⟨h,jF _ _⟩
  ·exact .inr ⟨b,h1,h3,jF _ _⟩
set_option maxRecDepth 100000 in
theorem Ak5 (n c:Nat)(A:Option Addr)(ts:List (ByteArray×Int))(k:Int)(w:World)(hl:ts.length=n)(hn:n<=12)(h:ts=[]\/∃b,A=some ⟨b,0,none⟩/\TmR w b ts) :
  Calls prog 226 #[.slice A n c,(0:Int),n,k,Acy] w (Aeh A ts w):=by
 have HI:=hd (Va n c A ts w hl hn h);have a1:(n:Int)<=12:=by omega
 clear hl h;unfold Acy at *;go_enter func226,ntmps226
 go_wp2_with fail
 go_loop [1,2,3,10,11] (fun a b l x y=>a=.int .i64 0/\b=.int .i64 n) (fun _ _ _ _ _=>0)
 case atStart=>exact⟨rfl,rfl⟩
 case round=>
  obtain⟨rfl,rfl⟩:=hrel;go_wp2_with fail
  refine HI.o.mono ?_
  rintro e w' ⟨rfl,hs⟩;have HS:=hd hs;clear hs;go_wp2_with fail
  exact bodyPost_ret (results_none rfl _ _ _) rfl ⟨rfl,HS.o⟩
set_option maxRecDepth 100000 in
theorem Ak6 (n:Nat)(hn:n<=4)(w:World):Calls prog 118 #[.int .u64 n] w fun e w'=>(∃k:Int,e=.returned (.int .i64 k))/\w=w':=by
 have h:n=0\/n=1\/n=2\/n=3\/n=4:=by omega
 rcases h with rfl|rfl|rfl|rfl|rfl
 all_goals
  go_enter func118,ntmps118
  go_wp2
  go_ret
  exact⟨⟨_,rfl⟩,rfl⟩
set_option maxRecDepth 100000 in
theorem Agb (n c:Nat)(A:Option Addr)(ts:List (ByteArray×Int))(w:World)(hl:ts.length=n)(hn:n<=4)(h:ts=[]\/∃b,A=some ⟨b,0,none⟩/\TmR w b ts) :
  Calls prog 198 #[.slice A n c,Acy] w (Aeh A ts w):=by
 have HP:=hd (fun k=>Ak5 n c A ts k w hl (by omega) h);have HL:=hd (Ak6 n hn w);clear hl h;unfold Acy at *;have h:n=0\/n=1\/n=2\/n=3\/n=4:=by omega
 rcases h with rfl|rfl|rfl|rfl|rfl
 all_goals
  go_enter func198,ntmps198
  go_wp2_with fail
  refine HL.o.mono ?_
  rintro e w' ⟨⟨k,rfl⟩,rfl⟩;go_wp2_with fail
  refine(HP.o k).mono ?_
  rintro e w' ⟨rfl,hs⟩;have HS:=hd hs;clear hs;go_wp2_with fail
  exact bodyPost_end (results_none rfl _ _ _) rfl ⟨rfl,HS.o⟩
section
theorem Aax {w:World}{B e s n:Nat}{v:Value}{l:List Value}(h:w.ownsRow B e s v n l){g:Nat}(hg:v.ownBlock=some g):∃C,Blk w g e C:=by
 rcases h.2 with⟨h1,_⟩|⟨g',cap,a1,h1,_,h3,_⟩
 ·rw[h1] at hg;cases hg
 ·rw[h1] at hg;cases hg;exact⟨a1,h3⟩
theorem Cb {w:World}{B e s n:Nat}{v:Value}{l:List Value}(h:w.ownsRow B e s v n l){b:Nat}{t:TypeId}{C:Array Value}(hb:Blk w b t C)(ht:e≠t):∀g,v.ownBlock=some g->g≠b:=fun g hg e1=>by
 obtain⟨D,hD⟩:=Aax h hg;rw[e1] at hD;exact ht (hD.type hb)
theorem Stm.blk {w:World}{base g n:Nat}(h:Stm w base g n):∃C,Blk w g 25 C:=by
 obtain⟨A,len,cap,k,hB,-⟩:=h;exact⟨_,hB⟩
def Dj (g:Nat)(bA:Option Addr)(nb bc:Nat)(V:Value)(cnt:Int):Array Value:=#[.pointer (some g),.slice bA nb bc,.slice none 0 0,V,.int .i64 cnt]
structure Bld (w:World)(base g pb n:Nat)(bA:Option Addr)(bc:Nat)(bs:List Bf)(V:Value)(l:List St)(cnt:Int):Prop where
 stm:Stm w base g n
 blk:Blk w pb 188 (Dj g bA bs.length bc V cnt)
 bpb:base<=pb
 buf:w.ownsRow base 45 4 (.slice bA bs.length bc) bs.length (bs.flatMap bfC)
 row:w.ownsRow base 43 21 V l.length (l.flatMap stC)
 bne:1<=bs.length
 b9:bs.length<=9
 bsz:∀b∈bs,1<=b.size/\b.size<=1000
 l3:l.length<=3
section
variable {w w':World} {base g pb n m bc:Nat} {bA:Option Addr} {bs:List Bf} {V:Value} {l:List St} {cnt:Int}
theorem Bld.pg (h:Bld w base g pb n bA bc bs V l cnt):pb≠g:=fun e=>by
 obtain⟨C,hC⟩:=h.stm.blk;rw[<-e] at hC;exact absurd (hC.type h.blk) (by decide)
theorem Bld.draw (h:Bld w base g pb n bA bc bs V l cnt)(hE:Ext [g] w w')(hS:Stm w' base g m):Bld w' base g pb m bA bc bs V l cnt:=by
 obtain⟨C,hC⟩:=h.stm.blk;refine⟨hS,h.blk.ext hE (by rw[jA];exact h.pg),h.bpb,Ah h.buf hE fun q hq=>?_,Ah h.row hE fun q hq=>?_,h.bne,h.b9,h.bsz,h.l3⟩
 ·rw[jA];exact Cb h.buf hC (by decide) q hq
 ·rw[jA];exact Cb h.row hC (by decide) q hq
theorem Bld.grow (h:Bld w base g pb n bA bc bs V l cnt)(hE:Ext [] w w'):Bld w' base g pb n bA bc bs V l cnt:=
 ⟨h.stm.ext hE (by simp) (by simp),h.blk.ext hE (by simp),h.bpb,Ah h.buf hE (by simp),Ah h.row hE (by simp),h.bne,h.b9,h.bsz,h.l3⟩
theorem Bld.less (h:Bld w base g pb n bA bc bs V l cnt)(hm:m<=n):Bld w base g pb m bA bc bs V l cnt:=⟨h.stm.less hm,h.blk,h.bpb,h.buf,h.row,h.bne,h.b9,h.bsz,h.l3⟩
theorem Cw (s:St):(stC s).length=21:=by cases s;rfl
theorem Pj (b:Bf):(bfC b).length=4:=rfl
theorem Bld.at (h:Bld w base g pb n bA bc bs V l cnt){i:Nat}(hi:i<l.length):∃va vc s,V=.slice (some ⟨va,0,none⟩) l.length vc/\va<w.heap.size/\l[i]? = some s/\∀(j:Nat) (v:Value),(stC s)[j]? = some v->w.cell? ⟨va,i*21+j,none⟩=some v:=by
 obtain⟨A,c,rfl,-,a1⟩:=Be h.row;obtain⟨q,rfl,-,hq⟩:=a1 (by omega);have hs:l[i]? = some l[i]:=jJ hi;refine⟨q,c,_,rfl,hq,hs,fun j v hv=>Cz h.row rfl ?_⟩
 have hj:=(ils hv).1;rw[Cw] at hj;rw[Di Cw hs hj];exact hv
theorem Bld.bufAt (h:Bld w base g pb n bA bc bs V l cnt){i:Nat}(hi:i<bs.length):∃q b,bA=some ⟨q,0,none⟩/\q<w.heap.size/\bs[i]? = some b/\∀(j:Nat) (v:Value),(bfC b)[j]? = some v->w.cell? ⟨q,i*4+j,none⟩=some v:=by
 obtain⟨A,c,hv,-,a1⟩:=Be h.buf;cases hv
 obtain⟨q,rfl,-,hq⟩:=a1 (by omega);have hs:bs[i]? = some bs[i]:=jJ hi;refine⟨q,_,rfl,hq,hs,fun j v hv=>Cz h.buf rfl ?_⟩
 have hj:=(ils hv).1;rw[Pj] at hj;rw[Di Pj hs hj];exact hv
end
def Ak7 (base g n:Nat)(w:World)(e:Ending)(w':World):Prop:=∃a:Af,e=.returned (afV a)/\AfA (fun b=>w.heap.size<=b) 4 w' a/\Ext [g] w w'/\Stm w' base g n
theorem Acz:∃i,prog.info? 178=some i/\i.zero=some (.agg #[.string ⟨#[]⟩,(0:Int)])/\i.size=2/\i.bytes=24:=info_parts (show((prog).info? 178).map (fun i=>(i.zero,i.size,i.bytes))=some (some (.agg #[.string ⟨#[]⟩,(0:Int)]),2,24) by kernel_rfl)
structure Kj (w:World)(base g pb n:Nat)(bA:Option Addr)(bc:Nat)(bs:List Bf)(V:Value)(l:List St)(cnt:Int)(rb ab:Nat)(x:Int)(v:Value)(ts:List (ByteArray×Int))(wx:World):Prop where
 ext:Ext [g] w wx
 bld:Bld wx base g pb n bA bc bs V l cnt
 res:Blk wx rb 38 #[(0:Int),.slice none 0 0]
 blk:Blk wx ab 38 #[x,v]
 own:wx.ownsRow w.heap.size 178 2 v ts.length (ts.flatMap tmC)
 rb0:w.heap.size<=rb
 ab0:w.heap.size<=ab
 rab:rb≠ab
 g0:g<w.heap.size
section
variable {w wx wy:World} {base g pb n m bc:Nat} {bA:Option Addr} {bs:List Bf} {V:Value} {l:List St} {cnt:Int} {rb ab:Nat} {x:Int} {v:Value} {ts:List (ByteArray×Int)}
theorem Kj.draw (h:Kj w base g pb n bA bc bs V l cnt rb ab x v ts wx)(hE:Ext [g] wx wy)(hS:Stm wy base g m):Kj w base g pb m bA bc bs V l cnt rb ab x v ts wy:=
 ⟨h.ext.trans hE,h.bld.draw hE hS,h.res.ext hE (by have:=h.rb0;have:=h.g0;rw[jA];omega),h.blk.ext hE (by have:=h.ab0;have:=h.g0;rw[jA];omega),
  Ah h.own hE fun q hq=>by have:=Ae h.own q hq;have:=h.g0;rw[jA];omega,h.rb0,h.ab0,h.rab,h.g0⟩
theorem Kj.grow (h:Kj w base g pb n bA bc bs V l cnt rb ab x v ts wx)(hE:Ext [] wx wy):Kj w base g pb n bA bc bs V l cnt rb ab x v ts wy:=
 ⟨h.ext.trans hE.nil,h.bld.grow hE,h.res.ext hE (by simp),h.blk.ext hE (by simp),Ah h.own hE (by simp),h.rb0,h.ab0,h.rab,h.g0⟩
theorem Kj.less (h:Kj w base g pb n bA bc bs V l cnt rb ab x v ts wx)(hm:m<=n):Kj w base g pb m bA bc bs V l cnt rb ab x v ts wx:=⟨h.ext,h.bld.less hm,h.res,h.blk,h.own,h.rb0,h.ab0,h.rab,h.g0⟩
theorem Bld.far {S:List Nat}{w0:World}(h:Bld wx base g pb n bA bc bs V l cnt)(hE:Ext S wx wy)(h0:Bld w0 base g pb m bA bc bs V l cnt)(hS:∀q∈S,w0.heap.size<=q):Bld wy base g pb n bA bc bs V l cnt:=by
 have hb:∀q∈S,base<=q:=fun q hq=>by have:=hS q hq;have:=h0.blk.lt;have:=h0.bpb;omega
 refine⟨h.stm.ext hE (fun hm=>by have:=hS _ hm;have:=h0.stm.lt;omega) hb,h.blk.ext hE (fun hm=>by have:=hS _ hm;have:=h0.blk.lt;omega),h.bpb,Ah h.buf hE fun q hq hm=>?_,Ah h.row hE fun q hq hm=>?_,h.bne,h.b9,h.bsz,h.l3⟩
 ·have:=hS _ hm;have:=(h0.buf.lt q hq).2;omega
 ·have:=hS _ hm;have:=(h0.row.lt q hq).2;omega
theorem Kj.far {S:List Nat}(h:Kj w base g pb n bA bc bs V l cnt rb ab x v ts wx)(h0:Bld w base g pb m bA bc bs V l cnt)(hE:Ext S wx wy)(hS:∀q∈S,w.heap.size<=q):Ext [g] w wy/\Bld wy base g pb n bA bc bs V l cnt:=
 ⟨h.ext.step hE fun q hq=>.inr (hS q hq),h.bld.far hE h0 hS⟩
theorem Kj.base' (h:Kj w base g pb n bA bc bs V l cnt rb ab x v ts wx)(h0:Bld w base g pb m bA bc bs V l cnt)(y:Int):Kj w base g pb n bA bc bs V l cnt rb ab y v ts (wx.setCell ⟨ab,0,none⟩ y):=by
 have hE:Ext [ab] wx (wx.setCell ⟨ab,0,none⟩ y):=jL (.inl (by simp)) (jF _ _);obtain⟨h1,h2⟩:=h.far h0 hE (fun q hq=>by rw[jA.1 hq];exact h.ab0);exact⟨h1,h2,h.res.ext hE (by rw[jA];exact h.rab),h.blk.set_' 0 _ _ rfl,Ah h.own hE fun q hq=>by rw[jA];exact Cb h.own h.blk (by decide) q hq,h.rb0,h.ab0,h.rab,h.g0⟩
theorem Kj.terms (h:Kj w base g pb n bA bc bs V l cnt rb ab x v ts wx)(h0:Bld w base g pb m bA bc bs V l cnt){S:List Nat}(hE:Ext S wx wy)(hS:∀q∈S,v.ownBlock=some q){u:Value}{us:List (ByteArray×Int)}
  (hO:wy.ownsRow w.heap.size 178 2 u us.length (us.flatMap tmC)):Kj w base g pb n bA bc bs V l cnt rb ab x u us (wy.setCell ⟨ab,1,none⟩ u):=by
 have a1:Ext [ab] wy (wy.setCell ⟨ab,1,none⟩ u):=jL (.inl (by simp)) (jF _ _);have a2:∀q∈S,w.heap.size<=q:=fun q hq=>Ae h.own q (hS q hq)
 obtain⟨h1,h2⟩:=h.far h0 hE a2;have hb:Blk wy ab 38 #[x,v]:=h.blk.ext hE fun hm=>Cb h.own h.blk (by decide) _ (hS _ hm) rfl
 have hr:Blk wy rb 38 #[(0:Int),.slice none 0 0]:=h.res.ext hE fun hm=>Cb h.own h.res (by decide) _ (hS _ hm) rfl
 exact⟨h1.step a1 fun q hq=>.inr (by rw[jA.1 hq];exact h.ab0),h2.far a1 h0 (fun q hq=>by rw[jA.1 hq];exact h.ab0),hr.ext a1 (by rw[jA];exact h.rab),hb.set_' 1 _ _ rfl,
  Ah hO a1 fun q hq=>by rw[jA];exact Cb hO hb (by decide) q hq,h.rb0,h.ab0,h.rab,h.g0⟩
end
set_option maxRecDepth 100000 in
theorem Mv (base g pb n bc:Nat)(bA:Option Addr)(bs:List Bf)(V:Value)(l:List St)(cnt size:Int)(w:World)(h:Bld w base g pb (n+10) bA bc bs V l cnt)(hsz : -1000000<=size/\size<=1000000) :
  Calls prog 153 #[.pointer (some pb),size] w (Ak7 base g n w):=by
 unfold Ak7;obtain⟨mx,bx⟩:∃m:Int,max size 1=m:=⟨_,rfl⟩;have b4:mx<=1000000:=by omega
 have HD:=hd h;have ai:=hd h.l3;obtain⟨VA,vc,rfl,-,-⟩:=Be h.row;clear h;go_enter func153,ntmps153
 go_upto_region 1 with fail
 have ay:=hd ((jF [] w).alloc (.cells #[(0:Int),.slice none 0 0] 38));have aM:=hd (jK w 38 #[(0:Int),.slice none 0 0]);have al:=hd (HD.o.grow ay.o);generalize World.alloc w _=w1 at *;have qp:=al.o.blk.cell;have aa:=al.o.blk.lt;unfold Dj at qp;go_wp2_with fail
 refine(Ce base g (n+9) _ _ al.o.stm (by omega)).mono ?_
 rintro e w2 ⟨r,rfl,_,hE,hS⟩;have az:=hd (ay.o.nil.trans hE);have aN:=hd (al.o.draw hE hS);have aA:=hd (aM.o.ext hE (by rw[jA];have:=HD.o.stm.lt;omega));clear hE hS qp aa al aM ay;go_upto_region 2 with fail
 have am:Hd (Kj w base g pb (n+9) bA bc bs (.slice VA l.length vc) l cnt w.heap.size w2.heap.size r (.slice none 0 0) [] (w2.alloc (.cells #[r,.slice none 0 0] 38))):=hd (by
  have h1:Ext [] w2 (w2.alloc (.cells #[r,.slice none 0 0] 38)):=(jF _ _).alloc _;exact⟨az.o.trans h1.nil,aN.o.grow h1,aA.o.ext h1 (by simp),jK _ _ _,Ca _ _ _ _,jD _,az.o.size,by have:=aA.o.lt;omega,HD.o.stm.lt⟩)
 generalize World.alloc w2 _=w3 at *;generalize w2.heap.size=ab at *;generalize b1:w.heap.size=rb at *;have aB:=hd b1;clear b1 az aN aA;have qp:=am.o.bld.blk.cell;have aa:=am.o.bld.blk.lt;unfold Dj at qp;go_upto_if 21 with(go_at_call 13;refine(Gt base g (n+8) _ _ am.o.bld.stm (by omega)).mono ?_;rintro e w4 ⟨fl,rfl,hE,hS⟩)
 have aj:=hd (am.o.draw hE hS);clear hE hS am qp aa;go_cut [] (fun wx=>∃x:Int,Hd (Kj w base g pb (n+8) bA bc bs (.slice VA l.length vc) l cnt rb ab x (.slice none 0 0) [] wx))
 case first=>
  cases fl
  ·go_wp2_with fail
   go_meet
   exact⟨_,aj⟩
  ·have qa:=aj.o.blk.cell;have aC:=aj.o.blk.frozen;have af:=aj.o.blk.lt;go_wp2_with fail
   go_meet
   exact⟨0,hd (aj.o.base' HD.o 0)⟩
 case rest=>
  obtain⟨x0,aK⟩:=hcut;have qp:=aK.o.bld.blk.cell;have aa:=aK.o.bld.blk.lt;unfold Dj at qp;go_wp2_with fail
  clear qp aa aj;go_loopw [28] (fun i wr=>∃(k:Nat) (x:Int) (v:Value) (ts:List (ByteArray×Int)),i=.int .i64 k/\k<=l.length/\ts.length<=k/\Hd (Kj w base g pb (n+2+2*(3-k)) bA bc bs (.slice VA l.length vc) l cnt rb ab x v ts wr)) (fun i _=>(l.length-intOf i).toNat)
  case atStart=>exact⟨0,x0,_,[],rfl,jQ _,jD _,hd (aK.o.less (by omega))⟩
  case round=>
   obtain⟨k,x,v,ts,rfl,hk,aW,HA⟩:=hrel;by_cases b2:k<l.length
   ·have b5:(k:Int)<(l.length:Int):=by omega
    have ao:=hd b2;go_upto_block 1 with fail
    go_cut [] (fun wx=>∃(x:Int) (v:Value) (ts:List (ByteArray×Int)),ts.length<=k+1/\Hd (Kj w base g pb (n+2+2*(3-(k+1))) bA bc bs (.slice VA l.length vc) l cnt rb ab x v ts wx))
    case first=>
     obtain⟨va,bz,s,hV,bB,hx,hc⟩:=HA.o.bld.at b2;cases hV
     obtain⟨h,ae⟩:=s;have HW:=hd (fun j v hv=>hc j v hv:∀(j:Nat) (v:Value),(Ai h ae.length h.val.h h.val.ks.length).toList[j]? = some v->wr.cell? ⟨va,k*21+j,none⟩=some v);have aO:=hd (jK wr 43 (Ai h ae.length h.val.h h.val.ks.length));have ak:=hd (HA.o.grow ((jF [] wr).alloc (.cells (Ai h ae.length h.val.h h.val.ks.length) 43)));obtain⟨a0,a1,a2,a3,a4,a5,a6,a7,-⟩:=Ch h ae.length h.val.h h.val.ks.length;have aD:=hd (show(prog.info? 43).map (·.size)=some (Ai h ae.length h.val.h h.val.ks.length).size from Dx);have aP:=hd (show zSt.size=(Ai h ae.length h.val.h h.val.ks.length).size from rfl);have aQ:=hd (Da h ae.length h.val.h h.val.ks.length);clear hx hc;generalize Ai h ae.length h.val.h h.val.ks.length=arr at *
     go_upto_region 7 with(first
      | refine Ac rfl 43 _ rfl va (k*21) rfl arr HW.o _ underlying43 rfl aD.o ?_
      | refine Av rfl rfl 43 _ _ rfl rfl zSt (Fy _) arr rfl rfl aD.o aP.o aQ.o ?_)
     have bn:rb<=wr.heap.size:=by rw[<-aB.o];exact HA.o.ext.size
     have bo:=HA.o.blk.lt;have bp:=HA.o.res.lt;generalize World.alloc wr _=w6 at *;generalize wr.heap.size=fb at *;clear HA HW aD aP aQ;have qp:=ak.o.bld.blk.cell;have aa:=ak.o.bld.blk.lt;unfold Dj at qp;go_upto_if 36 with(go_at_call 13;refine(Gt base g (n+2+2*(3-(k+1))+1) _ _ (ak.o.bld.stm.less (by have:=ai.o;omega)) (by omega)).mono ?_;rintro e w7 ⟨fl,rfl,hE,hS⟩)
     have ag:=hd (ak.o.draw hE hS);have aR:=hd (aO.o.ext hE (by have:=ak.o.g0;rw[aB.o] at this;rw[jA];omega));clear hE hS ak aO qp aa;cases fl
     ·go_wp2_with fail
      go_meet
      exact⟨x,v,ts,by omega,hd (ag.o.less (by have:=ai.o;omega))⟩
     ·have qp:=ag.o.bld.blk.cell;have aa:=ag.o.bld.blk.lt;unfold Dj at qp;have aE:=hd (jK w7 3 (Cq [1,1,1,2,-1]));have ap:=hd (ag.o.grow ((jF [] w7).alloc (.cells (Cq [1,1,1,2,-1]) 3)));have aF:=hd (aR.o.alloc (.cells (Cq [1,1,1,2,-1]) 3));have bq:g<w7.heap.size:=ag.o.bld.stm.lt;simp only[Cq,List.map_cons,List.map_nil] at aE ap aF;go_wp2_with fail
      refine(Cf base g (n+2+2*(3-(k+1))) w7.heap.size 5 3 [1,1,1,2,-1] _ ap.o.bld.stm aE.o (by have:=ai.o;omega) (by decide)).mono ?_
      rintro e w9 ⟨r,rfl,hr,hE,hS⟩;have ac:=hd (ap.o.draw hE hS);have aq:=hd (aF.o.ext hE (by have:=ag.o.g0;rw[aB.o] at this;rw[jA];omega));clear hE hS ap aF aE ag aR qp aa hr;obtain⟨i0,bi,bj,bk,bl⟩:=Acz;have qb:=aq.o.cell;have aS:=aq.o.lt;have qa:=ac.o.blk.cell;have af:=ac.o.blk.lt;have b6:=hd (jK w9 178 #[.string h.var,r]);have b7:w.heap.size<=w9.heap.size:=ac.o.ext.size;have br:ts.length+1<=4:=by have:=ai.o;omega
      go_upto_region 10 with(
       refine wpList_append_lies _ rfl _ _ 36 rfl w.heap.size 178 i0 _ 2 24 underlying36 bi bj bk bl rfl (by decide) v ts.length (ts.flatMap tmC) rfl ?c0 ⟨w9.heap.size,0,none⟩ 1 1 [.string h.var,.int .i64 r] rfl rfl ?c1 ?c2 (by omega) ?c3 ?c4 ?c5 _ rfl ?_
       case c0=>exact Ah ac.o.own ((jF [] w9).alloc _) (by simp)
       case c1=>intro j u hj;rw[Addr.add_mk,Nat.zero_add,b6.o.cell,<-Array.getElem?_toList];exact hj
       case c2=>intro u hu;simp only[jE,jH,or_false] at hu;rcases hu with rfl|rfl<;>rfl
       case c3=>unfold maxLen;omega
       case c4=>omega
       case c5=>exact nt b7 ((jF [] w9).alloc _).size
       intro g8 c8 w10 ho8 hg8 hi8 ha8;have ah:Hd (Ext v.ownBlock.toList w9 w10):=hd (((jF _ w9).alloc _).grown hg8 fun q hq=>.inl (jC.2 hq));have a8:=hd (ac.o.terms HD.o ah.o (fun q hq=>jC.1 hq) (u:=.slice (some g8) (ts.length+1) c8) (us:=ts ++ [(h.var,r)]) (by rw[jG,List.flatMap_append];exact ho8));have aG:=hd (aq.o.ext ah.o fun hm=>Cb ac.o.own aq.o (by decide) _ (jC.1 hm) rfl);have an:=hd (aG.o.ext (jL (b:=ab) (i:=1) (u:=.slice (some g8) (ts.length+1) c8) (.inl (by simp)) (jF [ab] w10)) (by rw[jA];omega));have ad:Blk w10 ab 38 #[x,v]:=ac.o.blk.ext ah.o fun hm=>Cb ac.o.own ac.o.blk (by decide) _ (jC.1 hm) rfl
       have qa:=ad.cell;have aC:=ad.frozen;have af:=ad.lt;clear ho8 hg8 hi8 ha8 ad)
      generalize World.setCell w10 _ _=w11 at *;clear qa aC af qb aS;by_cases b3:r<0
      ·have b8:decide (r<0)=true:=decide_eq_true b3;have qb:=an.o.cell;have aS:=an.o.lt;have qa:=a8.o.blk.cell;have aC:=a8.o.blk.frozen;have af:=a8.o.blk.lt;go_wp2_with fail
       go_meet
       exact⟨_,_,_,by rw[jG];exact Nat.succ_le_succ aW,hd (a8.o.base' HD.o _)⟩
      ·have b8:decide (r<0)=false:=decide_eq_false b3;go_wp2_with fail
       go_meet
       exact⟨_,_,_,by rw[jG];exact Nat.succ_le_succ aW,a8⟩
    case rest=>
     obtain⟨x2,v2,bm,aL,a8⟩:=hcut;have bt:k<4:=by have:=ao.o;have:=ai.o;omega
     have aT:=ao.o;go_wp2_with fail
     go_roundw
     case rel=>exact⟨k+1,x2,v2,bm,by go_num,by have:=ao.o;omega,aL,a8⟩
     case measure=>simp[intOf];have:=ao.o;omega
   ·have aT:k=l.length:=by omega
    subst aT;have aH:ts.length<=4:=by have:=ai.o;omega
    have qa:=HA.o.blk.cell;have af:=HA.o.blk.lt;obtain⟨TA,tc,rfl,-,aX⟩:=Be HA.o.own
    have aI:=hd (Agb ts.length tc TA ts wr rfl aH (by
     by_cases h0:ts=[]
     ·exact .inl h0
     ·obtain⟨q,rfl,-,-⟩:=aX (List.length_pos_iff.2 h0);exact .inr ⟨q,rfl,TmR.own HA.o.own⟩))
    unfold Acy Aeh at aI;clear aX;go_wp2_with fail
    refine aI.o.mono ?_
    rintro e w5 ⟨rfl,aZ,b0,hs⟩
    have HX:Hd (∃S:List Nat,Ext S wr w5/\(∀q∈S,(Value.slice TA ts.length tc).ownBlock=some q)/\Aq (fun b=>w.heap.size<=b/\b≠rb) 4 w5 TA 2 tmC aZ):=hd (by
     rcases hs with⟨h1,h2⟩|⟨q,rfl,h2,h3⟩
     ·subst h1;exact⟨[],h2,by simp,Aq.nil ..⟩
     ·exact⟨[q],h3,fun y hy=>by rw[jA.1 hy];rfl,h2.seq (by omega) ⟨Ae HA.o.own q rfl,Cb HA.o.own HA.o.res (by decide) q rfl⟩⟩)
    have ba:=hd b0;clear hs b0 aI qa af;obtain⟨S5,aw,ax,aY⟩:=HX.o;have au:=hd (HA.o.res.ext aw fun hm=>Cb HA.o.own HA.o.res (by decide) _ (ax _ hm) rfl);have aU:=hd (HA.o.blk.ext aw fun hm=>Cb HA.o.own HA.o.blk (by decide) _ (ax _ hm) rfl);have aV:=hd (HA.o.far HD.o aw fun q hq=>Ae HA.o.own q (ax q hq));have bb:=hd aY;clear aw ax aY HX;have qa:=aU.o.cell;have af:=aU.o.lt;have qr:=au.o.cell;have bu:=au.o.frozen;have bv:=au.o.lt;have aJ:=hd ((jL (b:=rb) (i:=0) (u:=.int .i64 x) (.inl (by simp)) (jF [rb] w5)).trans (jL (b:=rb) (i:=1) (u:=.slice TA ts.length tc) (.inl (by simp)) (jF [rb] _)));have bd:=hd ((au.o.set_' 0 x #[x,.slice none 0 0] rfl).set_' 1 (.slice TA ts.length tc) #[x,.slice TA ts.length tc] rfl);go_wp2_with fail
    have be:=hd (bb.o.ext aJ.o fun y hy=>by rw[jA.1 hy];exact fun hh=>hh.2 rfl);have bf:=hd (aV.o.1.step aJ.o fun y hy=>.inr (by rw[jA.1 hy];exact HA.o.rb0));have bh:=hd (aV.o.2.stm.ext aJ.o (by have:=HA.o.rb0;have:=HA.o.g0;rw[jA];omega) (fun y hy=>by rw[jA.1 hy];have:=HA.o.rb0;have:=HD.o.blk.lt;have:=HD.o.bpb;omega));generalize World.setCell (World.setCell w5 _ _) _ _=w6 at *;refine bodyPost_ret (results_cell_row rfl _ _ rb 38 _ (0,0) _ rfl bd.o underlying38 rfl (by kernel_rfl)) rfl ⟨⟨x,TA,tc,aZ⟩,by rw[<-ba.o];rfl,be.o.mono (fun b _ hb=>hb.1) (jD _),bf.o,bh.o.less (by omega)⟩
end
set_option maxRecDepth 100000 in
theorem Agc (base g pb n bc:Nat)(bA:Option Addr)(bs:List Bf)(V:Value)(l:List St)(cnt:Int)(a:Af)(w:World)(h:Bld w base g pb n bA bc bs V l cnt)(ha:Jn w a)(ha4:a.ts.length<=4) :
  Calls prog 225 #[.pointer (some pb),afV a] w fun e w'=>∃r:Int,e=.returned (.int .i64 r)/\Ext [] w w':=by
 obtain⟨ab,AA,ac,ts⟩:=a;unfold afV Jn at *;dsimp only at *;have HD:=hd h;have ao:=hd h.l3;have HA:=hd ha;have ap:=hd ha4;obtain⟨VA,vc,rfl,-,-⟩:=Be h.row;clear h ha ha4;go_enter func225,ntmps225
 go_wp2_with fail
 have aq:=hd ((jF [] w).alloc (.cells #[ab,.slice AA ts.length ac] 38));generalize World.alloc w _=w1 at *;go_loopw [5,15] (fun nn i wr=>∃(k:Nat) (m:Int),nn=.int .i64 m/\i=.int .i64 k/\k<=ts.length/\Hd (Ext [] w wr)) (fun _ i _=>(ts.length-intOf i).toNat)
 case atStart=>exact⟨0,ab,rfl,rfl,jQ _,aq⟩
 case round=>
  obtain⟨k,m,rfl,rfl,hk,HE⟩:=hrel;by_cases am:k<ts.length
  ·have au:(k:Int)<(ts.length:Int):=by omega
   have ag:=hd am;obtain⟨tb,⟨s,c⟩,rfl,hx,hc⟩:=HA.o.at am;have q1:=HE.o.held (hc 0 _ rfl) (by simp);have q2:=HE.o.held (hc 1 _ rfl) (by simp);have aa:=jB wr _ q1;simp only[Nat.add_zero] at q1 q2 aa;clear hx hc;go_upto_block 1 with fail
   go_cut [5] (fun nn wx=>∃m:Int,nn=.int .i64 m/\Hd (Ext [] w wx))
   case first=>
    go_upto_region 5 with fail
    have ah:=hd (HE.o.alloc (.cells #[.string s,c] 178));have ai:=hd (jK wr 178 #[.string s,c]);generalize World.alloc wr _=w5 at *;generalize wr.heap.size=tk at *;clear q1 q2 aa HE;have ad:=hd (HD.o.grow ah.o);have qp:=ad.o.blk.cell;have aw:=ad.o.blk.lt;unfold Dj at qp;go_wp2_with fail
    clear qp aw;go_loopw [5,24] (fun nn i wq=>∃(j:Nat) (m:Int),nn=.int .i64 m/\i=.int .i64 j/\j<=l.length/\Hd (Ext [] w5 wq)) (fun _ i _=>(l.length-intOf i).toNat)
    case atStart=>exact⟨0,m,rfl,rfl,jQ _,hd (jF _ _)⟩
    case round=>
     rename World=>wq
     obtain⟨j,m3,rfl,rfl,hj,af⟩:=hrel;by_cases an:j<l.length
     ·have ax:(j:Int)<(l.length:Int):=by omega
      have aj:=hd an;go_upto_block 3 with fail
      go_cut [5] (fun nn wx=>∃m:Int,nn=.int .i64 m/\Hd (Ext [] w5 wx))
      case first=>
       obtain⟨va,aF,st,hV,aG,hx,hc⟩:=(ad.o.grow af.o).at an;cases hV
       obtain⟨h,a8⟩:=st;have HW:=hd (fun j v hv=>hc j v hv:∀(i:Nat) (v:Value),(Ai h a8.length h.val.h h.val.ks.length).toList[i]? = some v->wq.cell? ⟨va,j*21+i,none⟩=some v);have ak:=hd (jK wq 43 (Ai h a8.length h.val.h h.val.ks.length));have ae:=hd (af.o.alloc (.cells (Ai h a8.length h.val.h h.val.ks.length) 43));obtain⟨a0,a1,a2,a3,a4,a5,a6,a7,-⟩:=Ch h a8.length h.val.h h.val.ks.length;have al:=hd (show(prog.info? 43).map (·.size)=some (Ai h a8.length h.val.h h.val.ks.length).size from Dx);have ay:=hd (show zSt.size=(Ai h a8.length h.val.h h.val.ks.length).size from rfl);have az:=hd (Da h a8.length h.val.h h.val.ks.length);clear hx hc;generalize Ai h a8.length h.val.h h.val.ks.length=arr at *
       go_upto_region 8 with(first
        | refine Ac rfl 43 _ rfl va (j*21) rfl arr HW.o _ underlying43 rfl al.o ?_
        | refine Av rfl rfl 43 _ _ rfl rfl zSt (Fy _) arr rfl rfl al.o ay.o az.o ?_)
       generalize World.alloc wq _=w6 at *;generalize wq.heap.size=fb at *;have qb:=ak.o.cell;have aE:=ak.o.lt;have qt:=(ai.o.ext ae.o (by simp)).cell;have aa:=(ai.o.ext ae.o (by simp)).lt;go_wp2_with fail
       all_goals
        go_meet
        exact⟨_,rfl,ae⟩
      case rest=>
       obtain⟨m4,rfl,aC⟩:=hcut;have aA:j<4:=by have:=aj.o;have:=ao.o;omega
       have aB:=aj.o;go_wp2_with fail
       go_roundw
       case rel=>exact⟨j+1,m4,rfl,by go_num,by omega,aC⟩
       case measure=>simp[intOf];omega
     ·go_wp2_with fail
      go_meet
      exact⟨m3,rfl,hd (ah.o.trans af.o)⟩
   case rest=>
    obtain⟨m2,rfl,aD⟩:=hcut;have aA:k<5:=by have:=ag.o;have:=ap.o;omega
    have aB:=ag.o;go_wp2_with fail
    go_roundw
    case rel=>exact⟨k+1,m2,rfl,by go_num,by omega,aD⟩
    case measure=>simp[intOf];omega
  ·go_wp2_with fail
   go_ret
   exact⟨m,rfl,HE.o⟩
set_option maxRecDepth 100000 in
theorem Qv (base g pb n bc buf:Nat)(bA:Option Addr)(bs:List Bf)(V:Value)(l:List St)(cnt:Int)(w:World)(h:Bld w base g pb (n+70) bA bc bs V l cnt)(hb:buf<bs.length) :
  Calls prog 196 #[.pointer (some pb),buf] w (Ak7 base g n w):=by
 have HD:=hd h;have aT:(buf:Int)<(bs.length:Int):=by omega
 have aU:=hd h.b9;obtain⟨q,bf,rfl,hq,hx,hc⟩:=h.bufAt hb;have aE:=hd (h.bsz bf (ilm hx));have HC:=hd (hc 1 _ rfl);clear h hx hc;unfold Ak7;go_enter func196,ntmps196
 go_upto_region 1 with fail
 have ah:=hd ((jF [] w).alloc (.cells #[(0:Int),.slice none 0 0] 38));have aF:=hd (jK w 38 #[(0:Int),.slice none 0 0]);have ai:=hd (HD.o.grow ah.o);generalize World.alloc w _=w1 at *;generalize aD:w.heap.size=rb at *;have a2:=hd aD;clear aD;have qp:=ai.o.blk.cell;have aj:=ai.o.blk.lt;have qc:=Ext.held ah.o HC.o (by simp);have ao:=jB w1 _ qc;simp only at ao;unfold Dj at qp;go_wp2_with fail
 generalize aS:bf.size=sz at *;have ap:Hd (1<=sz/\sz<=1000):=aE;clear qp aj qc ao aS;go_loopw [16] (fun i wr=>∃(k:Nat),i=.int .i64 k/\k<=6/\Hd (Ext [g] w wr)/\Hd (Bld wr base g pb (n+1+10*(6-k)) (some q) bc bs V l cnt)/\Hd (Blk wr rb 38 #[(0:Int),.slice none 0 0])) (fun i _=>(6-intOf i).toNat)
 case atStart=>exact⟨0,rfl,by omega,hd ah.o.nil,hd (ai.o.less (by omega)),aF⟩
 case round=>
  obtain⟨k,rfl,hk,HE,a7,ag⟩:=hrel;have aG:=HD.o.stm.lt;rw[a2.o] at aG;by_cases aV:k<6
  ·have aH:(k:Int)<6:=by omega
   go_wp2_with fail
   refine(Mv base g pb (n+1+10*(6-(k+1))) bc _ bs V l cnt sz wr (a7.o.less (by omega)) (by have:=ap.o;omega)).mono ?_
   rintro e w2 ⟨a,rfl,ha,hE,hS⟩;have aq:=hd ha;have ad:=hd (HE.o.trans hE);have au:=hd (a7.o.draw hE hS);have a1:=hd (ag.o.ext hE (by rw[jA];omega));have aI:rb<=wr.heap.size:=by rw[<-a2.o];exact HE.o.size
   have aJ:=a1.o.lt;have aK:=ag.o.lt;obtain⟨ax,AA,ac,ts⟩:=a;unfold afV;dsimp only;have ae:=hd (Aq.ext aq.o ((jF [] w2).alloc (.cells #[ax,.slice AA ts.length ac] 38)) (by simp));have ak:=hd (au.o.grow ((jF [] w2).alloc (.cells #[ax,.slice AA ts.length ac] 38)));have aw:=hd (ad.o.alloc (.cells #[ax,.slice AA ts.length ac] 38));have ay:=hd (a1.o.alloc (.cells #[ax,.slice AA ts.length ac] 38));have af:=hd (jK w2 38 #[ax,.slice AA ts.length ac]);go_upto_region 5 with fail
   generalize World.alloc w2 _=w3 at *;generalize w2.heap.size=ab at *;clear hE hS ha aq ad au a1 a7 ag;have qb:=af.o.cell;have az:=af.o.lt;go_wp2_with fail
   refine(Agc base g pb _ bc _ bs V l cnt ⟨ax,AA,ac,ts⟩ w3 ak.o (Aq.inn ae.o (by omega)) ae.o.1).mono ?_
   rintro e w4 ⟨r,rfl,a8⟩;have aA:=hd (aw.o.trans a8.nil);have aB:=hd (ak.o.grow a8);have aa:=hd (ay.o.ext a8 (by simp));have aC:=hd (af.o.ext a8 (by simp));have aL:=hd (Aq.ext ae.o a8 (by simp));clear a8 qb az aw ak ay af ae;by_cases hr:r<sz
   ·have aM:decide (r<sz)=true:=decide_eq_true hr;have qb:=aC.o.cell;have az:=aC.o.lt;have qr:=aa.o.cell;have aN:=aa.o.frozen;have aO:=aa.o.lt;have a6:=hd ((jL (b:=rb) (i:=0) (u:=.int .i64 ax) (.inl (by simp)) (jF [rb] w4)).trans (jL (b:=rb) (i:=1) (u:=.slice AA ts.length ac) (.inl (by simp)) (jF [rb] _)));have al:=hd ((aa.o.set_' 0 ax #[ax,.slice none 0 0] rfl).set_' 1 (.slice AA ts.length ac) #[ax,.slice AA ts.length ac] rfl);go_wp2_with fail
    have aP:=hd (Aq.ext (Aq.mono (Q:=fun b=>wr.heap.size<=b/\b≠rb) aL.o (fun b _ hb=>⟨hb,by omega⟩) (jD _)) a6.o (fun y hy=>by rw[jA.1 hy];exact fun hh=>hh.2 rfl));have am:=hd (aA.o.step a6.o fun y hy=>.inr (by rw[jA.1 hy];exact Nat.le_of_eq a2.o));have an:=hd (aB.o.stm.ext a6.o (by rw[jA];omega) (fun y hy=>by rw[jA.1 hy];have:=HD.o.blk.lt;have:=HD.o.bpb;have:=a2.o;omega));generalize World.setCell (World.setCell w4 _ _) _ _=w6 at *;exact bodyPost_ret (results_cell_row rfl _ _ rb 38 _ (0,0) _ rfl al.o underlying38 rfl (by kernel_rfl)) rfl ⟨⟨ax,AA,ac,ts⟩,rfl,Aq.mono aP.o (fun b _ hb=>by have:=hb.1;have:=a2.o;omega) (jD _),am.o,an.o.less (by omega)⟩
   ·have aM:decide (r<sz)=false:=decide_eq_false hr;go_wp2_with fail
    go_roundw
    case rel=>exact⟨k+1,by go_num,by omega,aA,aB,aa⟩
    case measure=>simp[intOf];omega
  ·have aQ:k=6:=by omega
   subst aQ;have qp:=a7.o.blk.cell;have aj:=a7.o.blk.lt;unfold Dj at qp;go_wp2_with fail
   refine(Ce base g n sz _ (a7.o.stm.less (by omega)) (by have:=ap.o;omega)).mono ?_
   rintro e w2 ⟨r,rfl,_,hE,hS⟩;have ad:=hd (HE.o.trans hE);have a1:=hd (ag.o.ext hE (by rw[jA];omega));have aR:=hd hS;clear hE hS qp aj;have qr:=a1.o.cell;have aN:=a1.o.frozen;have aO:=a1.o.lt;have a6:=hd ((jL (b:=rb) (i:=0) (u:=.int .i64 r) (.inl (by simp)) (jF [rb] w2)).trans (jL (b:=rb) (i:=1) (u:=.slice none 0 0) (.inl (by simp)) (jF [rb] _)));have al:=hd ((a1.o.set_' 0 r #[r,.slice none 0 0] rfl).set_' 1 (.slice none 0 0) #[r,.slice none 0 0] rfl);go_wp2_with fail
   have am:=hd (ad.o.step a6.o fun y hy=>.inr (by rw[jA.1 hy];exact Nat.le_of_eq a2.o));have an:=hd (aR.o.ext a6.o (by rw[jA];omega) (fun y hy=>by rw[jA.1 hy];have:=HD.o.blk.lt;have:=HD.o.bpb;have:=a2.o;omega));generalize World.setCell (World.setCell w2 _ _) _ _=w6 at *;exact bodyPost_ret (results_cell_row rfl _ _ rb 38 _ (0,0) _ rfl al.o underlying38 rfl (by kernel_rfl)) rfl ⟨⟨r,none,0,[]⟩,rfl,Rp ..,am.o,an.o⟩
end Go.Proofs.YtfppibmloloakaaGreatDoor
