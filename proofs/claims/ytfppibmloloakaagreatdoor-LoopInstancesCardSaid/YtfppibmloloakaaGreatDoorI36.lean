import Derived.Test.YtfppibmloloakaaGreatDoorI35
namespace Go.Proofs.YtfppibmloloakaaGreatDoor
open Go.RowKit Go.Proofs.Tryz
set_option linter.all false
set_option maxHeartbeats 64000000
theorem Yb:∀args w,(callFunc 135 args).run prog w=.ok (.enter 135 args) w:=by
 obtain⟨c,hc⟩:∃c,Tryz.f135.body=some c:=⟨_,rfl⟩;exact fun args w=>enters_of func135 (by kernel_rfl) hc args w
set_option maxRecDepth 100000 in
theorem Af5 (a:Af)(vb mb U:Nat)(names:List ByteArray)(vs:List Int)(w:World)(ha:Jn w a)(hg:Cn names a=0)(hn:∀x∈names,x.size<=8)(hm:MpR w mb names vs U)(hv:Blk w vb 85 #[.map (some mb)]) :
  Calls prog 135 (#[afV a] ++ #[.pointer (some vb)]) w (Ff (!decide (0<=evA (names.zip vs) a)) w):=by
 have a2:=hd (fun W (hW:Ext [] w W)=>Xw a mb U names vs W (ha.keep hW) hg hn (hm.ext hW jH));have qv:=hv.cell;have a7:=hv.lt;clear ha hg hm hn hv;generalize evA (names.zip vs) a=E at *;obtain⟨y0,y1,y2,y3⟩:=a;dsimp only[afV] at *;generalize y3.length=m at *;have a1:=hd ((jF [] w).alloc (.cells #[y0,.slice y1 m y2] 38));go_enter func135,ntmps135
 go_wp2_with fail
 refine(a2.o _ a1.o).mono ?_
 rintro r w1 ⟨rfl,hE⟩;have a6:=hd (a1.o.trans hE);clear hE;go_wp2_with fail
 go_ret
 exact⟨Aa (by by_cases h:E<0<;>simp[h]<;>omega),a6.o⟩
theorem Rb (w:World)(t ty:TypeId)(e:TypeId)(i:TypeInfo)(z:Value)(size bytes:Nat)(h1:prog.underlying t=some (.slice e))(h2:prog.info? e=some i)(h3:i.zero=some z)(h4:i.size=size)(h5:i.bytes=bytes)(h6:z.cells.size=size)(h7:0<size)
  (ao:Option Addr) (n cap:Nat) (olds:List Value) (hnone:ao=none->n=0/\cap=0) (hlo:olds.length=n*size) (holds:∀b,ao=some b->∀(j:Nat) u,olds[j]? = some u->w.cell? (b.add j)=some u)
  (ad:Addr) (m c:Nat) (news:List Value) (hn:news.length=m*size) (hc:∀(j:Nat) u,news[j]? = some u->w.cell? (ad.add j)=some u) (h1c:∀u∈news,u.oneCell'=true)
  (hfull:cap<n+m) (b1:n+m<=maxLen) (b2:(n+m)*bytes<=140737488355328) :
  ∃v' w',(Builtin.append_ #[t,t] ty #[.slice ao n cap,.slice (some ad) m c]).run prog w=.ok v' w'/\w'.ownsRow w.heap.size e size v' (n+m) (olds ++ news)/\w.grownBy w' none:=by
 cases ao with
 | some b=>exact run_append_arg_grows w t ty e i z size bytes h1 h2 h3 h4 h5 h6 h7 b n cap olds hlo (holds b rfl) ad m c news hn hc hfull b1 b2
 | none=>
  obtain⟨rfl,rfl⟩:=hnone rfl;obtain rfl:olds=[]:=List.eq_nil_of_length_eq_zero (by simpa using hlo);obtain⟨v',w',a1,r1,r2,_⟩:=run_append_own w w.heap.size t ty e i z size bytes h1 h2 h3 h4 h5 h6 h7 (.slice none 0 0) 0 [] (World.ownsRow_nil w _ e size) ad m c news hn hc h1c b1 b2 (jD _);exact⟨v',w',a1,r1,r2⟩
def Aat (l:List ByteArray):Bc:=⟨Nat×Nat,(0,0),fun u=>.slice (some u.1) l.length u.2,fun u w=>Lb w (some u.1) l/\VzP (some u.1) l.length u.2⟩
theorem Aat.stays {l:List ByteArray}:∀y w w',RH [] w w'->(Aat l).V y w->(Aat l).V y w':=fun _ w w' h k=>⟨Lb.ext k.1 h.1 (by simp),k.2⟩
section
variable {ops:Array Oper} {S:Nat->Option Bc} {Q:Act->World->Prop} {k:Nat} {o:Oper} {rest:List Oper} {a:Act} {F:Nat->World->Prop} {w0:World}
theorem Ak0 (j b:Nat)(s x:Operand)(NA:Option Addr)(names:List ByteArray)(nm:ByteArray)(hS:S k=some (Aat (names ++ [nm])))(hgd:o.guard=none)(ho:o.op=.call {callee:=.builtin .append,args:=#[s,x],argTypes:=#[133,133] })
  (hs:a.eval s=.slice NA names.length names.length) (hx:a.eval x=.slice (some b) 1 1) (hz:NA=none->names.length=0) (hN:∀w m,JH [] w0 (m+1) w->Lb w NA names)
  (hj:o.after.any (fun e=>Region.binds .any e&&e.on==j)=true) (hF:F j=(Oy nm).V b) (h8:names.length<=1000)
  (h:∀u:Nat×Nat,Bm prog ops (JH [] w0) (RH []) S Q (k+1) rest (a.put o.dst (.slice (some u.1) (names ++ [nm]).length u.2)) (upd F k ((Aat (names ++ [nm])).V u))):Bm prog ops (JH [] w0) (RH []) S Q k (o :: rest) a F:=by
 refine Gk _ hS (by simp[Region.wanted,hgd]) (fun w m hJ hf=>?_) h
 have h9:=Bg hf j hj;rw[hF] at h9;have h9':w.cell? ⟨b,0,none⟩=some (.string nm):=h9;obtain⟨i0,a6,a7,a8,aa⟩:=Rf;have a2:=(hN w m hJ).seq (by omega);obtain⟨v',w',hr,hO,hg⟩:=Rb w 133 o.type 9 i0 _ 1 16 underlying133 a6 a7 a8 aa rfl (by decide) NA names.length names.length (names.map sV) (fun h=>⟨hz h,hz h⟩) (by simp) (Aaf a2) ⟨b,0,none⟩ 1 1 [.string nm] rfl (Ig _ _ _ h9') (fun u hu=>by rw[jA.1 hu];rfl) (by omega) (by unfold maxLen;omega) (by omega);have hE:Ext [] w w':=(jF _ _).grown hg fun q hq=>by cases hq
 have a1:(names ++ [nm]).length=names.length+1:=by simp
 obtain⟨A,cap,rfl,ab,ac⟩:=Be hO;obtain⟨g,rfl,-,-⟩:=ac (by omega);obtain⟨C,hC⟩:=Ck hO (g:=g) rfl;refine⟨(g,cap),w',?_,⟨.inr ⟨g,C,rfl,hC,fun i y hy=>?_⟩,?_⟩,JH.step hJ ⟨hE,Dv.of_ext hE⟩,hE,Dv.of_ext hE⟩
 ·unfold execOp;simp only[ho,resolve,invoke,builtin,Sem.run_bind,Sem.run_pure,Result.andThen_ok,List.map_toArray,List.map_cons,List.map_nil,hs,hx,hr];simp only[Aat,a1]
 ·rw[<-hC.cell];refine Cz hO rfl ?_
  have h1:names.map sV ++ [Value.string nm]=(names ++ [nm]).map sV:=by rw[List.map_append];rfl
  rw[h1,List.getElem?_map,hy];rfl
 ·rw[a1];exact Aag ab
end
attribute [local irreducible] Bm
set_option maxRecDepth 100000 in
theorem Ua (l:List St)(ih:∀s∈l,TbC s.body):TbC l:=by
 intro tb mb B nb no count U many keep NA nc names vs w0 w A cap D V0 hG htb hmb hQ hRo hSt hF hE0 hN hz hno hU hRm;have bJ:l.length<=1000000:=hRo.1;have ba:=hd ih;have HR:=hd hRo;have bc:=hd hSt;have bd:=hd hF;have HG:=hd hG;have be:=hd hE0;have bf:=hd hno;have bh:=hd hU;have bi:=hd hRm;have HZ:=hd hz;have HQ:=hd hQ;have HN:=hd hN;clear ih hRo hSt hF hE0 hno hU hRm hz hQ hN hG;generalize hn:l.length=n at *;have b1:=hd hn;clear hn;have bj:=hd (jK w 85 #[.map (some mb)]);have aH:=hd ((jF [] w).alloc (.cells #[.map (some mb)] 85));go_enter func91,ntmps91
 go_upto_region 1 with fail
 have an:=hd (HQ.o.grow aH.o);have bk:=hd (HN.o.ext aH.o (by simp));have aQ:=hd (be.o.trans aH.o);have bK:(World.alloc w (.cells #[.map (some mb)] 85)).heap.size=w.heap.size+1:=Ad _ _;generalize World.alloc w _=w1 at *;generalize bP:w.heap.size=s0 at *;go_wp2_with fail
 go_loopw [2,14] (fun q i wr=>∃(k:Nat) (V2:Option Nat),q=.int .i64 (no+Ab (l.take k):Nat)/\i=.int .i64 k/\k<=n/\Hd (Ge tb mb V0 w1 V2 wr)/\Hd (Dq tb mb B keep names vs (U+2*Ax (names.zip vs) (l.take k)) (D ++ kL keep (rqL (names.zip vs) no count (l.take k))) (many+Bt (Aj (names.zip vs) no (l.take k))) (count+(Aj (names.zip vs) no (l.take k)).length) V2 wr)) (fun _ i _=>(n-intOf i).toNat)
 case atStart=>exact⟨0,V0,by simp[Ab],rfl,jQ _,hd Ge.refl,hd (by simpa[kL,Bt,rqL,Aj,Ax] using an.o)⟩
 case round=>
  obtain⟨k,V2,rfl,rfl,hk,HE,aN⟩:=hrel;rename World=>wq
  by_cases bQ:k<n
  ·obtain⟨bb,x,rfl,hx,hc⟩:=(HR.o.keep (HE.o.stay an.o aQ.o htb hmb)).at (i:=k) (by have:=b1.o;omega);obtain⟨h,b⟩:=x;have ah:=ilm hx;have ay:=bd.o _ ah;have aj:=hd (bc.o _ ah);have aR:TbC b:=ba.o _ ah;have bl:=Iz hx;have bL:no+Ab (l.take k)+Aw (.mk h b)<=3000:=by have:=bf.o;omega
   have bm:=hd (Gs hx)
   have ao:Tz keep (D ++ kL keep (rqL (names.zip vs) no count (l.take k))) (many+Bt (Aj (names.zip vs) no (l.take k))) (count+(Aj (names.zip vs) no (l.take k)).length) (Br (names.zip vs) (no+Ab (l.take k)) (.mk h b)):=by
    have h1:=bi.o;rw[<-List.take_append_drop (k+1) l,Ie,Hi hx,jP] at h1;exact(h1.post (Ya ..)).pre
   have aI:U+2*Ax (names.zip vs) (l.take k)+2*Ga (names.zip vs) (.mk h b)<=100000000:=by
    have h1:=bh.o;have h2:=Sb (env:=names.zip vs) (l:=l) (j:=k+1);rw[Dy hx] at h2;omega
   have bo:Hd (∀V3 W U',Dq tb mb B keep names vs U' (D ++ kL keep (rqL (names.zip vs) no count (l.take k)) ++ kL keep (rqS (names.zip vs) (no+Ab (l.take k)) (count+(Aj (names.zip vs) no (l.take k)).length) (.mk h b))) (many+Bt (Aj (names.zip vs) no (l.take k))+Bt (Br (names.zip vs) (no+Ab (l.take k)) (.mk h b))) (count+(Aj (names.zip vs) no (l.take k)).length+(Br (names.zip vs) (no+Ab (l.take k)) (.mk h b)).length) V3 W->
     U'<=U+2*Ax (names.zip vs) (l.take k)+2*Ga (names.zip vs) (.mk h b)->Dq tb mb B keep names vs (U+2*Ax (names.zip vs) (l.take (k+1))) (D ++ kL keep (rqL (names.zip vs) no count (l.take (k+1)))) (many+Bt (Aj (names.zip vs) no (l.take (k+1)))) (count+(Aj (names.zip vs) no (l.take (k+1))).length) V3 W):=hd fun V3 W U' hq hu=>by
    rw[Aiu hx,Hi hx,Dy hx,Nm,Bu,jG,<-jP,<-Nat.add_assoc,<-Nat.add_assoc];exact hq.more (by omega)
   generalize b0:no+Ab (l.take k)=no2 at *;generalize U+2*Ax (names.zip vs) (l.take k)=U2 at *;generalize D ++ kL keep (rqL (names.zip vs) no count (l.take k))=D2 at *;generalize many+Bt (Aj (names.zip vs) no (l.take k))=many2 at *;generalize count+(Aj (names.zip vs) no (l.take k)).length=count2 at *
   have az:(h.k=3/\b=[])\/(h.k=2/\(∀a∈h.conds,Cn names a=0)/\∀s∈b,Fd nb names s)\/h.k=1:=by
    cases ay with
    | loop _ _ _ hk'=>exact .inr (.inr hk')
    | when _ _ _ hk' _ h1 _ h2=>exact .inr (.inl ⟨hk',h1,h2⟩)
    | store _ _ hk'=>exact .inl ⟨hk',rfl⟩
   have a8:=hd (fun(am:h.k=1) NA' nc' V' W (hq:Dq tb mb B keep names vs U2 D2 many2 count2 V' W) (hE:Ext [] w0 W) (hN:Lb W NA' (names ++ [h.var])) (hz:VzP NA' (names ++ [h.var]).length nc')=>show Calls prog 136 #[.pointer (some tb),Et h b.length,no2,.slice NA' (names ++ [h.var]).length nc',.map (some mb)] W
     (Af4 tb mb B keep names vs (U2+2*Ga (names.zip vs) (.mk h b)) D2 many2 count2 V' (Br (names.zip vs) no2 (.mk h b)) (rqS (names.zip vs) no2 count2 (.mk h b)) W) from by
    have b2:Aw (.mk h b)=Ab b:=by rw[Aw,ijn (by omega),Nat.zero_add]
    cases hv:h.vec
    ·exact Aiv tb mb B nb no2 count2 U2 many2 keep NA' nc' names vs w0 W h b D2 V' HG.o htb hmb hq aj.o ay am hv hE hN hz (by omega) aI ao aR
    ·exact Aix tb mb B nb no2 count2 U2 many2 keep NA' nc' names vs w0 W h b D2 V' HG.o htb hmb hq aj.o ay am hv hE hN hz (by omega) aI ao)
   have aa:=hd (fun(al:h.k=3) (hb:b=[]) V' W (hq:Dq tb mb B keep names vs U2 D2 many2 count2 V' W) (hE:Ext [] w0 W) (hN:Lb W NA names)=>show Calls prog 134 #[.pointer (some tb),.agg (plA h no2 NA names.length nc),.map (some mb),.bool true,.bool true] W
     (Af4 tb mb B keep names vs U2 D2 many2 count2 V' (Br (names.zip vs) no2 (.mk h b)) (rqS (names.zip vs) no2 count2 (.mk h b)) W) from by
    subst hb;obtain⟨r1,r2,r3⟩:=ao;rw[Fg al] at r1 r2 r3;simp only[Bt,List.map_cons,List.map_nil,List.sum_cons,List.sum_nil,Nat.add_zero,jS] at r1 r2 r3;rw[Fg al,Af3 al];refine(Wl tb mb B nb no2 count2 U2 many2 nc keep true true NA names vs h w0 D2 V' W HG.o htb hq aj.o ay al hE hN (fun hk=>by have:=r1 hk;omega) (by omega) (by omega)).mono ?_
    rintro e w' ⟨rfl,bI,h1,h2⟩;refine⟨rfl,bI,h1,?_⟩
    simpa[kL,kN,Bt] using h2)
   have ad:=hd (fun(aO:∀a∈h.conds,Cn names a=0) W V' U' D' m' c' (hq:Dq tb mb B keep names vs U' D' m' c' V' W) (hE:Ext [] w0 W) (hv:Blk W s0 85 #[.map (some mb)])=>Agw h.cA h.conds.length h.cc h.conds 135 #[.pointer (some s0)] (fun a=>!decide (0<=evA (names.zip vs) a)) W (aj.o.all.1.keep hE) rfl ⟨Yb,fun i x hx w' hw'=>Af5 x s0 mb U' names vs w' ((aj.o.all.2.1 x (ilm hx)).keep (hE.trans hw')) (aO x (ilm hx)) HG.o.size (hq.map.ext hw' jH) (hv.ext hw' (by simp))⟩);have bp:=hd (show(h.conds.any fun a=>!decide (0<=evA (names.zip vs) a)) = !El (names.zip vs) h from Wj (names.zip vs) h.conds);rw[bp.o] at ad
   have ab:=hd (fun(ac:h.k=2) (aP:∀s∈b,Fd nb names s) (hh:El (names.zip vs) h=true) V' W (hq:Dq tb mb B keep names vs U2 D2 many2 count2 V' W) (hE:Ext [] w0 W) (hN:Lb W NA names)=>show Calls prog 91 #[.pointer (some tb),.slice h.A b.length h.cap,no2,.slice NA names.length nc,.map (some mb)] W
     (Af4 tb mb B keep names vs (U2+2*Ax (names.zip vs) b) D2 many2 count2 V' (Br (names.zip vs) no2 (.mk h b)) (rqS (names.zip vs) no2 count2 (.mk h b)) W) from by
    have b2:Aw (.mk h b)=Ab b:=by rw[Aw,ijn (by omega),Nat.zero_add]
    rw[Fh ac,Aaq ac,ijp hh,ijp hh];rw[Fh ac,ijp hh] at ao;rw[Ir ac,ijp hh] at aI;exact aR tb mb B nb no2 count2 U2 many2 keep NA nc names vs w0 W h.A h.cap D2 V' HG.o htb hmb hq aj.o.all.2.2.2.2.2.2.1 aj.o.all.2.2.2.2.2.2.2 aP hE hN HZ.o (by omega) (by omega) ao)
   have aJ:=hd (fun(hb:b=[])=>show prog.built 229 [(0,.agg (Ai h b.length h.val.h h.val.ks.length)),(1,.int .i64 no2),(2,.slice NA names.length nc)]=some (plA h no2 NA names.length nc) from by subst hb;exact Aas h no2 NA names.length nc);have aA:=hd (fun W g (hb:Blk W g 43 (Ai h b.length h.val.h h.val.ks.length)) (hE:Ext [] w0 W)=>Lo (.mk h [.mk h b]) (some g) 1 1 W (Pd fun j v hv=>by rw[hb.cell,<-Array.getElem?_toList];exact hv) (fun s hs=>by rw[jA.1 hs];exact aj.o.keep hE) rfl (by rw[show(St.mk h [St.mk h b]).body=[St.mk h b] from rfl,Ab,Ab];omega));have b3:Ab (St.mk h [St.mk h b]).body=Aw (.mk h b):=by rw[show(St.mk h [St.mk h b]).body=[St.mk h b] from rfl,Ab,Ab,Nat.add_zero]
   rw[b3] at aA;have aS:=hd (fun W=>Kz W h b.length h.val.h h.val.ks.length);have HW:=hd (fun j v hv=>hc j v hv:∀(j:Nat) (v:Value),(Ai h b.length h.val.h h.val.ks.length).toList[j]? = some v->wq.cell? ⟨bb,k*21+j,none⟩=some v);have ae:=hd (jK wq 43 (Ai h b.length h.val.h h.val.ks.length));have aB:=hd ((jF [] wq).alloc (.cells (Ai h b.length h.val.h h.val.ks.length) 43));obtain⟨a0,a1,a2,a3,a4,a5,a6,a7,-⟩:=Ch h b.length h.val.h h.val.ks.length;have aC:=hd (show(prog.info? 43).map (·.size)=some (Ai h b.length h.val.h h.val.ks.length).size from Dx);have b4:=hd (show zSt.size=(Ai h b.length h.val.h h.val.ks.length).size from rfl);have b5:=hd (Da h b.length h.val.h h.val.ks.length);have bq:Ab (l.take (k+1))=Ab (l.take k)+Aw (.mk h b):=bm.o;clear hx hc ah ay aR bl ao aI b3;unfold Et at a8;generalize Ai h b.length h.val.h h.val.ks.length=arr at *;generalize b.length=bn at *
   go_upto_block 2 with(first
    | refine Ac rfl 43 _ rfl bb (k*21) rfl arr HW.o _ underlying43 rfl aC.o ?_
    | refine Av rfl rfl 43 _ _ rfl rfl zSt (Fy _) arr rfl rfl aC.o b4.o b5.o ?_)
   have aD:=hd (aN.o.grow aB.o);have ap:=hd (HE.o.grow aB.o);have bM:(World.alloc wq (.cells arr 43)).heap.size=wq.heap.size+1:=Ad _ _;generalize World.alloc wq _=w2 at *;generalize b2:wq.heap.size=sb at *;have aq:=hd (ap.o.blk an.o bj.o (by decide) (by decide));have ai:=hd (ap.o.stay an.o aQ.o htb hmb);have aT:=hd (ap.o.nam an.o bk.o);clear HW b4 b5 aN HE;go_cut [] (fun wx=>∃V3 U',Hd (Ge tb mb V0 w1 V3 wx)/\Hd (Blk wx sb 43 arr)/\U'<=U2+2*Ga (names.zip vs) (.mk h b)/\Hd (Dq tb mb B keep names vs U' (D2 ++ kL keep (rqS (names.zip vs) no2 count2 (.mk h b))) (many2+Bt (Br (names.zip vs) no2 (.mk h b))) (count2+(Br (names.zip vs) no2 (.mk h b)).length) V3 wx))
   case first=>
    have q1:=ae.o.cell;have aE:=ae.o.lt;have qm:=aq.o.cell;have au:=aq.o.lt;rcases az with⟨al,aZ⟩|⟨ac,aO,aP⟩|am
    ·skip
     have aw:=hd (aa.o al aZ);have br:=hd (aJ.o aZ);clear aa aJ a8 ad ab;have e3:(h.k==3)=true:=by simpa using al
     clear al aZ
     go_wp2_with (first
      | refine Ac rfl 43 _ rfl sb 0 rfl arr ae.o.wide _ underlying43 rfl aC.o ?_
      | (refine Eo rfl 229 _ rfl (plA h no2 NA names.length nc) ?cc ?_;case cc=>refine Eq.trans (congrArg (prog.built 229) (?_:_=[(0,Value.agg arr),(1,Value.int .i64 no2),(2,Value.slice NA names.length nc)])) br.o;simp[Act.eval]))
     refine(aw.o V2 w2 aD.o ai.o aT.o).mono ?_
     rintro e w3 ⟨rfl,V3,hE,hq⟩;have ak:=hd (ap.o.trans hE);have af:=hd hq;have ag:=hd (hE.blk aD.o ae.o (by decide) (by decide));clear hE hq q1 aE qm au;go_wp2_with fail
     go_meet
     exact⟨V3,U2,ak,ag,by omega,af⟩
    ·skip
     have bt:=hd (ad.o aO w2 V2 _ _ _ _ aD.o ai.o aq.o);have aU:=hd (ab.o ac aP);have bu:=hd (Ir (env:=names.zip vs) (b:=b) ac);have bv:=hd (Fh (env:=names.zip vs) (no:=no2) (b:=b) ac);have bx:=hd (Aaq (env:=names.zip vs) (no:=no2) (c:=count2) (b:=b) ac);clear aa aJ a8 ad ab;have e3:(h.k==3)=false:=by simp[ac]
     have e2:(h.k==2)=true:=by simpa using ac
     clear ac aO aP;go_wp2_with fail
     refine bt.o.mono ?_
     rintro e w3 ⟨rfl,hE⟩;have af:=hd (aD.o.grow hE);have ak:=hd (ap.o.grow hE);have ag:=hd (ae.o.ext hE (by simp));have b6:=hd (aq.o.ext hE (by simp));have aK:=hd (aT.o.ext hE (by simp));have aV:=hd (ai.o.trans hE);clear hE q1 aE qm au;have q1:=ag.o.cell;have aE:=ag.o.lt;have qm:=b6.o.cell;have au:=b6.o.lt;cases hh:El (names.zip vs) h
     ·have bz:Br (names.zip vs) no2 (.mk h b)=[]:=by rw[bv.o,hh];rfl
      have bA:rqS (names.zip vs) no2 count2 (.mk h b)=[]:=by rw[bx.o,hh];rfl
      clear aU;go_wp2_with fail
      go_meet
      exact⟨V2,U2,ak,ag,by omega,by rw[bz,bA];simpa[kL,Bt] using af⟩
     ·have aw:=hd (aU.o hh V2 w3 af.o aV.o aK.o);have bN:Ax (names.zip vs) b<=Ga (names.zip vs) (.mk h b):=by rw[bu.o,ijp hh];omega
      clear aU;go_wp2_with fail
      refine aw.o.mono ?_
      rintro e w4 ⟨rfl,V3,hE,hq⟩;have ax:=hd (ak.o.trans hE);have aF:=hd hq;have aW:=hd (hE.blk af.o ag.o (by decide) (by decide));clear hE hq q1 aE qm au;go_wp2_with fail
      go_meet
      exact⟨V3,_,ax,aW,by omega,aF⟩
    ·skip
     have aw:=hd (a8.o am);clear aa aJ a8 ad ab;have e3:(h.k==3)=false:=by simp[am]
     have e2:(h.k==2)=false:=by simp[am]
     clear am;have aG:=hd (show(names ++ [h.var]).length=names.length+1 by simp);have aL:=HZ.o;have bO:names.length<=8:=HG.o.eight;clear q1 aE qm au;go_upto_region 5 with fail
     refine rgH 10 [(4,Dg (.slice NA names.length names.length)),(7,Oy h.var),(8,Aat (names ++ [h.var]))] ?_ ?_
     ·refine Am.cons Dg.stays (Am.cons Oy.stays (Am.cons Aat.stays Am.nil))
     simp only[TK]
     repeat(refine dE (fun wr nr hJ=>by clear hJ;exact CL) ?_;simp only[PT])
     refine Gj rfl rfl ?_
     apply Exists.intro
     refine⟨fun wr nr hJ=>?_,?_⟩
     ·exact Dp 43 _ rfl sb 0 rfl arr (ae.o.ext hJ.1 (by simp)).wide _ underlying43 rfl aC.o
     simp only[PT]
     repeat(refine dE (fun wr nr hJ=>by(have qx:=(ae.o.ext hJ.1 (by simp)).cell;have bB:=(ae.o.ext hJ.1 (by simp)).lt);clear hJ;exact CL) ?_;simp only[PT])
     refine Re (Dg (.slice NA names.length names.length)) rfl rfl ?_ ?_
     ·refine EC fun wr nr hJ hf=>?_
      refine(Aae NA names.length nc wr aL.1 aL.2.1 aL.2.2).mono ?_
      rintro e w' ⟨rfl,hE⟩;exact⟨(),rfl,trivial,hE⟩
     rintro⟨⟩;simp only[PT]
     repeat(refine dE (fun wr nr hJ=>by(have qx:=(ae.o.ext hJ.1 (by simp)).cell;have bB:=(ae.o.ext hJ.1 (by simp)).lt);clear hJ;exact CL) ?_;simp only[PT])
     refine Fz (Oy h.var) rfl rfl (fun wr nr hJ hf=>?_) ?_
     ·refine⟨wr.heap.size,.cells #[.string h.var] 9,?_,(jK wr 9 #[.string h.var]).cell 0⟩
      (go_simp;try go_bits)
      first|rfl|exact⟨rfl,rfl⟩
     intro (g:Nat);simp only[PT];refine Ak0 7 g _ _ NA names h.var rfl rfl rfl rfl rfl (fun hA=>(aL.1 hA).1) (fun w' m hJ=>aT.o.ext hJ.1 (by simp)) (by kernel_rfl) rfl (by omega) ?_
     rintro⟨g8,c8⟩;simp only[PT]
     repeat(refine dE (fun wr nr hJ=>by(have qm:=(aq.o.ext hJ.1 (by simp)).cell;have au:=(aq.o.ext hJ.1 (by simp)).lt);clear hJ;exact CL) ?_;simp only[PT])
     refine Ak (fun w5 hJ hF=>?_)
     have aK:Hd (Lb w5 (some g8) (names ++ [h.var])/\VzP (some g8) (names ++ [h.var]).length c8):=hd (hF 8);have aM:=hd hJ.1;clear hF hJ;have af:=hd (aD.o.grow aM.o);have ak:=hd (ap.o.grow aM.o);have ag:=hd (ae.o.ext aM.o (by simp));have b7:=hd (aw.o (some g8) c8 V2 w5 af.o (ai.o.trans aM.o) aK.o.1 aK.o.2);clear aw;rw[aG.o] at b7;rw[aG.o];dsimp only[Dg,Oy];go_wp2_with fail
     refine b7.o.mono ?_
     rintro e w6 ⟨rfl,V3,hE,hq⟩;have ax:=hd (ak.o.trans hE);have aF:=hd hq;have aW:=hd (hE.blk af.o ag.o (by decide) (by decide));clear hE hq;go_wp2_with fail
     go_meet
     exact⟨V3,_,ax,aW,by omega,aF⟩
   case rest=>
    obtain⟨V3,U3,ak,ag,bH,af⟩:=hcut;rename World=>w3
    have bC:=hd (aS.o w3);have bD:=hd (jK w3 43 arr);have b8:=hd ((jF [] w3).alloc (.cells arr 43));have aF:=hd (af.o.grow b8.o);have ax:=hd (ak.o.grow b8.o);have aX:=hd (aA.o _ _ bD.o (ax.o.stay an.o aQ.o htb hmb));have aY:=hd (fun W=>bo.o V3 W U3)
    go_wp2_with (first
     | refine Ac rfl 43 _ rfl sb 0 rfl arr ag.o.wide _ underlying43 rfl aC.o ?_
     | refine Bk rfl (.slice (some w3.heap.size) 1 1) _ (As rfl _ _ _ _ (.agg arr) rfl bC.o) ?_)
    refine aX.o.mono ?_
    rintro e w4 ⟨rfl,hE⟩;have bE:=hd (aY.o _ (aF.o.grow hE) bH);have bF:=hd (ax.o.grow hE);clear hE;generalize Aw (St.mk h b)=sx at *;go_wp2_with fail
    go_roundw
    case rel=>exact⟨k+1,V3,by rw[bq,<-Nat.add_assoc,b0];go_num,by go_num,by omega,bF,bE⟩
    case measure=>simp[intOf];omega
  ·have bG:k=n:=by omega
   subst bG;have HT:Hd (l.take k=l):=hd (List.take_of_length_le (by have:=b1.o;omega));rw[HT.o] at aN;go_wp2_with fail
   exact bodyPost_end (results_none rfl _ _ _) rfl ⟨rfl,V2,⟨fun g hg=>(HE.o.1 g hg).imp id fun h1=>by omega,aH.o.nil.trans HE.o.2⟩,aN.o⟩
theorem Af6:∀s:St,TbC s.body:=Dr fun h b ih=>Ua b ih
end Go.Proofs.YtfppibmloloakaaGreatDoor
