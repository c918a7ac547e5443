import Derived.Test.YtfjdmoppfbddpaaGreatDoorP44
namespace Go.Proofs.YtfjdmoppfbddpaaGreatDoor
open Go.RowKit Go.Proofs.Tryz
set_option linter.all false
theorem enters_condM:∀args w,(callFunc 149 args).run Tryz.prog w=.ok (.enter 149 args) w:=by
 obtain⟨c,hc⟩:∃c,Tryz.f149.body=some c:=⟨_,rfl⟩;exact fun args w=>enters_of Tryz.func149 (by kernel_rfl) hc args w
set_option maxRecDepth 100000 in
theorem condM_any (a:Af)(vb mb U:Nat)(names:List ByteArray)(vs:List Int)(w:World)(ha:AfIn w a)(hg:affE names a=0)(hn:∀x∈names,x.size<=8)(hm:MpR w mb names vs U)(hv:Blk w vb 92 #[.map (some mb)]) :
  Calls Tryz.prog 149 (#[afV a] ++ #[.pointer (some ⟨vb,0,none⟩)]) w (HasP (!decide (0<=evA (names.zip vs) a)) w):=by
 have HAT:=hd (fun W (hW:Ext [] w W)=>atM_any a mb U names vs W (ha.keep hW) hg hn (hm.ext hW List.not_mem_nil));have qv:=hv.cell;have qvl:=hv.lt;clear ha hg hm hn hv;generalize evA (names.zip vs) a=E at *;obtain⟨y0,y1,y2,y3⟩:=a;dsimp only[afV] at *;generalize y3.length=m at *;have HE0:=hd ((Ext.refl [] w).alloc (.cells #[.int .i64 y0,.slice y1 m y2] 38));go_enter Tryz.func149,Tryz.ntmps149
 go_wp2_with fail
 refine(HAT.o _ HE0.o).mono ?_
 rintro r w1 ⟨rfl,hE⟩;have HE1:=hd (HE0.o.trans hE);clear hE;go_wp2_with fail
 go_ret
 exact⟨ret_bool (by by_cases h:E<0<;>simp[h]<;>omega),HE1.o⟩
theorem run_append_full (w:World)(t ty:TypeId)(e:TypeId)(i:TypeInfo)(z:Value)(size bytes:Nat)(h1:Tryz.prog.underlying t=some (.slice e))(h2:Tryz.prog.info? e=some i)(h3:i.zero=some z)(h4:i.size=size)(h5:i.bytes=bytes)(h6:z.cells.size=size)(h7:0<size)
  (ao:Option Addr) (n cap:Nat) (olds:List Value) (hnone:ao=none->n=0/\cap=0) (hlo:olds.length=n*size) (holds:∀b,ao=some b->∀(j:Nat) u,olds[j]? = some u->w.cell? (b.add j)=some u)
  (ad:Addr) (m c:Nat) (news:List Value) (hn:news.length=m*size) (hc:∀(j:Nat) u,news[j]? = some u->w.cell? (ad.add j)=some u) (h1c:∀u∈news,u.oneCell'=true)
  (hfull:cap<n+m) (b1:n+m<=maxLen) (b2:(n+m)*bytes<=140737488355328) :
  ∃v' w',(Builtin.append_ #[t,t] ty #[.slice ao n cap,.slice (some ad) m c]).run Tryz.prog w=.ok v' w'/\w'.ownsRow w.heap.size e size v' (n+m) (olds ++ news)/\w.grownBy w' none:=by
 cases ao with
 | some b=>exact run_append_arg_grows w t ty e i z size bytes h1 h2 h3 h4 h5 h6 h7 b n cap olds hlo (holds b rfl) ad m c news hn hc hfull b1 b2
 | none=>
  obtain⟨rfl,rfl⟩:=hnone rfl;obtain rfl:olds=[]:=List.eq_nil_of_length_eq_zero (by simpa using hlo);obtain⟨v',w',hrun,r1,r2,_⟩:=run_append_own w w.heap.size t ty e i z size bytes h1 h2 h3 h4 h5 h6 h7 (.slice none 0 0) 0 [] (World.ownsRow_nil w _ e size) ad m c news hn hc h1c b1 b2 (Nat.le_refl _);exact⟨v',w',hrun,r1,r2⟩
def sNam (l:List ByteArray):Spec:=⟨Nat×Nat,(0,0),fun u=>.slice (some ⟨u.1,0,none⟩) l.length u.2,fun u w=>NamB w (some ⟨u.1,0,none⟩) l/\VzP (some ⟨u.1,0,none⟩) l.length u.2⟩
theorem sNam.stays {l:List ByteArray}:∀y w w',RH [] w w'->(sNam l).V y w->(sNam l).V y w':=fun _ w w' h k=>⟨NamB.ext k.1 h.1 (by simp),k.2⟩
section
variable {ops:Array Oper} {S:Nat->Option Spec} {Q:Act->World->Prop} {k:Nat} {o:Oper} {rest:List Oper} {a:Act} {F:Nat->World->Prop} {w0:World}
theorem rel_nam (j b:Nat)(s x:Operand)(NA:Option Addr)(names:List ByteArray)(nm:ByteArray)(hS:S k=some (sNam (names ++ [nm])))(hgd:o.guard=none)(ho:o.op=.call {callee:=.builtin .append,args:=#[s,x],argTypes:=#[138,138] })
  (hs:a.eval s=.slice NA names.length names.length) (hx:a.eval x=.slice (some ⟨b,0,none⟩) 1 1) (hz:NA=none->names.length=0) (hN:∀w m,JH [] w0 (m+1) w->NamB w NA names)
  (hj:o.after.any (fun e=>Region.binds .any e&&e.on==j)=true) (hF:F j=(sStr nm).V b) (h8:names.length<=1000)
  (h:∀u:Nat×Nat,relAt Tryz.prog ops (JH [] w0) (RH []) S Q (k+1) rest (a.put o.dst (.slice (some ⟨u.1,0,none⟩) (names ++ [nm]).length u.2)) (upd F k ((sNam (names ++ [nm])).V u))):relAt Tryz.prog ops (JH [] w0) (RH []) S Q k (o :: rest) a F:=by
 refine relAt_value _ hS (by simp[Region.wanted,hgd]) (fun w m hJ hf=>?_) h
 have h9:=get_after hf j hj;rw[hF] at h9;have h9':w.cell? ⟨b,0,none⟩=some (.string nm):=h9;obtain⟨i0,hi0,hz0,hz1,hz2⟩:=strInfo;have hseq:=(hN w m hJ).seq (by omega);obtain⟨v',w',hr,hO,hg⟩:=run_append_full w 138 o.type 9 i0 _ 1 16 Tryz.underlying138 hi0 hz0 hz1 hz2 rfl (by decide) NA names.length names.length (names.map sV) (fun h=>⟨hz h,hz h⟩) (by simp) (seq_lies hseq) ⟨b,0,none⟩ 1 1 [.string nm] rfl (new_one _ _ _ h9') (fun u hu=>by rw[List.mem_singleton.1 hu];rfl) (by omega) (by unfold maxLen;omega) (by omega);have hE:Ext [] w w':=(Ext.refl _ _).grown hg fun q hq=>by cases hq
 have hlen:(names ++ [nm]).length=names.length+1:=by simp
 obtain⟨A,cap,rfl,hnc,hnz⟩:=own_form hO;obtain⟨g,rfl,-,-⟩:=hnz (by omega);obtain⟨C,hC⟩:=own_blks hO (g:=g) rfl;refine⟨(g,cap),w',?_,⟨.inr ⟨g,C,rfl,hC,fun i y hy=>?_⟩,?_⟩,JH.step hJ ⟨hE,Shape.of_ext hE⟩,hE,Shape.of_ext hE⟩
 ·unfold execOp;simp only[ho,resolve,invoke,builtin,Sem.run_bind,Sem.run_pure,Result.andThen_ok,List.map_toArray,List.map_cons,List.map_nil,hs,hx,hr];simp only[sNam,hlen]
 ·rw[<-hC.cell];refine cell_row hO rfl ?_
  have h1:names.map sV ++ [Value.string nm]=(names ++ [nm]).map sV:=by rw[List.map_append];rfl
  rw[h1,List.getElem?_map,hy];rfl
 ·rw[hlen];exact vzP_some hnc
end
theorem exec_build_of {P:Program}{o:Oper}{ev:Operand->Value}{w:World}(t:TypeId)(parts:Array (Nat×Operand))(ho:o.op=.build t parts)(cells:Array Value)(hc:P.built t (parts.map fun(i,x)=>(i,ev x)).toList=some cells):(execOp ev o).run P w=.ok (.value (.agg cells)) w:=by
 unfold execOp;simp only[ho,Sem.run_bind,run_build w t _ cells hc,Result.andThen_ok];rfl
attribute [local irreducible] relAt
set_option maxHeartbeats 16000000 in
set_option maxRecDepth 100000 in
theorem rbody_list (l:List St)(ih:∀s∈l,TbC s.body):TbC l:=by
 intro tb mb B nb no count U many keep NA nc names vs w0 w A cap D V0 hG htb hmb hQ hRo hSt hF hE0 hN hz hno hU hRm;have hn9:l.length<=1000000:=hRo.1;have HIH:=hd ih;have HR:=hd hRo;have HST:=hd hSt;have HFD:=hd hF;have HG:=hd hG;have HE0:=hd hE0;have HNO:=hd hno;have HUU:=hd hU;have HRM:=hd hRm;have HZ:=hd hz;have HQ:=hd hQ;have HN:=hd hN;clear ih hRo hSt hF hE0 hno hU hRm hz hQ hN hG;generalize hn:l.length=n at *;have HNL:=hd hn;clear hn;have HB0:=hd (Blk.new w 92 #[.map (some mb)]);have HEx:=hd ((Ext.refl [] w).alloc (.cells #[.map (some mb)] 92));go_enter Tryz.func103,Tryz.ntmps103
 go_upto_region 1 with fail
 have HQ1:=hd (HQ.o.grow HEx.o);have HN1:=hd (HN.o.ext HEx.o (by simp));have HE1:=hd (HE0.o.trans HEx.o);have hw1:(World.alloc w (.cells #[.map (some mb)] 92)).heap.size=w.heap.size+1:=alloc_size _ _;generalize World.alloc w _=w1 at *;generalize hs0:w.heap.size=s0 at *;go_wp2_with fail
 go_loopw [2,14] (fun q i wr=>∃(k:Nat) (V2:Option Nat),q=.int .i64 (no+storesL (l.take k):Nat)/\i=.int .i64 k/\k<=n/\Hd (TobE tb mb V0 w1 V2 wr)/\Hd (TobQ tb mb B keep names vs (U+2*runNL (names.zip vs) (l.take k)) (D ++ kL keep (rqL (names.zip vs) no count (l.take k))) (many+sumI (instL (names.zip vs) no (l.take k))) (count+(instL (names.zip vs) no (l.take k)).length) V2 wr)) (fun _ i _=>(n-intOf i).toNat)
 case atStart=>exact⟨0,V0,by simp[storesL],rfl,Nat.zero_le _,hd TobE.refl,hd (by simpa[kL,sumI,rqL,instL,runNL] using HQ1.o)⟩
 case round=>
  obtain⟨k,V2,rfl,rfl,hk,HE,HQk⟩:=hrel;rename World=>wq
  by_cases hlt:k<n
  ·obtain⟨bb,x,rfl,hx,hc⟩:=(HR.o.keep (HE.o.stay HQ1.o HE1.o htb hmb)).at (i:=k) (by have:=HNL.o;omega);obtain⟨h,b⟩:=x;have hmem:=List.mem_of_getElem? hx;have hFd:=HFD.o _ hmem;have HXS:=hd (HST.o _ hmem);have hIB:TbC b:=HIH.o _ hmem;have hsl:=storesL_le hx;have hnk:no+storesL (l.take k)+storesS (.mk h b)<=3000:=by have:=HNO.o;omega
   have HSK:=hd (storesL_take hx)
   have hRx:Room keep (D ++ kL keep (rqL (names.zip vs) no count (l.take k))) (many+sumI (instL (names.zip vs) no (l.take k))) (count+(instL (names.zip vs) no (l.take k)).length) (instS (names.zip vs) (no+storesL (l.take k)) (.mk h b)):=by
    have h1:=HRM.o;rw[<-List.take_append_drop (k+1) l,instL_append,instL_take hx,List.append_assoc] at h1;exact(h1.post (rqL_len ..)).pre
   have hUx:U+2*runNL (names.zip vs) (l.take k)+2*runN (names.zip vs) (.mk h b)<=100000000:=by
    have h1:=HUU.o;have h2:=runNL_le (env:=names.zip vs) (l:=l) (j:=k+1);rw[runNL_take hx] at h2;omega
   have HNX:Hd (∀V3 W U',TobQ tb mb B keep names vs U' (D ++ kL keep (rqL (names.zip vs) no count (l.take k)) ++ kL keep (rqS (names.zip vs) (no+storesL (l.take k)) (count+(instL (names.zip vs) no (l.take k)).length) (.mk h b))) (many+sumI (instL (names.zip vs) no (l.take k))+sumI (instS (names.zip vs) (no+storesL (l.take k)) (.mk h b))) (count+(instL (names.zip vs) no (l.take k)).length+(instS (names.zip vs) (no+storesL (l.take k)) (.mk h b)).length) V3 W->
     U'<=U+2*runNL (names.zip vs) (l.take k)+2*runN (names.zip vs) (.mk h b)->TobQ tb mb B keep names vs (U+2*runNL (names.zip vs) (l.take (k+1))) (D ++ kL keep (rqL (names.zip vs) no count (l.take (k+1)))) (many+sumI (instL (names.zip vs) no (l.take (k+1)))) (count+(instL (names.zip vs) no (l.take (k+1))).length) V3 W):=hd fun V3 W U' hq hu=>by
    rw[rqL_take hx,instL_take hx,runNL_take hx,kL_append,sumI_append,List.length_append,<-List.append_assoc,<-Nat.add_assoc,<-Nat.add_assoc];exact hq.more (by omega)
   generalize hno2:no+storesL (l.take k)=no2 at *;generalize U+2*runNL (names.zip vs) (l.take k)=U2 at *;generalize D ++ kL keep (rqL (names.zip vs) no count (l.take k))=D2 at *;generalize many+sumI (instL (names.zip vs) no (l.take k))=many2 at *;generalize count+(instL (names.zip vs) no (l.take k)).length=count2 at *
   have hkind:(h.k=3/\b=[])\/(h.k=2/\(∀a∈h.conds,affE names a=0)/\∀s∈b,Fd nb names s)\/h.k=1:=by
    cases hFd with
    | loop _ _ _ hk'=>exact .inr (.inr hk')
    | when _ _ _ hk' _ h1 _ h2=>exact .inr (.inl ⟨hk',h1,h2⟩)
    | store _ _ hk'=>exact .inl ⟨hk',rfl⟩
   have HLOOP:=hd (fun(hk1:h.k=1) NA' nc' V' W (hq:TobQ tb mb B keep names vs U2 D2 many2 count2 V' W) (hE:Ext [] w0 W) (hN:NamB W NA' (names ++ [h.var])) (hz:VzP NA' (names ++ [h.var]).length nc')=>show Calls Tryz.prog 150 #[.pointer (some ⟨tb,0,none⟩),stHV h b.length,.int .i64 no2,.slice NA' (names ++ [h.var]).length nc',.map (some mb)] W
     (TobP tb mb B keep names vs (U2+2*runN (names.zip vs) (.mk h b)) D2 many2 count2 V' (instS (names.zip vs) no2 (.mk h b)) (rqS (names.zip vs) no2 count2 (.mk h b)) W) from by
    have hsb:storesS (.mk h b)=storesL b:=by rw[storesS,if_neg (by omega),Nat.zero_add]
    cases hv:h.vec
    ·exact rfor_any tb mb B nb no2 count2 U2 many2 keep NA' nc' names vs w0 W h b D2 V' HG.o htb hmb hq HXS.o hFd hk1 hv hE hN hz (by omega) hUx hRx hIB
    ·exact rvec_any tb mb B nb no2 count2 U2 many2 keep NA' nc' names vs w0 W h b D2 V' HG.o htb hmb hq HXS.o hFd hk1 hv hE hN hz (by omega) hUx hRx)
   have HINST:=hd (fun(hk3:h.k=3) (hb:b=[]) V' W (hq:TobQ tb mb B keep names vs U2 D2 many2 count2 V' W) (hE:Ext [] w0 W) (hN:NamB W NA names)=>show Calls Tryz.prog 148 #[.pointer (some ⟨tb,0,none⟩),.agg (plA h no2 NA names.length nc),.map (some mb),.bool true,.bool true] W
     (TobP tb mb B keep names vs U2 D2 many2 count2 V' (instS (names.zip vs) no2 (.mk h b)) (rqS (names.zip vs) no2 count2 (.mk h b)) W) from by
    subst hb;obtain⟨r1,r2,r3⟩:=hRx;rw[instS_store hk3] at r1 r2 r3;simp only[sumI,List.map_cons,List.map_nil,List.sum_cons,List.sum_nil,Nat.add_zero,List.length_singleton] at r1 r2 r3;rw[instS_store hk3,rqS_store hk3];refine(rinst_tob tb mb B nb no2 count2 U2 many2 nc keep true true NA names vs h w0 D2 V' W HG.o htb hq HXS.o hFd hk3 hE hN (fun hk=>by have:=r1 hk;omega) (by omega) (by omega)).mono ?_
    rintro e w' ⟨rfl,V'',h1,h2⟩;refine⟨rfl,V'',h1,?_⟩
    simpa[kL,kN,sumI] using h2)
   have HHAS:=hd (fun(hcd:∀a∈h.conds,affE names a=0) W V' U' D' m' c' (hq:TobQ tb mb B keep names vs U' D' m' c' V' W) (hE:Ext [] w0 W) (hv:Blk W s0 92 #[.map (some mb)])=>af_has h.cA h.conds.length h.cc h.conds 149 #[.pointer (some ⟨s0,0,none⟩)] (fun a=>!decide (0<=evA (names.zip vs) a)) W (HXS.o.all.1.keep hE) rfl ⟨enters_condM,fun i x hx w' hw'=>condM_any x s0 mb U' names vs w' ((HXS.o.all.2.1 x (List.mem_of_getElem? hx)).keep (hE.trans hw')) (hcd x (List.mem_of_getElem? hx)) HG.o.size (hq.map.ext hw' List.not_mem_nil) (hv.ext hw' (by simp))⟩);have HHO:=hd (show(h.conds.any fun a=>!decide (0<=evA (names.zip vs) a)) = !holdsS (names.zip vs) h from any_holds (names.zip vs) h.conds);rw[HHO.o] at HHAS
   have HWHEN:=hd (fun(hk2:h.k=2) (hfb:∀s∈b,Fd nb names s) (hh:holdsS (names.zip vs) h=true) V' W (hq:TobQ tb mb B keep names vs U2 D2 many2 count2 V' W) (hE:Ext [] w0 W) (hN:NamB W NA names)=>show Calls Tryz.prog 103 #[.pointer (some ⟨tb,0,none⟩),.slice h.A b.length h.cap,.int .i64 no2,.slice NA names.length nc,.map (some mb)] W
     (TobP tb mb B keep names vs (U2+2*runNL (names.zip vs) b) D2 many2 count2 V' (instS (names.zip vs) no2 (.mk h b)) (rqS (names.zip vs) no2 count2 (.mk h b)) W) from by
    have hsb:storesS (.mk h b)=storesL b:=by rw[storesS,if_neg (by omega),Nat.zero_add]
    rw[instS_when hk2,rqS_when hk2,if_pos hh,if_pos hh];rw[instS_when hk2,if_pos hh] at hRx;rw[runN_when hk2,if_pos hh] at hUx;exact hIB tb mb B nb no2 count2 U2 many2 keep NA nc names vs w0 W h.A h.cap D2 V' HG.o htb hmb hq HXS.o.all.2.2.2.2.2.2.1 HXS.o.all.2.2.2.2.2.2.2 hfb hE hN HZ.o (by omega) (by omega) hRx)
   have HPL:=hd (fun(hb:b=[])=>show Tryz.prog.built 238 [(0,.agg (stArr h b.length h.val.h h.val.ks.length)),(1,.int .i64 no2),(2,.slice NA names.length nc)]=some (plA h no2 NA names.length nc) from by subst hb;exact pl_built h no2 NA names.length nc);have HSTO:=hd (fun W g (hb:Blk W g 43 (stArr h b.length h.val.h h.val.ks.length)) (hE:Ext [] w0 W)=>stores_any (.mk h [.mk h b]) (some ⟨g,0,none⟩) 1 1 W (seq_one fun j v hv=>by rw[hb.cell,<-Array.getElem?_toList];exact hv) (fun s hs=>by rw[List.mem_singleton.1 hs];exact HXS.o.keep hE) rfl (by rw[show(St.mk h [St.mk h b]).body=[St.mk h b] from rfl,storesL,storesL];omega));have hs1:storesL (St.mk h [St.mk h b]).body=storesS (.mk h b):=by rw[show(St.mk h [St.mk h b]).body=[St.mk h b] from rfl,storesL,storesL,Nat.add_zero]
   rw[hs1] at HSTO;have HSLI:=hd (fun W=>st_slice W h b.length h.val.h h.val.ks.length);have HW:=hd (fun j v hv=>hc j v hv:∀(j:Nat) (v:Value),(stArr h b.length h.val.h h.val.ks.length).toList[j]? = some v->wq.cell? ⟨bb,k*21+j,none⟩=some v);have HB2:=hd (Blk.new wq 43 (stArr h b.length h.val.h h.val.ks.length));have HEx2:=hd ((Ext.refl [] wq).alloc (.cells (stArr h b.length h.val.h h.val.ks.length) 43));obtain⟨a0,a1,a2,a3,a4,a5,a6,a7,-⟩:=stArr_get h b.length h.val.h h.val.ks.length;have HSZ:=hd (show(Tryz.prog.info? 43).map (·.size)=some (stArr h b.length h.val.h h.val.ks.length).size from infoSt);have HZS:=hd (show zSt.size=(stArr h b.length h.val.h h.val.ks.length).size from rfl);have HON:=hd (stArr_one h b.length h.val.h h.val.ks.length);have hK3:storesL (l.take (k+1))=storesL (l.take k)+storesS (.mk h b):=HSK.o;clear hx hc hmem hFd hIB hsl hRx hUx hs1;unfold stHV at HLOOP;generalize stArr h b.length h.val.h h.val.ks.length=arr at *;generalize b.length=bn at *
   go_upto_block 2 with(first
    | refine wpList_load_wide rfl 43 _ rfl bb (k*21) rfl arr HW.o _ Tryz.underlying43 rfl HSZ.o ?_
    | refine wpList_make_wide rfl rfl 43 _ _ rfl rfl zSt (zSt_run _) arr rfl rfl HSZ.o HZS.o HON.o ?_)
   have HQ4:=hd (HQk.o.grow HEx2.o);have HE4:=hd (HE.o.grow HEx2.o);have hw2:(World.alloc wq (.cells arr 43)).heap.size=wq.heap.size+1:=alloc_size _ _;generalize World.alloc wq _=w2 at *;generalize hsb:wq.heap.size=sb at *;have HM0:=hd (HE4.o.blk HQ1.o HB0.o (by decide) (by decide));have HE04:=hd (HE4.o.stay HQ1.o HE1.o htb hmb);have HN4:=hd (HE4.o.nam HQ1.o HN1.o);clear HW HZS HON HQk HE;go_cut [] (fun wx=>∃V3 U',Hd (TobE tb mb V0 w1 V3 wx)/\Hd (Blk wx sb 43 arr)/\U'<=U2+2*runN (names.zip vs) (.mk h b)/\Hd (TobQ tb mb B keep names vs U' (D2 ++ kL keep (rqS (names.zip vs) no2 count2 (.mk h b))) (many2+sumI (instS (names.zip vs) no2 (.mk h b))) (count2+(instS (names.zip vs) no2 (.mk h b)).length) V3 wx))
   case first=>
    have q1:=HB2.o.cell;have q1l:=HB2.o.lt;have qm:=HM0.o.cell;have qml:=HM0.o.lt;rcases hkind with⟨hk3,hb0⟩|⟨hk2,hcd,hfb⟩|hk1
    ·skip
     have HCC:=hd (HINST.o hk3 hb0);have HPP:=hd (HPL.o hb0);clear HINST HPL HLOOP HHAS HWHEN;have e3:(h.k==3)=true:=by simpa using hk3
     clear hk3 hb0
     go_wp2_with (first
      | refine wpList_load_wide rfl 43 _ rfl sb 0 rfl arr HB2.o.wide _ Tryz.underlying43 rfl HSZ.o ?_
      | (refine wpList_built rfl 238 _ rfl (plA h no2 NA names.length nc) ?cc ?_;case cc=>refine Eq.trans (congrArg (Tryz.prog.built 238) (?_:_=[(0,Value.agg arr),(1,Value.int .i64 no2),(2,Value.slice NA names.length nc)])) HPP.o;simp[Act.eval]))
     refine(HCC.o V2 w2 HQ4.o HE04.o HN4.o).mono ?_
     rintro e w3 ⟨rfl,V3,hE,hq⟩;have HE5:=hd (HE4.o.trans hE);have HQ5:=hd hq;have HB5:=hd (hE.blk HQ4.o HB2.o (by decide) (by decide));clear hE hq q1 q1l qm qml;go_wp2_with fail
     go_meet
     exact⟨V3,U2,HE5,HB5,by omega,HQ5⟩
    ·skip
     have HHA:=hd (HHAS.o hcd w2 V2 _ _ _ _ HQ4.o HE04.o HM0.o);have HWH:=hd (HWHEN.o hk2 hfb);have HRN:=hd (runN_when (env:=names.zip vs) (b:=b) hk2);have HIN:=hd (instS_when (env:=names.zip vs) (no:=no2) (b:=b) hk2);have HRQ:=hd (rqS_when (env:=names.zip vs) (no:=no2) (c:=count2) (b:=b) hk2);clear HINST HPL HLOOP HHAS HWHEN;have e3:(h.k==3)=false:=by simp[hk2]
     have e2:(h.k==2)=true:=by simpa using hk2
     clear hk2 hcd hfb;go_wp2_with fail
     refine HHA.o.mono ?_
     rintro e w3 ⟨rfl,hE⟩;have HQ5:=hd (HQ4.o.grow hE);have HE5:=hd (HE4.o.grow hE);have HB5:=hd (HB2.o.ext hE (by simp));have HM5:=hd (HM0.o.ext hE (by simp));have HN5:=hd (HN4.o.ext hE (by simp));have HE05:=hd (HE04.o.trans hE);clear hE q1 q1l qm qml;have q1:=HB5.o.cell;have q1l:=HB5.o.lt;have qm:=HM5.o.cell;have qml:=HM5.o.lt;cases hh:holdsS (names.zip vs) h
     ·have hi0:instS (names.zip vs) no2 (.mk h b)=[]:=by rw[HIN.o,hh];rfl
      have hr0:rqS (names.zip vs) no2 count2 (.mk h b)=[]:=by rw[HRQ.o,hh];rfl
      clear HWH;go_wp2_with fail
      go_meet
      exact⟨V2,U2,HE5,HB5,by omega,by rw[hi0,hr0];simpa[kL,sumI] using HQ5⟩
     ·have HCC:=hd (HWH.o hh V2 w3 HQ5.o HE05.o HN5.o);have hrn:runNL (names.zip vs) b<=runN (names.zip vs) (.mk h b):=by rw[HRN.o,if_pos hh];omega
      clear HWH;go_wp2_with fail
      refine HCC.o.mono ?_
      rintro e w4 ⟨rfl,V3,hE,hq⟩;have HE6:=hd (HE5.o.trans hE);have HQ6:=hd hq;have HB6:=hd (hE.blk HQ5.o HB5.o (by decide) (by decide));clear hE hq q1 q1l qm qml;go_wp2_with fail
      go_meet
      exact⟨V3,_,HE6,HB6,by omega,HQ6⟩
    ·skip
     have HCC:=hd (HLOOP.o hk1);clear HINST HPL HLOOP HHAS HWHEN;have e3:(h.k==3)=false:=by simp[hk1]
     have e2:(h.k==2)=false:=by simp[hk1]
     clear hk1;have HN1L:=hd (show(names ++ [h.var]).length=names.length+1 by simp);have hzz:=HZ.o;have hl8:names.length<=8:=HG.o.eight;clear q1 q1l qm qml;go_upto_region 5 with fail
     refine rgH 10 [(4,sFix (.slice NA names.length names.length)),(7,sStr h.var),(8,sNam (names ++ [h.var]))] ?_ ?_
     ·refine Stays.cons sFix.stays (Stays.cons sStr.stays (Stays.cons sNam.stays Stays.nil))
     simp only[List.take_succ_cons,List.take_zero,List.drop_succ_cons,List.drop_zero]
     repeat
      refine relAt_det rfl rfl ?_
      apply Exists.intro
      refine⟨fun wr nr hJ=>?_,?_⟩
      ·skip
       clear hJ;(go_simp;try go_bits)
       first|rfl|exact⟨rfl,rfl⟩
      simp only[Act.put,List.setIfInBounds_toArray,List.set_cons_succ,List.set_cons_zero]
     refine relAt_det rfl rfl ?_
     apply Exists.intro
     refine⟨fun wr nr hJ=>?_,?_⟩
     ·exact exec_load_wide 43 _ rfl sb 0 rfl arr (HB2.o.ext hJ.1 (by simp)).wide _ Tryz.underlying43 rfl HSZ.o
     simp only[Act.put,List.setIfInBounds_toArray,List.set_cons_succ,List.set_cons_zero]
     repeat
      refine relAt_det rfl rfl ?_
      apply Exists.intro
      refine⟨fun wr nr hJ=>?_,?_⟩
      ·have qx:=(HB2.o.ext hJ.1 (by simp)).cell;have qxl:=(HB2.o.ext hJ.1 (by simp)).lt;clear hJ;(go_simp;try go_bits)
       first|rfl|exact⟨rfl,rfl⟩
      simp only[Act.put,List.setIfInBounds_toArray,List.set_cons_succ,List.set_cons_zero]
     refine rel_ext (sFix (.slice NA names.length names.length)) rfl rfl ?_ ?_
     ·apply Exists.intro
      apply Exists.intro
      refine⟨fun wr=>?_,fun wr nr hJ hf=>?_⟩
      ·go_simp
       first|exact⟨rfl,rfl⟩|rfl
      ·refine(clip_any NA names.length nc wr hzz.1 hzz.2.1 hzz.2.2).mono ?_
       rintro e w' ⟨rfl,hE⟩;exact⟨(),rfl,trivial,hE⟩
     rintro⟨⟩;simp only[Act.put,List.setIfInBounds_toArray,List.set_cons_succ,List.set_cons_zero]
     repeat
      refine relAt_det rfl rfl ?_
      apply Exists.intro
      refine⟨fun wr nr hJ=>?_,?_⟩
      ·have qx:=(HB2.o.ext hJ.1 (by simp)).cell;have qxl:=(HB2.o.ext hJ.1 (by simp)).lt;clear hJ;(go_simp;try go_bits)
       first|rfl|exact⟨rfl,rfl⟩
      simp only[Act.put,List.setIfInBounds_toArray,List.set_cons_succ,List.set_cons_zero]
     refine rel_new (sStr h.var) rfl rfl (fun wr nr hJ hf=>?_) ?_
     ·refine⟨wr.heap.size,.cells #[.string h.var] 9,?_,(Blk.new wr 9 #[.string h.var]).cell 0⟩
      (go_simp;try go_bits)
      first|rfl|exact⟨rfl,rfl⟩
     intro (g:Nat);simp only[Act.put,List.setIfInBounds_toArray,List.set_cons_succ,List.set_cons_zero];refine rel_nam 7 g _ _ NA names h.var rfl rfl rfl rfl rfl (fun hA=>(hzz.1 hA).1) (fun w' m hJ=>HN4.o.ext hJ.1 (by simp)) (by kernel_rfl) rfl (by omega) ?_
     rintro⟨g8,c8⟩;simp only[Act.put,List.setIfInBounds_toArray,List.set_cons_succ,List.set_cons_zero]
     repeat
      refine relAt_det rfl rfl ?_
      apply Exists.intro
      refine⟨fun wr nr hJ=>?_,?_⟩
      ·have qm:=(HM0.o.ext hJ.1 (by simp)).cell;have qml:=(HM0.o.ext hJ.1 (by simp)).lt;clear hJ;(go_simp;try go_bits)
       first|rfl|exact⟨rfl,rfl⟩
      simp only[Act.put,List.setIfInBounds_toArray,List.set_cons_succ,List.set_cons_zero]
     refine relAt_nil (fun w5 hJ hF=>?_)
     have HN5:Hd (NamB w5 (some ⟨g8,0,none⟩) (names ++ [h.var])/\VzP (some ⟨g8,0,none⟩) (names ++ [h.var]).length c8):=hd (hF 8);have HE9:=hd hJ.1;clear hF hJ;have HQ5:=hd (HQ4.o.grow HE9.o);have HE5:=hd (HE4.o.grow HE9.o);have HB5:=hd (HB2.o.ext HE9.o (by simp));have HCD:=hd (HCC.o (some ⟨g8,0,none⟩) c8 V2 w5 HQ5.o (HE04.o.trans HE9.o) HN5.o.1 HN5.o.2);clear HCC;rw[HN1L.o] at HCD;rw[HN1L.o];dsimp only[sFix,sStr];go_wp2_with fail
     refine HCD.o.mono ?_
     rintro e w6 ⟨rfl,V3,hE,hq⟩;have HE6:=hd (HE5.o.trans hE);have HQ6:=hd hq;have HB6:=hd (hE.blk HQ5.o HB5.o (by decide) (by decide));clear hE hq;go_wp2_with fail
     go_meet
     exact⟨V3,_,HE6,HB6,by omega,HQ6⟩
   case rest=>
    obtain⟨V3,U3,HE5,HB5,hU3,HQ5⟩:=hcut;rename World=>w3
    have HS5:=hd (HSLI.o w3);have HBg:=hd (Blk.new w3 43 arr);have HEg:=hd ((Ext.refl [] w3).alloc (.cells arr 43));have HQ6:=hd (HQ5.o.grow HEg.o);have HE6:=hd (HE5.o.grow HEg.o);have HST6:=hd (HSTO.o _ _ HBg.o (HE6.o.stay HQ1.o HE1.o htb hmb));have HNX6:=hd (fun W=>HNX.o V3 W U3)
    go_wp2_with (first
     | refine wpList_load_wide rfl 43 _ rfl sb 0 rfl arr HB5.o.wide _ Tryz.underlying43 rfl HSZ.o ?_
     | refine wpList_op_run rfl (.slice (some ⟨w3.heap.size,0,none⟩) 1 1) _ (exec_buildSlice rfl _ _ _ _ (.agg arr) rfl HS5.o) ?_)
    refine HST6.o.mono ?_
    rintro e w4 ⟨rfl,hE⟩;have HQ7:=hd (HNX6.o _ (HQ6.o.grow hE) hU3);have HE7:=hd (HE6.o.grow hE);clear hE;generalize storesS (St.mk h b)=sx at *;go_wp2_with fail
    go_roundw
    case rel=>exact⟨k+1,V3,by rw[hK3,<-Nat.add_assoc,hno2];go_num,by go_num,by omega,HE7,HQ7⟩
    case measure=>simp[intOf];omega
  ·have hkn:k=n:=by omega
   subst hkn;have HT:Hd (l.take k=l):=hd (List.take_of_length_le (by have:=HNL.o;omega));rw[HT.o] at HQk;go_wp2_with fail
   exact bodyPost_end (results_none rfl _ _ _) rfl ⟨rfl,V2,⟨fun g hg=>(HE.o.1 g hg).imp id fun h1=>by omega,HEx.o.nil.trans HE.o.2⟩,HQk.o⟩
theorem rbody_any:∀s:St,TbC s.body:=st_ind fun h b ih=>rbody_list b ih
end Go.Proofs.YtfjdmoppfbddpaaGreatDoor
