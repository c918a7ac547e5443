import Derived.Test.YtfppibmloloakaaGreatDoorP22
namespace Go.Proofs.YtfppibmloloakaaGreatDoor
open Go.RowKit Go.Proofs.Tryz
set_option linter.all false
section
theorem env8_list {l:List St}{m:Nat}(ih:∀s∈l,∀(env:Env) (no:Nat),env.length=m->∀i∈instS env no s,i.env.length<=8):∀(env:Env) (no:Nat),env.length=m->∀i∈instL env no l,i.env.length<=8:=by
 induction l with
 | nil=>intro env no _ i hi;simp[instL] at hi
 | cons s l ihl=>
  intro env no he i hi;simp only[instL,List.mem_append] at hi;rcases hi with hi|hi
  ·exact ih s (List.mem_cons_self ..) env no he i hi
  ·exact ihl (fun s hs=>ih s (List.mem_cons_of_mem _ hs)) env _ he i hi
theorem vec8 {env:Env}{h:SH}:∀(b:List St) (no:Nat),∀i∈vecI env h no b,i.env.length=env.length+1
 | [],no,i,hi=>by simp[vecI] at hi
 | s :: b,no,i,hi=>by
  simp only[vecI,List.mem_append,List.mem_map] at hi;rcases hi with⟨k,-,rfl⟩|hi
  ·simp[envS]
  ·exact vec8 b (no+1) i hi
theorem env8 {nb:Nat}:∀(s:St) (names:List ByteArray),Fd nb names s->names.length<=8->∀(env:Env) (no:Nat),env.length=names.length->∀i∈instS env no s,i.env.length<=8:=by
 refine st_ind fun h b ih=>?_
 intro names hF h8 env no he i hi;cases hF with
 | store _ _ h1=>
  rw[instS_store h1] at hi;rw[List.mem_singleton.1 hi];simp only;omega
 | when _ _ _ h1 _ _ _ h9=>
  rw[instS_when h1] at hi;split at hi
  ·exact env8_list (fun s hs env no he=>ih s hs names (h9 s hs) h8 env no he) env no he i hi
  ·simp at hi
 | loop _ _ _ h1 _ _ h0 _ _ _ _ h9=>
  cases hv:h.vec
  ·rw[instS_for h1 hv] at hi;unfold catN at hi;rw[List.mem_flatten] at hi;obtain⟨l',hl',hil⟩:=hi;obtain⟨k,-,rfl⟩:=List.mem_map.1 hl';exact env8_list (m:=names.length+1) (fun s hs env no he=>ih s hs (names ++ [h.var]) (h9 s hs) (by simp;omega) env no (by simpa using he)) _ no (by simp[envS,he]) i hil
  ·rw[instS_vec h1 hv] at hi;have:=vec8 b no i hi;omega
theorem keys8 {nb:Nat}{body:List St}(hF:∀s∈body,Fd nb [] s):∀k∈keysB body,k.2.length<=8:=fun k hk=>by
 obtain⟨i,hi,rfl⟩:=List.mem_map.1 hk;have:=env8_list (m:=0) (fun s hs env no he=>env8 s [] (hF s hs) (by simp) env no (by simpa using he)) [] 0 rfl i hi;simpa[kyI] using this
attribute [local irreducible] relAt
theorem zKy_run (W:World):(zeroValue 98).run Tryz.prog W=.ok (.agg (keyB 0 0)) W:=by kernel_rfl
set_option maxHeartbeats 8000000 in
set_option maxRecDepth 100000 in
theorem instances_any (p:Pg)(w:World)(hP:PgIn w p):Calls Tryz.prog 16 #[pgV p] w (InstP p w):=by
 have HC:=hd (fun W (hW:Ext [] w W)=>traced_any p W (hP.keep hW));unfold InstP;unfold TracedP at HC;generalize orderE p=oe at *;obtain⟨A,cap,bs,B,bcap,body⟩:=p;dsimp only[pgV] at *;clear hP;have HE0:=hd ((Ext.refl [] w).alloc (.cells #[.slice A bs.length cap,.slice B body.length bcap] 29));go_enter Tryz.func16,Tryz.ntmps16
 go_wp2_with fail
 generalize World.alloc w _=w1 at *;refine(HC.o w1 HE0.o).mono ?_
 rintro e w2 ⟨hE,⟨h1,h2⟩|⟨h1,h2,h3,n,cb,tb,BB,h4,h5,h6,h7,hT⟩⟩
 ·have HN:=hd h1;have HE2:=hd (HE0.o.trans hE);subst h2;have e1:(oe != 0)=true:=by simpa using h1
  clear h1 hE;go_wp2_with fail
  go_ret2
  exact⟨HE2.o,.inl ⟨HN.o,rfl⟩⟩
 ·subst h1;subst h4;have HE2:=hd (HE0.o.trans hE)
  have hK9:(keysB body).length<=2000:=by
   unfold smallB at h3;simp only[Bool.and_eq_true,decide_eq_true_eq] at h3;unfold keysB;rw[List.length_map];exact h3.1
  obtain⟨vL,vT,hB,hL,-⟩:=hT.2.2
  have HKV:=hd (keys8 (FormOk.of (show formedE bs body=0 by
   unfold checkE at h2;split at h2
   ·assumption
   ·exact absurd h2 (by assumption))).fd)
  generalize hKB:keysB body=K at *;have HKB:=hd hKB;clear hKB;obtain⟨LA,lc,rfl,HSQ,-⟩:=own_held kyL (fun x=>by simp[kyL,keyA]) hL rfl (by omega);have HSEQ:=hd HSQ;have qb:=hB.cell;have qbl:=hB.lt;have hw2:=HE2.o.size;clear hE h2 h3 h5 h6 h7 hT hB hL HSQ HC;generalize hkl:K.length=m at *;have HKL:=hd hkl;clear hkl;go_wp2_with fail
  clear qb qbl;have HOE:=hd (Ext.refl [] w2);generalize hH2:w2.heap.size=H2 at *;go_loopw [6,22] (fun v i wr=>∃(k:Nat) (O:List InO),i=.int .i64 k/\k<=m/\O.length=k/\Hd (Ext [] w2 wr)/\Hd (O.map InO.key=K.take k)/\Hd (wr.ownsRow H2 101 2 v k (O.flatMap ioC))/\Hd (InsIn w.heap.size O wr)) (fun _ i _=>(m-intOf i).toNat)
  case atStart=>exact⟨0,[],rfl,Nat.zero_le _,rfl,HOE,hd (by simp),hd (own_none _ _ _ _),hd (fun x hx=>by simp at hx)⟩
  case round=>
   obtain⟨k,O,rfl,hk,hO,HE,HM,HR,HIN⟩:=hrel;rename World=>wq
   by_cases hlt:k<m
   ·have hkm:(k:Int)<(m:Int):=by omega
    obtain⟨bb,⟨no,vs⟩,rfl,hx,hc⟩:=(HSEQ.o.keep HE.o).at (i:=k) (by have:=HKL.o;omega);have hvl:=HKV.o _ (List.mem_of_getElem? hx);simp only at hvl;have HXK:=hd hx;have HW:=hd (fun j v hv=>hc j v hv:∀(j:Nat) (v:Value),(keyA no vs).toList[j]? = some v->wq.cell? ⟨bb,k*10+j,none⟩=some v)
    have hbl:bb<wq.heap.size:=by
     have:=World.block_lt_of_cell? wq _ (HW.o 0 (.int .i64 no) rfl);simpa using this
    have HSZ:=hd (show(Tryz.prog.info? 98).map (·.size)=some (keyA no vs).size from infoKey);have HZS:=hd (show(keyB 0 0).size=(keyA no vs).size from rfl);have HON:=hd (keyA_one no vs);have HB2:=hd (Blk.new wq 98 (keyA no vs));have HEx2:=hd ((Ext.refl [] wq).alloc (.cells (keyA no vs) 98));have ha0:(keyA no vs)[0]? = some (.int .i64 no):=rfl;have ha1:(keyA no vs)[1]? = some (.int .i64 vs.length):=rfl
    have HAV:Hd (∀(i:Nat) (x:Int),vs[i]? = some x->(keyA no vs)[2+i]? = some (.int .i64 x)):=hd fun i x hx=>by
     have hi:=(List.getElem?_eq_some_iff.1 hx).1;have h9:=vAt_get hx;have:i=0\/i=1\/i=2\/i=3\/i=4\/i=5\/i=6\/i=7:=by omega
     rcases this with rfl|rfl|rfl|rfl|rfl|rfl|rfl|rfl<;>(rw[<-h9];rfl)
    generalize keyA no vs=arr at *;clear hx hc;generalize hvn:vs.length=d at *;have HVN:=hd hvn;clear hvn
    go_upto_region 8 with(first
     | refine wpList_load_wide rfl 98 _ rfl bb (k*10) rfl arr HW.o _ Tryz.underlying98 rfl HSZ.o ?_
     | refine wpList_make_wide rfl rfl 98 _ _ rfl rfl (keyB 0 0) (zKy_run _) arr rfl rfl HSZ.o HZS.o HON.o ?_)
    have HE3:=hd (HE.o.trans HEx2.o);have HR3:=hd (own_ext HR.o HEx2.o (by simp));have HIN3:Hd (InsIn w.heap.size O (World.alloc wq (.cells arr 98))):=hd fun x hx=>(HIN.o x hx).ext0 HEx2.o
    have hw3:wq.heap.size<=(World.alloc wq (.cells arr 98)).heap.size:=HEx2.o.size;generalize World.alloc wq _=w3 at *;generalize hkb:wq.heap.size=kb at *;have hwk:w.heap.size<=kb:=by have:=HE.o.size;omega
    obtain⟨i0,hi0,hz0,hz1,hz2⟩:=ioInfo
    have HLT:Hd (∀q,u6.ownBlock=some q->H2<=q/\q<kb):=hd fun q hq=>by
     obtain⟨C,h6⟩:=own_blks HR.o hq;have:=h6.lt;exact⟨own_base HR.o q hq,by omega⟩
    have HKT:Hd (kb∉u6.ownBlock.toList):=hd fun hm=>by have:=(HLT.o kb (Option.mem_toList.1 hm)).2;omega
    have hkw3:kb<w3.heap.size:=HB2.o.lt;have hh23:H2<=w3.heap.size:=by have:=HE3.o.size;omega
    have HCL:=hd (fun W (hW:Ext [] w3 W)=>jClone_any kb 2 d 8 vs W (by have:=hW.size;omega) (fun i x hx=>by rw[(HB2.o.ext hW (by simp)).cell];exact HAV.o i x hx) HVN.o (by omega));have HYL:=hd (ios_len O);generalize hts:O.flatMap ioC=ts at *;have HTS:=hd hts;clear hts HW HSZ HZS HON HAV;have h08:(0:Int)<=d:=by omega
    have h88:(d:Int)<=8:=by omega
    refine rgA 11 10 u6.ownBlock.toList [(7,sClo w3.heap.size d vs),(8,sBu w3.heap.size no d vs),(9,sIo w3.heap.size no d vs),(10,sApN H2 101 2 k ts (ioX w3.heap.size no d vs fun g8=>u6.ownBlock=some g8\/w3.heap.size<=g8))] rfl (by simp[kinds]) (fun oi h=>by cases h;rfl) ?_ ?_
    ·have hno:∀b,w3.heap.size<=b->b∉u6.ownBlock.toList:=fun b hb hm=>by have:=(HLT.o b (Option.mem_toList.1 hm)).2;omega
     refine kinds_four (fun j hj u w w' hR h=>?_) (fun j hj u w w' hR h=>?_) (fun j hj u w w' hR h=>?_) fun j hj u w w' hR h=>?_
     ·exact NumR.ext h hR.all fun b _ h1 _=>hno b h1
     ·exact NumR.ext h hR.all fun b _ h1 _=>hno b h1
     ·obtain⟨h0,A,c,h1,h2⟩:=h;exact⟨h0,A,c,h1.ext hR.all fun b _ h1 _=>hno b h1,fun j u hj=>hR.all.held (h2 j u hj) (hno _ h0)⟩
     ·obtain⟨ys,⟨h0,A,c,h1,h3⟩,h2⟩:=h;exact⟨ys,⟨h0,A,c,h1.ext0 (hR.pre hj),h3⟩,own_ext h2 (hR.pre hj) (by simp)⟩
    simp only[List.take_succ_cons,List.take_zero,List.drop_succ_cons,List.drop_zero]
    repeat
     refine relAt_detU rfl rfl ?_
     apply Exists.intro
     refine⟨fun wr nr hg hJ=>?_,?_⟩
     ·have hA:=hJ.all;have qb:=(HB2.o.ext hA HKT.o).cell;have qbl:=(HB2.o.ext hA HKT.o).lt;clear hA hg;clear hJ;(go_simp;try go_bits)
      first|rfl|exact⟨rfl,rfl⟩
     simp only[Act.put,List.setIfInBounds_toArray,List.set_cons_succ,List.set_cons_zero]
    refine rel_extA (sClo w3.heap.size d vs) rfl rfl (by decide) ?_ ?_
    ·apply Exists.intro
     apply Exists.intro
     refine⟨fun wr=>?_,fun wr r hg hJ hf=>?_⟩
     ·go_simp
      first|exact⟨rfl,rfl⟩|rfl
     ·have hW:=hJ.pre (hg.later 10 (by kernel_rfl));refine(HCL.o wr hW).mono ?_
      rintro e w' ⟨A,c,rfl,hN,hE⟩;exact⟨(A,c),rfl,hN.low hW.size,hE⟩
    rintro⟨A7,c7⟩;simp only[Act.put,List.setIfInBounds_toArray,List.set_cons_succ,List.set_cons_zero];refine rel_sayA (sBu w3.heap.size no d vs) (A7,c7) rfl rfl (by decide) (fun wr=>?_) (fun wr r hg hJ hf=>(get_after hf 7 (by kernel_rfl):(sClo w3.heap.size d vs).V (A7,c7) wr)) ?_
    ·(go_simp;try go_bits)
     first|rfl|exact⟨rfl,rfl⟩
    rintro⟨A8,c8⟩;simp only[Act.put,List.setIfInBounds_toArray,List.set_cons_succ,List.set_cons_zero];refine rel_newA (sIo w3.heap.size no d vs) rfl rfl (by decide) (fun wr r hg hJ hf=>?_) ?_
    ·have hq:(sBu w3.heap.size no d vs).V (A8,c8) wr:=get_after hf 8 (by kernel_rfl);refine⟨wr.heap.size,.cells #[.int .i64 no,.slice A8 d c8] 101,?_,hJ.all.size,A8,c8,NumR.ext0 hq ((Ext.refl [] wr).alloc _),fun j u hj=>by rw[(Blk.new wr 101 #[.int .i64 no,.slice A8 d c8]).cell j];simpa using hj⟩
     refine exec_buildSlice rfl _ _ _ _ (.agg #[.int .i64 no,.slice A8 d c8]) ?_ ?_
     ·rfl
     ·exact io_slice wr _ _ rfl rfl
    intro (b8:Nat);simp only[Act.put,List.setIfInBounds_toArray,List.set_cons_succ,List.set_cons_zero];refine rel_appN 9 b8 51 H2 2 101 i0 _ 32 u6 k 1 ts _ _ (fun b ys w=>w3.heap.size<=w.heap.size/\∃A c,NumR w3.heap.size A vs w/\ys=[.int .i64 no,.slice A d c]) (ioX w3.heap.size no d vs fun g8=>u6.ownBlock=some g8\/w3.heap.size<=g8) (sIo w3.heap.size no d vs).V rfl rfl rfl (by kernel_rfl) hi0 hz0 hz1 hz2 rfl (by decide) rfl rfl rfl rfl ?_ (by kernel_rfl) rfl ?_ ?_ ?_ ?_ ?_ ?_
    ·exact fun wr hE=>own_ext HR3.o hE (by simp)
    ·exact fun w ⟨h0,A,c,h1,h2⟩=>⟨_,rfl,h2,fun u hu=>by simp only[List.mem_cons,List.not_mem_nil,or_false] at hu;rcases hu with rfl|rfl<;>rfl,Nat.le_trans h0 (Nat.le_of_lt (World.block_lt_of_cell? w _ (h2 0 _ rfl))),A,c,h1,rfl⟩
    ·rintro y g8 w8 w9 ⟨h0,A,c,h1,rfl⟩ hE hg hlt;exact⟨hg.imp id (fun h=>by omega),A,c,h1.ext hE fun b _ hb _ hm=>by have:=(HLT.o b (Option.mem_toList.1 hm)).2;omega,rfl⟩
    ·unfold maxLen;omega
    ·omega
    ·omega
    intro u9;simp only[Act.put,List.setIfInBounds_toArray,List.set_cons_succ,List.set_cons_zero];refine relAt_nilU (fun w8 r hr hJ hF=>?_)
    have h10:(sApN H2 101 2 k ts (ioX w3.heap.size no d vs fun g8=>u6.ownBlock=some g8\/w3.heap.size<=g8)).V u9 w8:=hF 10;obtain⟨g8,c9⟩:=u9;obtain⟨ys,⟨hloc,A9,c10,hN9,rfl⟩,hO8⟩:=h10;have HE8:=hd hJ.all;have HO8:Hd (w8.ownsRow H2 101 2 (.slice (some ⟨g8,0,none⟩) (k+1) c9) (k+1) (ts ++ [.int .i64 no,.slice A9 d c10])):=hd hO8;have HN9:=hd hN9;have HFIN:Hd (Ext [] w2 w8):=hd (HE3.o.step HE8.o fun x hx=>.inr (by rw[hH2];exact(HLT.o x (Option.mem_toList.1 hx)).1))
    have HINF:Hd (InsIn w.heap.size (O ++ [⟨no,vs,A9,c10⟩]) w8):=hd fun x hx=>by
     rcases List.mem_append.1 hx with hx|hx
     ·exact(HIN3.o x hx).own HR3.o (by decide) HE8.o
     ·rw[List.mem_singleton.1 hx];exact HN9.o.low (by omega)
    dsimp only[sApN];clear hF hJ hr hO8 hloc HCL hN9;go_wp2_with fail
    go_roundw
    case rel=>
     refine⟨k+1,O ++ [⟨no,vs,A9,c10⟩],by go_num,by omega,by simp[hO],HFIN,hd ?_,hd ?_,HINF⟩
     ·rw[List.map_append,HM.o,List.take_add_one,HXK.o];rfl
     ·rw[List.flatMap_append,HTS.o];simpa[ioC,HVN.o] using HO8.o
    case measure=>simp[intOf];omega
   ·have hkm:k=m:=by omega
    subst hkm;have HTK:Hd (K.take k=K):=hd (List.take_of_length_le (by have:=HKL.o;omega));have HO:=hd hO;clear hO;go_wp2_with fail
    go_ret2
    exact⟨HE2.o.trans HE.o,O,u6,rfl,by rw[HM.o,HTK.o,HKB.o],by have:=HO.o;omega,⟨H2,by omega,by rw[HO.o];exact HR.o⟩,HIN.o⟩
end
section
structure MemL (w:World)(mb wb sb cw cs:Nat)(R:List (Nat×Nat×Nat)):Prop where
 blk:Blk w mb 176 #[.slice (some ⟨wb,0,none⟩) R.length cw,.slice (some ⟨sb,0,none⟩) R.length cs]
 row:∀(i:Nat) (x:Nat×Nat×Nat),R[i]? = some x->w.cell? ⟨wb,i,none⟩=some (.slice (some ⟨x.1,0,none⟩) x.2.2 x.2.2)/\w.cell? ⟨sb,i,none⟩=some (.slice (some ⟨x.2.1,0,none⟩) x.2.2 x.2.2)
 len:R.length<=1000/\∀x∈R,x.2.2<=1000000
theorem MemL.ext {w w':World}{mb wb sb cw cs:Nat}{R:List (Nat×Nat×Nat)}(h:MemL w mb wb sb cw cs R){S:List Nat}(hE:Ext S w w')(hS:mb∉S/\wb∉S/\sb∉S):MemL w' mb wb sb cw cs R:=
 ⟨h.blk.ext hE hS.1,fun i x hx=>⟨hE.held (h.row i x hx).1 hS.2.1,hE.held (h.row i x hx).2 hS.2.2⟩,h.len⟩
set_option maxHeartbeats 4000000 in
set_option maxRecDepth 100000 in
theorem mread_any (mb wb sb cw cs:Nat)(R:List (Nat×Nat×Nat))(i j:Nat)(b c n:Nat)(v:Int)(w:World)(hM:MemL w mb wb sb cw cs R)(hx:R[i]? = some (b,c,n))(hj:j<n)
  (hs:w.cell? ⟨c,j,none⟩=some (.bool true)) (hv:w.cell? ⟨b,j,none⟩=some (.int .i64 v)) :
  Calls Tryz.prog 182 #[.pointer (some ⟨mb,0,none⟩),.int .i64 i,.int .i64 j] w fun e w'=>e=.returned (.int .i64 v)/\Ext [] w w':=by
 have hi:=(List.getElem?_eq_some_iff.1 hx).1;obtain⟨h1,h2⟩:=hM.row i _ hx;simp only at h1 h2;have qb:=hM.blk.cell;have qbl:=hM.blk.lt;have l1:=World.block_lt_of_cell? w _ h1;have l2:=World.block_lt_of_cell? w _ h2;have l3:=World.block_lt_of_cell? w _ hs;have l4:=World.block_lt_of_cell? w _ hv;have hl:=hM.len.1;have hn:=hM.len.2 _ (List.mem_of_getElem? hx);simp only at l1 l2 l3 l4 hn;have hin:(i:Int)<(R.length:Int):=by omega
 have hjn:(j:Int)<(n:Int):=by omega
 clear hM hx;generalize R.length=m at *;go_enter Tryz.func182,Tryz.ntmps182
 go_wp2_with fail
 go_ret
 exact⟨rfl,Ext.refl _ _⟩
attribute [local irreducible] relAt
set_option maxHeartbeats 4000000 in
set_option maxRecDepth 100000 in
theorem mload_any (mb wb sb cw cs:Nat)(R:List (Nat×Nat×Nat))(i j b c n:Nat)(v:Int)(h:EH)(g nn nb eb:Nat)(names:List ByteArray)(vs:List Int)(w:World)(hM:MemL w mb wb sb cw cs R)(hx:R[i]? = some (b,c,n))(hj:j<n)
  (hs:w.cell? ⟨c,j,none⟩=some (.bool true)) (hv:w.cell? ⟨b,j,none⟩=some (.int .i64 v)) (hk:h.k=3) (hb:h.buf=i) (hC:CEx w nn [] names g (.mk h [])) (hX:exprE names nb (.mk h [])=0) (hV:EnvR w eb vs) (hl:vs.length=names.length) (hA:evA (names.zip vs) h.at_=j) :
  Calls Tryz.prog 143 #[.pointer (some ⟨mb,0,none⟩),ptV g,.slice (some ⟨eb,0,none⟩) vs.length 8] w fun e w'=>e=.returned (.int .i64 v)/\Ext [] w w':=by
 have HO:=hd (ExOk.of hX)
 obtain⟨pb,po,A,cap,gs,hg,hp'⟩:∃(pb po:Nat) (A:Option Addr) (cap:Nat) (gs:List Nat),Blk w g 271 (ceArr pb po h.at_.base (coefS names h.at_.ts) (.slice A 0 cap))/\(∀(j:Nat) (v:Value),(exH h 0)[j]? = some v->w.cell? ⟨pb,po+j,none⟩=some v):=by
  cases hC with
  | mk _ _ _ pb po A cap gs hg hg2 hp hp2 hk hk2 hl hs=>exact⟨pb,po,A,cap,gs,hg,hp⟩
 have HG:=hd hg
 have HLn:Hd (∀(j:Nat) (v:Value),(lnArr h.at_.base (coefS names h.at_.ts)).toList[j]? = some v->w.cell? ⟨g,1+j,none⟩=some v):=hd fun j v hv=>by
  rw[HG.o.cell];have h9:=(List.getElem?_eq_some_iff.1 hv).1;have:j=0\/j=1\/j=2\/j=3\/j=4\/j=5\/j=6\/j=7\/j=8:=by simp[lnArr] at h9;omega
  rcases this with rfl|rfl|rfl|rfl|rfl|rfl|rfl|rfl|rfl<;>exact hv
 have HAFF:=hd (fun W (hW:Ext [] w W)=>aff_any g 1 names h.at_ eb vs W (fun j v hv=>hW.held (HLn.o j v hv) (by simp)) (hV.keep hW (by simp)) HO.o.aff hl);rw[hA] at HAFF;have HRD:=hd (fun W (hW:Ext [] w W)=>mread_any mb wb sb cw cs R i j b c n v W (hM.ext hW (by simp)) hx hj (hW.held hs (by simp)) (hW.held hv (by simp)));have qg0:w.cell? ⟨g,0,none⟩=some (.pointer (some ⟨pb,po,none⟩)):=hg.cell 0;have qgl:=hg.lt;have qk:w.cell? ⟨pb,po,none⟩=some (.int .i64 h.k):=hp' 0 _ rfl;have qf:w.cell? ⟨pb,po+6,none⟩=some (.int .i64 h.buf):=hp' 6 _ rfl;rw[hk] at qk;rw[hb] at qf;have qpl:=World.block_lt_of_cell? w _ qk;simp only at qpl;have HQ:Hd (∀W,Ext [] w W->W.cell? ⟨g,0,none⟩=some (.pointer (some ⟨pb,po,none⟩))/\g<W.heap.size/\W.cell? ⟨pb,po+6,none⟩=some (.int .i64 i)/\pb<W.heap.size):=hd fun W hW=>⟨hW.held qg0 (by simp),by have:=hW.size;omega,hW.held qf (by simp),by have:=hW.size;omega⟩
 clear hM hx hs hv hC hX hV hl hA hg hp' hk hb;generalize vs.length=d at *;unfold ptV;go_enter Tryz.func143,Tryz.ntmps143
 go_upto_region 7 with fail
 clear qg0 qgl qk qf qpl;refine wp_region_rel 14 (JE _) (Ext []) (kinds [(12,sFix (.int .i64 j)),(13,sFix (.int .i64 v))]) (by kernel_rfl) (by kernel_rfl) JE.less ?_ JE.start ?_
 ·repeat(first|exact Stays.nil|refine Stays.cons sFix.stays ?_)
 simp only[List.take_succ_cons,List.take_zero,List.drop_succ_cons,List.drop_zero]
 repeat
  refine relAt_det rfl rfl ?_
  apply Exists.intro
  refine⟨fun wr nr hJ=>?_,?_⟩
  ·obtain⟨q0,ql,q6,qpl⟩:=HQ.o wr hJ;clear hJ;(go_simp;try go_bits)
   first|rfl|exact⟨rfl,rfl⟩
  simp only[Act.put,List.setIfInBounds_toArray,List.set_cons_succ,List.set_cons_zero]
 refine rel_fix rfl rfl ?_ ?_
 ·apply Exists.intro
  apply Exists.intro
  refine⟨fun wr=>?_,fun wr nr hJ=>?_⟩
  ·go_simp
   first|exact⟨rfl,rfl⟩|rfl
  ·exact(HAFF.o wr hJ).mono (by rintro e w' ⟨rfl,hE⟩;exact⟨rfl,hE⟩)
 simp only[Act.put,List.setIfInBounds_toArray,List.set_cons_succ,List.set_cons_zero];refine rel_fix rfl rfl ?_ ?_
 ·apply Exists.intro
  apply Exists.intro
  refine⟨fun wr=>?_,fun wr nr hJ=>?_⟩
  ·go_simp
   first|exact⟨rfl,rfl⟩|rfl
  ·exact(HRD.o wr hJ).mono (by rintro e w' ⟨rfl,hE⟩;exact⟨rfl,hE⟩)
 simp only[Act.put,List.setIfInBounds_toArray,List.set_cons_succ,List.set_cons_zero];refine relAt_nil (fun w2 hJ hF=>?_)
 have HE:=hd hJ;clear hF hJ;go_wp2_with fail
 go_ret
 exact⟨rfl,HE.o⟩
set_option maxHeartbeats 4000000 in
set_option maxRecDepth 100000 in
theorem mstore_any (mb wb sb cw cs:Nat)(R:List (Nat×Nat×Nat))(i j b c m:Nat)(v:Int)(h:SH)(g n nb no eb:Nat)(names:List ByteArray)(vs:List Int)(C D:Array Value)(w:World)(hM:MemL w mb wb sb cw cs R)(hx:R[i]? = some (b,c,m))(hj:j<m)
  (hB:Blk w b 3 C) (hD:Blk w c 4 D) (hC9:m<=C.size) (hD9:m<=D.size) (hb:h.buf=i) (hS:StoB w n g names nb h no) (hV:EnvR w eb vs) (hl:vs.length=names.length) (hA:evA (names.zip vs) h.at_=j) :
  Calls Tryz.prog 142 #[.pointer (some ⟨mb,0,none⟩),ptV g,.slice (some ⟨eb,0,none⟩) vs.length 8,.int .i64 v] w fun e w'=>e=.returned (.tuple #[])/\Ext [b,c] w w'/\Blk w' b 3 (C.setIfInBounds j (.int .i64 v))/\Blk w' c 4 (D.setIfInBounds j (.bool true)):=by
 have hi:=(List.getElem?_eq_some_iff.1 hx).1;have hbc:b≠c:=hB.apart hD (by decide);obtain⟨pb,po,vb,h1,h2,h3,h4,h5⟩:=hS.src;have HAFF:=hd (aff_any g 7 names h.at_ eb vs w hS.line hV (AffOk.of hS.aff) hl);rw[hA] at HAFF;have hl1:=hM.len.1;have hl2:=hM.len.2 _ (List.mem_of_getElem? hx);simp only at hl2;have HM:=hd hM;have HX:=hd hx;have HB:=hd hB;have HDD:=hd hD;have q1:=h2;have q2:=h3;rw[hb] at q2;have HQ:=hd (And.intro q1 q2);have qgl:=World.block_lt_of_cell? w _ q1;simp only at qgl;obtain⟨x0,hx0⟩:∃x,C[j]? = some x:=⟨_,Array.getElem?_eq_getElem (by omega)⟩;obtain⟨y0,hy0⟩:∃x,D[j]? = some x:=⟨_,Array.getElem?_eq_getElem (by omega)⟩;clear hM hx hB hD hC9 hD9 hS hV hl hA h2 h3 h4 h5 q1 q2 hb;generalize hd':vs.length=d at *;unfold ptV;go_enter Tryz.func142,Tryz.ntmps142
 go_wp2_with fail
 refine HAFF.o.mono ?_
 rintro e w1 ⟨rfl,hE⟩;have HE1:=hd hE;have HM1:=hd (HM.o.ext hE (by simp));have HB1:=hd (HB.o.ext hE (by simp));have HD1:=hd (HDD.o.ext hE (by simp));have q0:=hE.held HQ.o.1 (by simp);have q8:=hE.held HQ.o.2 (by simp);have q8l:=World.block_lt_of_cell? w1 _ q8;simp only at q8l;have qgl2:=World.block_lt_of_cell? w1 _ q0;simp only at qgl2;obtain⟨r1,r2⟩:=HM1.o.row i _ HX.o;simp only at r1 r2;have l1:=World.block_lt_of_cell? w1 _ r1;have l2:=World.block_lt_of_cell? w1 _ r2;simp only at l1 l2;have qb:=HM1.o.blk.cell;have qbl:=HM1.o.blk.lt;have hin:(i:Int)<(R.length:Int):=by omega
 have hjn:(j:Int)<(m:Int):=by omega
 have c1:w1.cell? ⟨b,j,none⟩=some x0:=by rw[HB1.o.cell];exact hx0
 have c2:w1.cell? ⟨c,j,none⟩=some y0:=by rw[HD1.o.cell];exact hy0
 have f1:=HB1.o.frozen;have f2:=HD1.o.frozen;have cl1:=HB1.o.lt;have cl2:=HD1.o.lt;clear hE HAFF qgl;generalize R.length=nr at *;go_upto_region 1 with fail
 go_region
 have HBF:=hd ((HB1.o.set_ j (.int .i64 v)).far (p:=⟨c,j,none⟩) hbc (.bool true));have HDF:=hd ((HD1.o.far (p:=⟨b,j,none⟩) (Ne.symm hbc) (.int .i64 v)).set_ j (.bool true));have HEF:=hd (((HE1.o.nil:Ext [b,c] w w1).setAt (b:=b) (i:=j) (u:=.int .i64 v) (.inl (by simp))).setAt (b:=c) (i:=j) (u:=.bool true) (.inl (by simp)));go_wp2_with fail
 exact bodyPost_end (results_none rfl _ _ _) rfl ⟨rfl,HEF.o.drew,HBF.o.drew,HDF.o.drew⟩
end
end Go.Proofs.YtfppibmloloakaaGreatDoor
