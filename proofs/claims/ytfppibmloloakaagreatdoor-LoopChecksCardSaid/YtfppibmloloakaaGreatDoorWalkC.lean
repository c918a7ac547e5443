import Derived.Test.YtfppibmloloakaaGreatDoorP50
namespace Go.Proofs.YtfppibmloloakaaGreatDoor
open Go.RowKit Go.Proofs.Tryz
set_option linter.all false
attribute [local irreducible] relAt
theorem stream_big (n:Nat)(hn:n<=1152921504606846976)(A:Option Addr)(len cap:Nat)(w:World)(hlen:len<=9223372036854775807)(hA:0<len->∃b o,A=some ⟨b,o,none⟩/\b<w.heap.size/\∀i,i<len->∃x,w.cell? ⟨b,o+i,none⟩=some (.int .i64 x)) :
  Stm (w.alloc (.cells #[.slice A len cap,.int .i64 0] 25)) w.heap.size w.heap.size n:=
 ⟨A,len,cap,0,Blk.new _ _ _,Nat.le_refl _,Int.le_refl _,by omega,hlen,fun h=>by
  obtain⟨b,o,h1,h2,h3⟩:=hA h;refine⟨b,o,h1,h2,fun i hi=>?_⟩
  obtain⟨x,hx⟩:=h3 i hi;exact⟨x,((Ext.refl [] w).alloc _).held hx (by simp)⟩⟩
structure LsG (w:World)(base g n rb vb N:Nat)(p:Pg)(wx:World):Prop where
 ext:Ext [g] w wx
 stm:Stm wx base g n
 res:Blk wx rb 29 pgZ
 blk:Blk wx vb 29 (pgArr p)
 pg:PgA (fun b=>rb<b/\b≠vb) N wx p
 rb0:w.heap.size<=rb
 rbv:rb<vb
 g0:g<w.heap.size
 bg:base<=g
section
variable {w wx wy:World} {base g n m rb vb N:Nat} {p:Pg}
theorem LsG.draw (s:LsG w base g n rb vb N p wx)(hE:Ext [g] wx wy)(hS:Stm wy base g m):LsG w base g m rb vb N p wy:=by
 have h0:=s.g0;have h1:=s.rb0;have h2:=s.rbv;exact⟨s.ext.trans hE,hS,s.res.ext hE (by rw[List.mem_singleton];omega),s.blk.ext hE (by rw[List.mem_singleton];omega),s.pg.ext hE fun x hx hh=>by rw[List.mem_singleton.1 hx] at hh;omega,s.rb0,s.rbv,s.g0,s.bg⟩
theorem LsG.less (s:LsG w base g n rb vb N p wx)(hm:m<=n):LsG w base g m rb vb N p wx:=⟨s.ext,s.stm.less hm,s.res,s.blk,s.pg,s.rb0,s.rbv,s.g0,s.bg⟩
theorem LsG.lay (s:LsG w base g n rb vb N p wx){M:Nat}(p':Pg)(h:PgA (fun b=>rb<b/\b≠vb) M wx p'):LsG w base g n rb vb M p' ((wx.setCell ⟨vb,0,none⟩ (.slice p'.A p'.bs.length p'.cap)).setCell ⟨vb,1,none⟩ (.slice p'.B p'.body.length p'.bcap)):=by
 have h0:=s.g0;have h1:=s.rb0;have h2:=s.rbv;have h3:=s.bg;have hE:Ext [vb] wx ((wx.setCell ⟨vb,0,none⟩ (.slice p'.A p'.bs.length p'.cap)).setCell ⟨vb,1,none⟩ (.slice p'.B p'.body.length p'.bcap)):=(Ext.setAt (.inl (by simp)) (Ext.refl _ _)).trans (Ext.setAt (.inl (by simp)) (Ext.refl _ _))
 exact⟨s.ext.step hE fun x hx=>.inr (by rw[List.mem_singleton.1 hx];omega),s.stm.ext hE (by rw[List.mem_singleton];omega) (fun x hx=>by rw[List.mem_singleton.1 hx];omega),s.res.ext hE (by rw[List.mem_singleton];omega),(s.blk.set_' 0 (.slice p'.A p'.bs.length p'.cap) #[.slice p'.A p'.bs.length p'.cap,.slice p.B p.body.length p.bcap] rfl).set_' 1 _ _ rfl,
  h.ext hE fun x hx hh=>hh.2 (List.mem_singleton.1 hx),s.rb0,s.rbv,s.g0,s.bg⟩
end
def LsP (base g n:Nat)(w:World)(e:Ending)(w':World):Prop:=∃p:Pg,e=.returned (pgV p)/\PgA (fun b=>w.heap.size<=b) 300 w' p/\Ext [g] w w'/\Stm w' base g n
set_option maxHeartbeats 8000000 in
set_option maxRecDepth 100000 in
theorem loose_any (base g n:Nat)(w:World)(hS:Stm w base g (n+BD 3+2000000)):Calls Tryz.prog 21 #[.pointer (some ⟨g,0,none⟩)] w (LsP base g n w):=by
 have HS:=hd hS;have hg:=hS.lt;have hbg:=hS.base;clear hS;go_enter Tryz.func21,Tryz.ntmps21
 go_upto_region 1 with fail
 have HE1:=hd ((Ext.refl [] w).alloc (.cells #[.slice none 0 0,.slice none 0 0] 29));have HR1:=hd (Blk.new w 29 pgZ);have HS1:=hd (HS.o.alloc (.cells #[.slice none 0 0,.slice none 0 0] 29));unfold pgZ at HR1;generalize World.alloc w _=w1 at *;generalize hrb:w.heap.size=rb at *;have hr1:rb<w1.heap.size:=HR1.o.lt;go_wp2_with fail
 refine(gprogram_any base g (n+1000000) w1 (HS1.o.less (by omega))).mono ?_
 rintro e w2 ⟨p0,rfl,hp,hE,hS⟩;have hs2:=hE.size;have HP2:=hd (PgA.mono hp (Q:=fun b=>rb<b/\b≠w2.heap.size) (fun b hb h=>⟨by omega,by omega⟩) (Nat.le_refl _));have HE2:=hd (HE1.o.nil.trans hE);have HR2:=hd (HR1.o.ext hE (by rw[List.mem_singleton];omega));have HS2:=hd hS;clear hp hE hS HE1 HR1 HS1;unfold pgV;go_upto_region 2 with fail
 have HP3:Hd (LsG w base g (n+1000000) rb w2.heap.size 30 p0 (w2.alloc (.cells #[.slice p0.A p0.bs.length p0.cap,.slice p0.B p0.body.length p0.bcap] 29))):=hd (by
  have hE3:=(Ext.refl [] w2).alloc (.cells #[.slice p0.A p0.bs.length p0.cap,.slice p0.B p0.body.length p0.bcap] 29);exact⟨HE2.o.trans hE3.nil,HS2.o.ext hE3 (by simp) (by simp),HR2.o.ext hE3 (by simp),Blk.new _ _ _,HP2.o.ext hE3 (by simp),by omega,by omega,by omega,hbg⟩)
 generalize hvb:w2.heap.size=vb at *;generalize World.alloc w2 _=w3 at *;clear HP2 HE2 HR2 HS2;have hgl:g<w3.heap.size:=HP3.o.stm.lt;have HN:=hd (Blk.new w3 3 (Nums [0,1,1,2]));have hE5:Ext [] w3 (w3.alloc (.cells (Nums [0,1,1,2]) 3)):=(Ext.refl _ _).alloc _;have HP5:=hd (HP3.o.draw hE5.nil (HP3.o.stm.ext hE5 (by simp) (by simp)));clear hE5;simp only[Nums,List.map_cons,List.map_nil] at HN HP5;go_wp2_with fail
 refine(pick_any base g (n+999000) w3.heap.size 4 3 [0,1,1,2] _ (HP5.o.stm.less (by omega)) HN.o (by omega) (by decide)).mono ?_
 rintro e w6 ⟨y,rfl,hy,hE,hS⟩;have HP6:=hd (HP5.o.draw hE hS);have hy2:0<=y/\y<=2:=by simp at hy;omega
 obtain⟨cnt,rfl⟩:∃k:Nat,y=k:=⟨y.toNat,by omega⟩;clear hE hS HN HP5 HP3 hy;go_wp2_with fail
 go_loopw [9] (fun i wr=>∃(k N:Nat) (p:Pg),i=.int .i64 k/\k<=cnt/\((k=0/\N=30)\/(k=1/\N=100)\/(k=2/\N=240))/\Hd (LsG w base g (n+900000-400000*k) rb vb N p wr)) (fun i _=>(cnt-intOf i).toNat)
 case atStart=>exact⟨0,30,p0,rfl,Nat.zero_le _,.inl ⟨rfl,rfl⟩,hd (HP6.o.less (by omega))⟩
 case round=>
  obtain⟨k,N,p,rfl,hk,hN,HPR⟩:=hrel;by_cases hlt:k<cnt
  ·have hlti:(k:Int)<cnt:=by omega
   have hN5:N<=500:=by omega
   have HC:=hd (spp_any (fun b=>(rb<b/\b≠vb)/\b<wr.heap.size) (fun b=>rb<b/\b≠vb) N base g (n+900000-400000*(k+1)) p wr (fun b h=>h.1) (fun b h=>⟨by have:=HPR.o.blk.lt;have:=HPR.o.rbv;omega,by have:=HPR.o.blk.lt;omega⟩) (fun b h=>h.2) (fun h=>by have:=HPR.o.g0;have:=HPR.o.rb0;have:=h.1.1;omega) hN5 (HPR.o.pg.mono (fun b hb h=>⟨h,hb⟩) (Nat.le_refl _)) (HPR.o.stm.less (by omega)));unfold pgV at HC;have qp:=HPR.o.blk.cell;have qpf:=HPR.o.blk.frozen;have qpl:=HPR.o.blk.lt;unfold pgArr at qp;go_wp2_with fail
   refine HC.o.mono ?_
   rintro e w7 ⟨p',rfl,hp',hE,hS⟩;have HP7:=hd (HPR.o.draw hE hS);have HP8:=hd (HP7.o.lay p' hp');clear hE hS hp' HC qp qpf qpl;have qp:=HP7.o.blk.cell;have qpf:=HP7.o.blk.frozen;have qpl:=HP7.o.blk.lt;unfold pgArr at qp;unfold pgV;go_wp2_with fail
   go_roundw
   case rel=>exact⟨k+1,2*N+40,p',by go_num,by omega,by omega,HP8⟩
   case measure=>simp[intOf];omega
  ·have hlti:¬(k:Int)<cnt:=by omega
   have qp:=HPR.o.blk.cell;have qpf:=HPR.o.blk.frozen;have qpl:=HPR.o.blk.lt;have qr:=HPR.o.res.cell;have qrf:=HPR.o.res.frozen;have qrl:=HPR.o.res.lt;unfold pgArr at qp;unfold pgZ at qr;have HE9:=hd ((Ext.setAt (b:=rb) (i:=0) (u:=.slice p.A p.bs.length p.cap) (.inl (by simp)) (Ext.refl [rb] wr)).trans (Ext.setAt (b:=rb) (i:=1) (u:=.slice p.B p.body.length p.bcap) (.inl (by simp)) (Ext.refl [rb] _)));have HR9:=hd ((HPR.o.res.set_' 0 (.slice p.A p.bs.length p.cap) #[.slice p.A p.bs.length p.cap,.slice none 0 0] rfl).set_' 1 (.slice p.B p.body.length p.bcap) #[.slice p.A p.bs.length p.cap,.slice p.B p.body.length p.bcap] rfl);go_wp2_with fail
   refine bodyPost_ret (results_cell_row rfl _ _ rb 29 _ (0,0) _ rfl HR9.o Tryz.underlying29 rfl (by kernel_rfl)) rfl ?_
   have h0:=HPR.o.g0;have h1:=HPR.o.rb0;have h2:=HPR.o.rbv;exact⟨p,rfl,(HPR.o.pg.ext HE9.o fun x hx hh=>by rw[List.mem_singleton.1 hx] at hh;omega).mono (fun b _ hb=>by omega) (by omega),HPR.o.ext.step HE9.o fun x hx=>.inr (by rw[List.mem_singleton.1 hx];omega),(HPR.o.stm.ext HE9.o (by rw[List.mem_singleton];omega) (fun x hx=>by rw[List.mem_singleton.1 hx];omega)).less (by omega)⟩
set_option maxHeartbeats 8000000 in
set_option maxRecDepth 100000 in
theorem loopChecks_any (A:Option Addr)(len cap:Nat)(w:World)(hlen:len<=9223372036854775807)(hA:0<len->∃b o,A=some ⟨b,o,none⟩/\b<w.heap.size/\∀i,i<len->∃x,w.cell? ⟨b,o+i,none⟩=some (.int .i64 x)) :
  Calls Tryz.prog 4 #[.slice A len cap] w fun e w'=>e=.returned (.bool true)/\Ext [] w w':=by
 have HST:=hd (stream_big (10+BD 3+2000000) (by decide) A len cap w hlen hA);clear hA;go_enter Tryz.func4,Tryz.ntmps4
 go_wp2_with fail
 have HL:=hd (loose_any w.heap.size w.heap.size 10 _ HST.o);refine HL.o.mono ?_
 rintro e w3 ⟨p,rfl,hp,hE,hS⟩;have HE3:Hd (Ext [] w w3):=hd (((Ext.refl [] w).alloc (.cells #[.slice A len cap,.int .i64 0] 25)).step hE fun x hx=>.inr (by rw[List.mem_singleton.1 hx];exact Nat.le_refl _));have HP3:=hd (PgA.inn hp (by omega));have HS3:=hd hS;clear hp hE hS HL HST;unfold pgV;go_upto_region 2 with fail
 have hEa:=(Ext.refl [] w3).alloc (.cells #[.slice p.A p.bs.length p.cap,.slice p.B p.body.length p.bcap] 29);have HE4:=hd (HE3.o.trans hEa);have HB4:=hd (Blk.new w3 29 #[.slice p.A p.bs.length p.cap,.slice p.B p.body.length p.bcap]);have HP4:=hd (HP3.o.keep hEa);have HS4:=hd (HS3.o.ext hEa (by simp) (by simp));have hgv:w.heap.size<w3.heap.size:=HS3.o.lt;clear hEa HE3 HP3 HS3;generalize World.alloc w3 _=w4 at *;have HBK:Hd (∀wr,Ext [] w4 wr->Blk wr w3.heap.size 29 #[.slice p.A p.bs.length p.cap,.slice p.B p.body.length p.bcap]):=hd fun wr hE=>HB4.o.ext hE (by simp)
 generalize hce:checkE p.bs p.body=ce at *;have HCK:=hd (fun W (hW:Ext [] w4 W)=>check_any p W (HP4.o.keep hW));have HLF:=hd (fun W (hW:Ext [] w4 W)=>loopFaultR_any p W (HP4.o.keep hW));rw[hce] at HCK HLF;unfold pgV ErrP at HCK HLF;refine rgE 7 [(0,sFix (.bool true)),(3,sFix (.int .i64 ce)),(5,sFix (.int .i64 ce))] ?_
 simp only[List.take_succ_cons,List.take_zero,List.drop_succ_cons,List.drop_zero];refine rel_fix rfl rfl ?_ ?_
 ·apply Exists.intro
  apply Exists.intro
  refine⟨fun wr=>?_,fun wr _ hE=>?_⟩
  ·go_simp
   first|exact⟨rfl,rfl⟩|rfl
  ·exact work_any wr
 simp only[Act.put,List.setIfInBounds_toArray,List.set_cons_succ,List.set_cons_zero]
 repeat
  refine relAt_det rfl rfl ?_
  apply Exists.intro
  refine⟨fun wr nr hJ=>?_,?_⟩
  ·have qb:=(HBK.o wr hJ).cell;have qbl:=(HBK.o wr hJ).lt;clear hJ;(go_simp;try go_bits)
   first|rfl|exact⟨rfl,rfl⟩
  simp only[Act.put,List.setIfInBounds_toArray,List.set_cons_succ,List.set_cons_zero]
 refine rel_fix rfl rfl ?_ ?_
 ·apply Exists.intro
  apply Exists.intro
  refine⟨fun wr=>?_,fun wr _ hE=>?_⟩
  ·go_simp
   first|exact⟨rfl,rfl⟩|rfl
  ·exact HCK.o wr hE
 simp only[Act.put,List.setIfInBounds_toArray,List.set_cons_succ,List.set_cons_zero]
 repeat
  refine relAt_det rfl rfl ?_
  apply Exists.intro
  refine⟨fun wr nr hJ=>?_,?_⟩
  ·have qb:=(HBK.o wr hJ).cell;have qbl:=(HBK.o wr hJ).lt;clear hJ;(go_simp;try go_bits)
   first|rfl|exact⟨rfl,rfl⟩
  simp only[Act.put,List.setIfInBounds_toArray,List.set_cons_succ,List.set_cons_zero]
 refine rel_fix rfl rfl ?_ ?_
 ·apply Exists.intro
  apply Exists.intro
  refine⟨fun wr=>?_,fun wr _ hE=>?_⟩
  ·go_simp
   first|exact⟨rfl,rfl⟩|rfl
  ·exact HLF.o wr hE
 simp only[Act.put,List.setIfInBounds_toArray,List.set_cons_succ,List.set_cons_zero]
 repeat
  refine relAt_det rfl rfl ?_
  apply Exists.intro
  refine⟨fun wr nr hJ=>?_,?_⟩
  ·have qb:=(HBK.o wr hJ).cell;have qbl:=(HBK.o wr hJ).lt;clear hJ;(go_simp;try go_bits)
   first|rfl|exact⟨rfl,rfl⟩
  simp only[Act.put,List.setIfInBounds_toArray,List.set_cons_succ,List.set_cons_zero]
 refine relAt_nil (fun w5 hJ hF=>?_)
 have HE5:=hd (HE4.o.trans hJ);clear hJ hF;go_wp2_with fail
 go_ret
 exact⟨rfl,HE5.o⟩
end Go.Proofs.YtfppibmloloakaaGreatDoor
