import Derived.Test.YtfppibmloloakaaGreatDoorP18
import Derived.Laws.CopyOwn
namespace Go.Proofs.YtfppibmloloakaaGreatDoor
open Go.RowKit Go.Proofs.Tryz
set_option linter.all false
def vAt (vs:List Int)(j:Nat):Int:=(vs[j]?).getD 0
def keyA (no:Nat)(vs:List Int):Array Value:=#[.int .i64 no,.int .i64 vs.length,.int .i64 (vAt vs 0),.int .i64 (vAt vs 1),.int .i64 (vAt vs 2),.int .i64 (vAt vs 3),.int .i64 (vAt vs 4),.int .i64 (vAt vs 5),.int .i64 (vAt vs 6),.int .i64 (vAt vs 7)]
def keyB (no d:Nat):Array Value:=#[.int .i64 no,.int .i64 d,.int .i64 0,.int .i64 0,.int .i64 0,.int .i64 0,.int .i64 0,.int .i64 0,.int .i64 0,.int .i64 0]
theorem key_copy (no:Nat)(vs:List Int)(h:vs.length<=8):((keyB no vs.length).toList.take 2 ++ (vs.map (Value.int .i64) ++ (keyB no vs.length).toList.drop (2+(vs.map (Value.int .i64)).length))).toArray=keyA no vs:=by
 rcases vs with _|⟨a,_|⟨b,_|⟨c,_|⟨d,_|⟨e,_|⟨f,_|⟨g,_|⟨i,_|⟨j,r⟩⟩⟩⟩⟩⟩⟩⟩⟩
 all_goals first|rfl|(simp only[List.length_cons] at h;omega)
theorem infoKey:(Tryz.prog.info? 98).map (·.size)=some 10:=by kernel_rfl
theorem keyA_one (no:Nat)(vs:List Int):(keyA no vs).all (·.oneCell')=true:=by
 simp[keyA];repeat(first|exact rfl|refine⟨rfl,?_⟩)
theorem results_key {fn:Func}{p:Tmp}(h:fn.results=#[.cell p 98])(tmps:Array Value)(w:World)(g:Nat)(no:Nat)(vs:List Int)
  (hp:tmps.getD p undef=.pointer (some ⟨g,0,none⟩)) (hg:Blk w g 98 (keyA no vs)):(results fn tmps).run Tryz.prog w=.ok (.agg (keyA no vs)) w:=
 results_cell_row h tmps w g _ (keyA no vs) (0,0) _ hp hg Tryz.underlying98 rfl (by kernel_rfl)
set_option maxHeartbeats 8000000 in
set_option maxRecDepth 100000 in
theorem keyOf_any (no:Nat)(eb:Nat)(vs:List Int)(w:World)(hV:EnvR w eb vs) :
  Calls Tryz.prog 210 #[.int .i64 no,.slice (some ⟨eb,0,none⟩) vs.length 8] w fun e w'=>e=.returned (.agg (keyA no vs))/\Ext [] w w':=by
 have HV:=hd hV;have hl:=hV.1;have HK:=hd (key_copy no vs hl);clear hV;generalize hd':vs.length=d at *;have HD:=hd hd';clear hd';have HE0:=hd (((Ext.refl [] w).alloc (.cells (keyB 0 0) 98)).alloc (.cells (keyB no d) 98));have HB0:=hd ((Blk.new w 98 (keyB 0 0)).alloc (.cells (keyB no d) 98));have HB1:=hd (Blk.new (w.alloc (.cells (keyB 0 0) 98)) 98 (keyB no d));rw[alloc_size] at HB1;have hw2:((w.alloc (.cells (keyB 0 0) 98)).alloc (.cells (keyB no d) 98)).heap.size=w.heap.size+2:=by rw[alloc_size,alloc_size]
 have HKZ:Hd (keyB 0 0=#[.int .i64 0,.int .i64 0,.int .i64 0,.int .i64 0,.int .i64 0,.int .i64 0,.int .i64 0,.int .i64 0,.int .i64 0,.int .i64 0]):=hd rfl;have HKN:Hd (keyB no d=#[.int .i64 no,.int .i64 d,.int .i64 0,.int .i64 0,.int .i64 0,.int .i64 0,.int .i64 0,.int .i64 0,.int .i64 0,.int .i64 0]):=hd rfl;go_enter Tryz.func210,Tryz.ntmps210
 go_upto_region 2 with fail
 rw[<-HKZ.o,<-HKN.o];generalize World.alloc (World.alloc w _) _=w2 at *;generalize hs:w.heap.size=s at *;have HV2:=hd (HV.o.keep HE0.o (by simp))
 go_upto_region 3 with(
  refine wpList_copy_own rfl _ _ _ _ rfl 3 Tryz.underlying22 (by kernel_rfl) (s+1) 2 8 8 ⟨eb,0,none⟩ d 8 rfl rfl (keyB no d) 98 HB1.o (vs.map (Value.int .i64)) ?c1 ?c2 ?c3 ?c4 ?_
  case c1=>rw[List.length_map,HD.o];show d=min d 8;omega
  case c2=>
   intro j v hv;rw[List.getElem?_map] at hv;obtain⟨x,hx,rfl⟩:=Option.map_eq_some_iff.1 hv;rw[Addr.add_lit,Nat.zero_add];exact HV2.o.at hx
  case c3=>rw[List.length_map,HD.o];show 2+d<=10;omega
  case c4=>
   intro v hv;obtain⟨x,-,rfl⟩:=List.mem_map.1 hv;rfl
  rw[HK.o])
 have HB3:Hd (Blk (w2.setRow (s+1) (keyA no vs)) (s+1) 98 (keyA no vs)):=hd (setRow_heap w2 (s+1) _ (keyA no vs) _ (0,0) HB1.o);have HE3:Hd (Ext [s+1] w2 (w2.setRow (s+1) (keyA no vs))):=hd ⟨rfl,rfl,rfl,by simp[World.setRow],fun i _ hi=>setRow_other _ _ i _ (by simpa using hi)⟩;generalize World.setRow w2 (s+1) _=w3 at *;have HB4:=hd (HB0.o.ext HE3.o (by rw[List.mem_singleton];omega));have HE4:=hd (keep0 HE0.o HE3.o fun x hx=>by rw[List.mem_singleton.1 hx];omega);have HSZ:=hd (show(Tryz.prog.info? 98).map (·.size)=some (keyA no vs).size from infoKey);have HON:=hd (keyA_one no vs);have HOS:=hd (show(keyB 0 0).size=(keyA no vs).size from rfl);clear HK;generalize hka:keyA no vs=ka at *;have HKA:=hd hka;clear hka
 go_wp2_with (first
  | refine wpList_load_wide rfl 98 _ rfl (s+1) 0 rfl ka HB3.o.wide _ Tryz.underlying98 rfl HSZ.o ?_
  | (
    refine wpList_store_wide rfl 98 _ _ rfl s ka (keyB 0 0) 98 rfl rfl HB4.o HSZ.o HOS.o HON.o ?_
    intro w5 hB5 hE5;have HB5:=hd hB5;have HE5:=hd hE5;clear hB5 hE5))
 simp only[Act.put,List.setIfInBounds_toArray,List.set_cons_succ,List.set_cons_zero];exact bodyPost_ret (results_key rfl _ _ s no vs rfl (by rw[HKA.o];exact HB5.o)) rfl ⟨by rw[HKA.o],keep0 HE4.o HE5.o fun x hx=>by rw[List.mem_singleton.1 hx];omega⟩
end Go.Proofs.YtfppibmloloakaaGreatDoor
