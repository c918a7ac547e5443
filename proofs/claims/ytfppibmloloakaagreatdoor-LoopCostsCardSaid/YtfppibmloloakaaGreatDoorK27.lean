import Derived.Test.YtfppibmloloakaaGreatDoorK16
import Derived.Laws.CopyOwn
namespace Go.Proofs.YtfppibmloloakaaGreatDoor
open Go.RowKit Go.Proofs.Tryz
set_option linter.all false
set_option maxHeartbeats 64000000
def vAt (vs:List Int)(j:Nat):Int:=(vs[j]?).getD 0
def Ek (no:Nat)(vs:List Int):Array Value:=#[.int .i64 no,.int .i64 vs.length,.int .i64 (vAt vs 0),.int .i64 (vAt vs 1),.int .i64 (vAt vs 2),.int .i64 (vAt vs 3),.int .i64 (vAt vs 4),.int .i64 (vAt vs 5),.int .i64 (vAt vs 6),.int .i64 (vAt vs 7)]
def Hw (no d:Nat):Array Value:=#[.int .i64 no,.int .i64 d,.int .i64 0,.int .i64 0,.int .i64 0,.int .i64 0,.int .i64 0,.int .i64 0,.int .i64 0,.int .i64 0]
theorem Ag4 (no:Nat)(vs:List Int)(h:vs.length<=8):((Hw no vs.length).toList.take 2 ++ (vs.map (Value.int .i64) ++ (Hw no vs.length).toList.drop (2+(vs.map (Value.int .i64)).length))).toArray=Ek no vs:=by
 rcases vs with _|⟨a,_|⟨b,_|⟨c,_|⟨d,_|⟨e,_|⟨f,_|⟨g,_|⟨i,_|⟨j,r⟩⟩⟩⟩⟩⟩⟩⟩⟩
 all_goals first|rfl|(simp only[List.length_cons] at h;omega)
theorem Ac2:(prog.info? 98).map (·.size)=some 10:=by kernel_rfl
theorem Zc (no:Nat)(vs:List Int):(Ek no vs).all (·.oneCell')=true:=by
 simp[Ek];repeat(first|exact rfl|refine⟨rfl,?_⟩)
theorem Zd {fn:Func}{p:Tmp}(h:fn.results=#[.cell p 98])(tmps:Array Value)(w:World)(g:Nat)(no:Nat)(vs:List Int)
  (hp:tmps.getD p undef=.pointer (some g)) (hg:Blk w g 98 (Ek no vs)):(results fn tmps).run prog w=.ok (.agg (Ek no vs)) w:=
 results_cell_row h tmps w g _ (Ek no vs) (0,0) _ hp hg underlying98 rfl (by kernel_rfl)
set_option maxRecDepth 100000 in
theorem Aek (no:Nat)(eb:Nat)(vs:List Int)(w:World)(hV:Bn w eb vs) :
  Calls prog 210 #[no,.slice (some eb) vs.length 8] w fun e w'=>e=.returned (.agg (Ek no vs))/\Ext [] w w':=by
 have HV:=hd hV;have hl:=hV.1;have HK:=hd (Ag4 no vs hl);clear hV;generalize aa:vs.length=d at *;have HD:=hd aa;clear aa;have a2:=hd (((jF [] w).alloc (.cells (Hw 0 0) 98)).alloc (.cells (Hw no d) 98));have ac:=hd ((jK w 98 (Hw 0 0)).alloc (.cells (Hw no d) 98));have a1:=hd (jK (w.alloc (.cells (Hw 0 0) 98)) 98 (Hw no d));rw[Ag] at a1;have an:((w.alloc (.cells (Hw 0 0) 98)).alloc (.cells (Hw no d) 98)).heap.size=w.heap.size+2:=by rw[Ag,Ag]
 have ad:Hd (Hw 0 0=#[.int .i64 0,.int .i64 0,.int .i64 0,.int .i64 0,.int .i64 0,.int .i64 0,.int .i64 0,.int .i64 0,.int .i64 0,.int .i64 0]):=hd rfl;have ae:Hd (Hw no d=#[.int .i64 no,.int .i64 d,.int .i64 0,.int .i64 0,.int .i64 0,.int .i64 0,.int .i64 0,.int .i64 0,.int .i64 0,.int .i64 0]):=hd rfl;go_enter func210,ntmps210
 go_upto_region 2 with fail
 rw[<-ad.o,<-ae.o];generalize World.alloc (World.alloc w _) _=w2 at *;generalize hs:w.heap.size=s at *;have af:=hd (HV.o.keep a2.o (by simp))
 go_upto_region 3 with(
  refine wpList_copy_own rfl _ _ _ _ rfl 3 underlying22 (by kernel_rfl) (s+1) 2 8 8 ⟨eb,0,none⟩ d 8 rfl rfl (Hw no d) 98 a1.o (vs.map (Value.int .i64)) ?c1 ?c2 ?c3 ?c4 ?_
  case c1=>rw[List.length_map,HD.o];show d=min d 8;omega
  case c2=>
   intro j v hv;rw[List.getElem?_map] at hv;obtain⟨x,hx,rfl⟩:=Option.map_eq_some_iff.1 hv;rw[Addr.add_lit,Nat.zero_add];exact af.o.at hx
  case c3=>rw[List.length_map,HD.o];show 2+d<=10;omega
  case c4=>
   intro v hv;obtain⟨x,-,rfl⟩:=List.mem_map.1 hv;rfl
  rw[HK.o])
 have ag:Hd (Blk (w2.setRow (s+1) (Ek no vs)) (s+1) 98 (Ek no vs)):=hd (setRow_heap w2 (s+1) _ (Ek no vs) _ (0,0) a1.o);have a6:Hd (Ext [s+1] w2 (w2.setRow (s+1) (Ek no vs))):=hd ⟨rfl,rfl,rfl,by simp[World.setRow],fun i _ hi=>setRow_other _ _ i _ (by simpa using hi)⟩;generalize World.setRow w2 (s+1) _=w3 at *;have ah:=hd (ac.o.ext a6.o (by rw[jA];omega));have ai:=hd (Ea a2.o a6.o fun x hx=>by rw[jA.1 hx];omega);have a7:=hd (show(prog.info? 98).map (·.size)=some (Ek no vs).size from Ac2);have aj:=hd (Zc no vs);have ak:=hd (show(Hw 0 0).size=(Ek no vs).size from rfl);clear HK;generalize ab:Ek no vs=ka at *;have a8:=hd ab;clear ab
 go_wp2_with (first
  | refine Ac rfl 98 _ rfl (s+1) 0 rfl ka ag.o.wide _ underlying98 rfl a7.o ?_
  | (
    refine Bc rfl 98 _ _ rfl s ka (Hw 0 0) 98 rfl rfl ah.o a7.o ak.o aj.o ?_
    intro w5 hB5 hE5;have al:=hd hB5;have am:=hd hE5;clear hB5 hE5))
 simp only[PT];exact bodyPost_ret (Zd rfl _ _ s no vs rfl (by rw[a8.o];exact al.o)) rfl ⟨by rw[a8.o],Ea ai.o am.o fun x hx=>by rw[jA.1 hx];omega⟩
end Go.Proofs.YtfppibmloloakaaGreatDoor
