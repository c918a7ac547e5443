import Derived.Test.YtkgmhggliifkjaaGreatP01
import Derived.Deep.DeepCutAuto
import Derived.Deep.CutBlock
namespace Go.Proofs.YtkgmhggliifkjaaGreat
open Go.RowKit Go.Proofs.Tryz
set_option linter.all false
set_option maxHeartbeats 8000000
set_option maxRecDepth 4000
def inR (n lo hi:Int):Bool:=decide (lo<=n)&&decide (n<=hi)
theorem Bi {n lo hi:Int}:inR n lo hi=true ↔ lo<=n/\n<=hi:=by simp[inR]
structure Mc where
 main:Int
 banks:Int
 bank:Int
 lanes:Int
 queues:Int
def Mc.cells (m:Mc):List Value:=[.int .i64 m.main,.int .i64 m.banks,.int .i64 m.bank,.int .i64 m.lanes,.int .i64 m.queues]
def Mc.okB (m:Mc):Bool:=inR m.main 1 524288&&inR m.banks 2 8&&inR m.bank 256 4096&&inR m.lanes 2 8&&inR m.queues 1 4
theorem Co (n lo hi:Int)(w:World):Calls prog 74 #[n,lo,hi] w fun e w'=>e=.returned (.bool (inR n lo hi))/\w=w':=by
 by_cases h1:lo<=n
 ·go_enter func74,ntmps74
  go_wp2
  go_ret
  exact⟨Ay (by simp[inR,h1]),rfl⟩
 ·have h2:decide (lo<=n)=false:=by simpa using h1
  go_enter func74,ntmps74
  go_wp2
  go_ret
  exact⟨Ay (by simp[inR];omega),rfl⟩
theorem Bp (n lo hi:Int)(w:World):Calls prog 62 #[n,lo,hi] w fun e w'=>e=.returned (.bool (inR n lo hi))/\w=w':=by
 by_cases h1:lo<=n
 ·go_enter func62,ntmps62
  go_wp2
  go_ret
  exact⟨Ay (by simp[inR,h1]),rfl⟩
 ·have h2:decide (lo<=n)=false:=by simpa using h1
  go_enter func62,ntmps62
  go_wp2
  go_ret
  exact⟨Ay (by simp[inR];omega),rfl⟩
theorem Qr (n:Int)(w:World):Calls prog 72 #[n] w fun e w'=>e=.returned (.bool (inR n (-2147483648) 2147483647))/\w=w':=by
 go_enter func72,ntmps72
 go_wp2_with (go_at_call 74;refine(Co _ _ _ _).mono ?_;rintro e w' ⟨rfl,rfl⟩)
 go_ret
 exact⟨rfl,rfl⟩
def Dr (k:Int):Int:=if k=15 then 3 else if inR k 4 10 then 2 else if inR k 11 14 then 1 else 0
theorem Dc (k:Int)(w:World):Calls prog 111 #[k] w fun e w'=>e=.returned (.int .i64 (Dr k))/\w=w':=by
 by_cases h1:k=15
 ·have h2:(k==15)=true:=by simpa using h1
  have H:Hd (Dr k=3):=hd (by simp[Dr,h1]);clear h1;go_enter func111,ntmps111
  go_wp2_with fail
  go_ret
  exact⟨Ai H.o.symm,rfl⟩
 ·have h2:(k==15)=false:=by simpa using h1
  have H:Hd (Dr k=if inR k 4 10 then 2 else if inR k 11 14 then 1 else 0):=hd (by simp[Dr,h1]);clear h1;cases h3:inR k 4 10<;>cases h4:inR k 11 14
  all_goals
   have H2:=H.o;rw[h3,h4] at H2;replace H2:=hd H2;go_enter func111,ntmps111
   go_wp2_with (go_at_call 74;refine(Co _ _ _ _).mono ?_;rintro e w' ⟨rfl,rfl⟩)
   go_ret
   exact⟨Ai H2.o.symm,rfl⟩
def okE (b:Bool)(e:Int):Int:=match b with|true=>0|false=>e
theorem five (a b c d e:Bool):a=false\/(a=true/\b=false)\/(a=true/\b=true/\c=false)\/(a=true/\b=true/\c=true/\d=false)\/(a=true/\b=true/\c=true/\d=true/\e=false)\/(a=true/\b=true/\c=true/\d=true/\e=true):=by
 cases a<;>cases b<;>cases c<;>cases d<;>cases e<;>simp
theorem Ow (m:Mc)(w:World):Calls prog 66 #[.agg m.cells.toArray] w fun e w'=>e=.returned (.int .i64 (okE m.okB 9))/\Ext [] w w':=by
 obtain⟨m0,m1,m2,m3,m4⟩:=m;simp only[Mc.cells,Mc.okB];rcases five (inR m0 1 524288) (inR m1 2 8) (inR m2 256 4096) (inR m3 2 8) (inR m4 1 4) with h0|⟨h0,h1⟩|⟨h0,h1,h2⟩|⟨h0,h1,h2,h3⟩|⟨h0,h1,h2,h3,h4⟩|⟨h0,h1,h2,h3,h4⟩
 all_goals
  go_enter func66,ntmps66
  go_wp2_with (go_at_call 74;refine(Co _ _ _ _).mono ?_;rintro e w' ⟨rfl,rfl⟩)
  go_ret
  exact⟨Ai (by simp[okE, *]),er.alloc _⟩
theorem Ox (m:Mc)(w:World):Calls prog 28 #[.agg m.cells.toArray] w fun e w'=>e=.returned (.int .i64 (okE m.okB 9))/\Ext [] w w':=by
 obtain⟨m0,m1,m2,m3,m4⟩:=m;simp only[Mc.cells,Mc.okB];rcases five (inR m0 1 524288) (inR m1 2 8) (inR m2 256 4096) (inR m3 2 8) (inR m4 1 4) with h0|⟨h0,h1⟩|⟨h0,h1,h2⟩|⟨h0,h1,h2,h3⟩|⟨h0,h1,h2,h3,h4⟩|⟨h0,h1,h2,h3,h4⟩
 all_goals
  go_enter func28,ntmps28
  go_wp2_with (go_at_call 62;refine(Bp _ _ _ _).mono ?_;rintro e w' ⟨rfl,rfl⟩)
  go_ret
  exact⟨Ai (by simp[okE, *]),er.alloc _⟩
def Fs (m:Mc)(kind n:Int):Bool:=
 if kind=1 then inR n 0 15 else if kind=2 then inR n 0 7 else if kind=3 then inR n 0 (m.banks-1) else if kind=4 then inR n 0 (m.queues-1) else if kind=5 then inR n (-2147483648) 2147483647 else true
theorem Ab4 (m:Mc)(kind n:Int)(w:World)(hk:0<=kind/\kind<=5)(hb:0<=m.banks/\m.banks<=1000)(hq:0<=m.queues/\m.queues<=1000) :
  Calls prog 110 #[.agg m.cells.toArray,kind,n] w fun e w'=>e=.returned (.bool (Fs m kind n))/\Ext [] w w':=by
 obtain⟨m0,m1,m2,m3,m4⟩:=m;obtain⟨hb0,hb1⟩:=hb;obtain⟨hq0,hq1⟩:=hq;simp only[Mc.cells] at *;have hc:kind=0\/kind=1\/kind=2\/kind=3\/kind=4\/kind=5:=by omega
 clear hk;rcases hc with rfl|rfl|rfl|rfl|rfl|rfl
 all_goals
  go_enter func110,ntmps110
  go_wp2_with (first
   | (go_at_call 74;refine(Co _ _ _ _).mono ?_;rintro e w' ⟨rfl,rfl⟩)
   | (go_at_call 72;refine(Qr _ _).mono ?_;rintro e w' ⟨rfl,rfl⟩))
  go_ret
  exact⟨Ay (by simp[Fs]),er.alloc _⟩
structure Frm where
 k:Bool
 d:Int
 a:Int
 b:Int
 c:Int
 n:Int
 m:Int
 p:Bool
def Frm.cells (s:ByteArray)(f:Frm):List Value:=[.string s,.bool f.k,.int .i64 f.d,.int .i64 f.a,.int .i64 f.b,.int .i64 f.c,.int .i64 f.n,.int .i64 f.m,.bool f.p]
def nz (b:Bool)(v:Int):Int:=match b with|true=>v|false=>0
def Cl (k reg:Int)(p:Bool):Frm:=
 ⟨true,reg,reg,nz (decide (2<=Dr k)) reg,nz (Dr k==3) reg,nz (k==12||k==13||k==14) 5,nz (k==12) 5,p⟩
theorem Fy {fn:Func}{p:Tmp}(h:fn.results=#[.cell p 116])(tmps:Array Value)(w:World)(g:Nat)(s:ByteArray)(x:Frm)
  (hp:tmps.getD p undef=.pointer (some g)) (hg:Blk w g 116 (Frm.cells s x).toArray):(results fn tmps).run prog w=.ok (.agg (Frm.cells s x).toArray) w:=
 results_cell_row h tmps w g _ (Frm.cells s x).toArray (0,0) _ hp hg underlying116 rfl (by kernel_rfl)
theorem Aeg (k:Int):(k=15)\/(k=12)\/(k=13)\/(k=14)\/(k=11)\/(inR k 4 10=true/\(k==15)=false/\(k==12)=false/\(k==13)=false/\(k==14)=false/\Dr k=2)\/
  ((k==15)=false/\(k==12)=false/\(k==13)=false/\(k==14)=false/\Dr k=0):=by
 by_cases h1:k=15
 ·exact .inl h1
 by_cases h2:k=12
 ·exact .inr (.inl h2)
 by_cases h3:k=13
 ·exact .inr (.inr (.inl h3))
 by_cases h4:k=14
 ·exact .inr (.inr (.inr (.inl h4)))
 by_cases h5:k=11
 ·exact .inr (.inr (.inr (.inr (.inl h5))))
 have e1:(k==15)=false:=by simpa using h1
 have e2:(k==12)=false:=by simpa using h2
 have e3:(k==13)=false:=by simpa using h3
 have e4:(k==14)=false:=by simpa using h4
 by_cases h6:inR k 4 10=true
 ·exact .inr (.inr (.inr (.inr (.inr (.inl ⟨h6,e1,e2,e3,e4,by simp[Dr,h1,h6]⟩)))))
 ·refine .inr (.inr (.inr (.inr (.inr (.inr ⟨e1,e2,e3,e4,?_⟩)))))
  have h7:inR k 11 14=false:=by
   cases h:inR k 11 14
   ·rfl
   ·have:=Bi.1 h;omega
  simp only[Dr,ijn h1,ijn h6,h7];rfl
theorem Mt (s:ByteArray)(k reg:Int)(p:Bool)(w:World) :
  Calls prog 109 #[.string s,k,reg,.bool p] w fun e w'=>e=.returned (.agg (Frm.cells s (Cl k reg p)).toArray)/\Ext [] w w':=by
 rcases Aeg k with rfl|rfl|rfl|rfl|rfl|⟨h0,h1,h2,h3,h4,h5⟩|⟨h1,h2,h3,h4,h5⟩
 ·have e:Cl 15 reg p=⟨true,reg,reg,reg,reg,0,0,p⟩:=rfl;rw[e];go_enter func109,ntmps109
  go_wp2_with (go_at_call 111;refine(Dc _ _).mono ?_;rintro e w' ⟨rfl,rfl⟩;simp only[show Dr 15=3 from rfl])
  exact bodyPost_ret (Fy rfl _ _ w.heap.size s ⟨true,reg,reg,reg,reg,0,0,p⟩ rfl ((Blk.new w _ _).alloc _)) rfl ⟨rfl,(er.alloc _).alloc _⟩
 ·have e:Cl 12 reg p=⟨true,reg,reg,0,0,5,5,p⟩:=rfl;rw[e];go_enter func109,ntmps109
  go_wp2_with (go_at_call 111;refine(Dc _ _).mono ?_;rintro e w' ⟨rfl,rfl⟩;simp only[show Dr 12=1 from rfl])
  exact bodyPost_ret (Fy rfl _ _ w.heap.size s ⟨true,reg,reg,0,0,5,5,p⟩ rfl ((Blk.new w _ _).alloc _)) rfl ⟨rfl,(er.alloc _).alloc _⟩
 ·have e:Cl 13 reg p=⟨true,reg,reg,0,0,5,0,p⟩:=rfl;rw[e];go_enter func109,ntmps109
  go_wp2_with (go_at_call 111;refine(Dc _ _).mono ?_;rintro e w' ⟨rfl,rfl⟩;simp only[show Dr 13=1 from rfl])
  exact bodyPost_ret (Fy rfl _ _ w.heap.size s ⟨true,reg,reg,0,0,5,0,p⟩ rfl ((Blk.new w _ _).alloc _)) rfl ⟨rfl,(er.alloc _).alloc _⟩
 ·have e:Cl 14 reg p=⟨true,reg,reg,0,0,5,0,p⟩:=rfl;rw[e];go_enter func109,ntmps109
  go_wp2_with (go_at_call 111;refine(Dc _ _).mono ?_;rintro e w' ⟨rfl,rfl⟩;simp only[show Dr 14=1 from rfl])
  exact bodyPost_ret (Fy rfl _ _ w.heap.size s ⟨true,reg,reg,0,0,5,0,p⟩ rfl ((Blk.new w _ _).alloc _)) rfl ⟨rfl,(er.alloc _).alloc _⟩
 ·have e:Cl 11 reg p=⟨true,reg,reg,0,0,0,0,p⟩:=rfl;rw[e];go_enter func109,ntmps109
  go_wp2_with (go_at_call 111;refine(Dc _ _).mono ?_;rintro e w' ⟨rfl,rfl⟩;simp only[show Dr 11=1 from rfl])
  exact bodyPost_ret (Fy rfl _ _ w.heap.size s ⟨true,reg,reg,0,0,0,0,p⟩ rfl ((Blk.new w _ _).alloc _)) rfl ⟨rfl,(er.alloc _).alloc _⟩
 ·have e:Cl k reg p=⟨true,reg,reg,reg,0,0,0,p⟩:=by simp[Cl,nz,h2,h3,h4,h5]
  rw[e];have H5:=hd h5;clear h5 e;go_enter func109,ntmps109
  go_wp2_with (go_at_call 111;refine(Dc _ _).mono ?_;rintro e w' ⟨rfl,rfl⟩;rw[H5.o])
  exact bodyPost_ret (Fy rfl _ _ w.heap.size s ⟨true,reg,reg,reg,0,0,0,p⟩ rfl ((Blk.new w _ _).alloc _)) rfl ⟨rfl,(er.alloc _).alloc _⟩
 ·have e:Cl k reg p=⟨true,reg,reg,0,0,0,0,p⟩:=by simp[Cl,nz,h2,h3,h4,h5]
  rw[e];have H5:=hd h5;clear h5 e;go_enter func109,ntmps109
  go_wp2_with (go_at_call 111;refine(Dc _ _).mono ?_;rintro e w' ⟨rfl,rfl⟩;rw[H5.o])
  exact bodyPost_ret (Fy rfl _ _ w.heap.size s ⟨true,reg,reg,0,0,0,0,p⟩ rfl ((Blk.new w _ _).alloc _)) rfl ⟨rfl,(er.alloc _).alloc _⟩
def Dl (x:Ins):Option Frm:=
 if x.op=1 then some (⟨false,1,0,0,0,5,0,true⟩:Frm)
 else if x.op=2 then some (Cl x.k 1 true)
 else if x.op=3 then some (⟨false,1,0,0,5,5,5,false⟩:Frm)
 else if x.op=4 then some (⟨false,0,0,0,0,0,0,false⟩:Frm)
 else if x.op=5 then some (⟨false,1,1,0,0,5,0,true⟩:Frm)
 else if x.op=6 then some (⟨false,0,1,1,0,5,0,true⟩:Frm)
 else if x.op=7 then some (⟨false,1,1,0,3,5,0,true⟩:Frm)
 else if x.op=8 then some (⟨false,0,1,1,3,5,0,true⟩:Frm)
 else if x.op=9 then some (⟨false,2,1,0,3,5,0,false⟩:Frm)
 else if x.op=10 then some (⟨false,0,1,2,3,5,0,false⟩:Frm)
 else if x.op=11 then some (Cl x.k 2 false)
 else if x.op=12 then some (⟨false,2,1,0,0,0,0,false⟩:Frm)
 else if x.op=13 then some (⟨false,1,2,0,0,5,0,false⟩:Frm)
 else if x.op=14 then some (⟨false,0,1,0,3,5,5,false⟩:Frm)
 else if x.op=15 then some (⟨false,0,2,0,0,0,0,false⟩:Frm)
 else if x.op=16 then some (⟨false,0,0,0,0,0,0,false⟩:Frm)
 else if x.op=17 then some (⟨false,2,0,0,0,0,0,false⟩:Frm)
 else if x.op=18 then some (⟨true,4,1,1,3,5,5,false⟩:Frm)
 else if x.op=19 then some (⟨false,4,0,0,0,0,0,false⟩:Frm)
 else none
def zF:Frm:=⟨false,0,0,0,0,0,0,false⟩
theorem Bl {fn:Func}{p u:Tmp}(h:fn.results=#[.cell p 116,.tmp u])(tmps:Array Value)(w:World)(g:Nat)(s:ByteArray)(x:Frm)(b:Bool)
  (hp:tmps.getD p undef=.pointer (some g)) (hu:tmps.getD u undef=.bool b) (hg:Blk w g 116 (Frm.cells s x).toArray) :
  (results fn tmps).run prog w=.ok (.tuple #[.agg (Frm.cells s x).toArray,.bool b]) w:=by
 have hl:=run_loadVar_row (P:=prog) w g _ 116 (Frm.cells s x).toArray (0,0) _ hg underlying116 rfl (by kernel_rfl);rw[results_cell_tmp h,hp,hu];simp only[asAddr,Sem.run_pure,Result.andThen_ok,hl]
def Ez (x:Ins)(w:World)(e:Ending)(w':World):Prop:=(∃s:ByteArray,e=.returned (.tuple #[.agg (Frm.cells s ((Dl x).getD zF)).toArray,.bool (Dl x).isSome]))/\Ext [] w w'
theorem Aeh (k d a b c p n m:Int)(w:World):Calls prog 67 #[.agg (Ins.cells ⟨1,k,d,a,b,c,p,n,m⟩).toArray] w (Ez ⟨1,k,d,a,b,c,p,n,m⟩ w):=by
 simp only[Ins.cells];go_enter func67,ntmps67
 go_wp2_with fail
 exact bodyPost_ret (Bl rfl _ _ (w.heap.size+1) ⟨#[110,117,109]⟩ ⟨false,1,0,0,0,5,0,true⟩ true rfl rfl (Blk.new' _ _ _ _ (by simp))) rfl ⟨⟨_,rfl⟩,(er.alloc _).alloc _⟩
theorem Aei (k d a b c p n m:Int)(w:World):Calls prog 67 #[.agg (Ins.cells ⟨2,k,d,a,b,c,p,n,m⟩).toArray] w (Ez ⟨2,k,d,a,b,c,p,n,m⟩ w):=by
 simp only[Ins.cells];go_enter func67,ntmps67
 go_wp2_with fail
 refine(Mt _ _ _ _ _).mono ?_
 rintro e w1 ⟨rfl,hE⟩;have hE1:Ext [] w w1:=(((Ext.refl [] w).alloc _).alloc _).trans hE;have hB:=(Blk.new' (w.alloc _) 116 _ (w.heap.size+1) (by simp)).ext hE (by simp);obtain⟨hc1,hf1⟩:=hB.both;have hlt:=hB.lt;have HB:=hd hB;have HE:=hd hE1;clear hE hE1 hB;have hS:Dl ⟨2,k,d,a,b,c,p,n,m⟩=some (Cl k 1 true):=rfl;generalize Cl k 1 true=F at *;have HS:=hd hS;clear hS;obtain⟨f1,f2,f3,f4,f5,f6,f7,f8⟩:=F;simp only[Frm.cells];go_wp2_with fail
 refine bodyPost_ret (Bl rfl _ _ (w.heap.size+1) ⟨#[111,112]⟩ ⟨f1,f2,f3,f4,f5,f6,f7,f8⟩ true rfl rfl (HB.o.all9 _ _ _ _ _ _ _ _ _)) rfl ⟨⟨⟨#[111,112]⟩,by rw[HS.o];rfl⟩,?_⟩
 iterate 9 refine Ext.setAt (by right;omega) ?_
 exact HE.o
theorem Aej (k d a b c p n m:Int)(w:World):Calls prog 67 #[.agg (Ins.cells ⟨3,k,d,a,b,c,p,n,m⟩).toArray] w (Ez ⟨3,k,d,a,b,c,p,n,m⟩ w):=by
 simp only[Ins.cells];go_enter func67,ntmps67
 go_wp2_with fail
 exact bodyPost_ret (Bl rfl _ _ (w.heap.size+1) ⟨#[108,111,111,112]⟩ ⟨false,1,0,0,5,5,5,false⟩ true rfl rfl (Blk.new' _ _ _ _ (by simp))) rfl ⟨⟨_,rfl⟩,(er.alloc _).alloc _⟩
theorem Aek (k d a b c p n m:Int)(w:World):Calls prog 67 #[.agg (Ins.cells ⟨4,k,d,a,b,c,p,n,m⟩).toArray] w (Ez ⟨4,k,d,a,b,c,p,n,m⟩ w):=by
 simp only[Ins.cells];go_enter func67,ntmps67
 go_wp2_with fail
 exact bodyPost_ret (Bl rfl _ _ (w.heap.size+1) ⟨#[101,110,100]⟩ ⟨false,0,0,0,0,0,0,false⟩ true rfl rfl (Blk.new' _ _ _ _ (by simp))) rfl ⟨⟨_,rfl⟩,(er.alloc _).alloc _⟩
theorem Ael (k d a b c p n m:Int)(w:World):Calls prog 67 #[.agg (Ins.cells ⟨5,k,d,a,b,c,p,n,m⟩).toArray] w (Ez ⟨5,k,d,a,b,c,p,n,m⟩ w):=by
 simp only[Ins.cells];go_enter func67,ntmps67
 go_wp2_with fail
 exact bodyPost_ret (Bl rfl _ _ (w.heap.size+1) ⟨#[108,100,109]⟩ ⟨false,1,1,0,0,5,0,true⟩ true rfl rfl (Blk.new' _ _ _ _ (by simp))) rfl ⟨⟨_,rfl⟩,(er.alloc _).alloc _⟩
theorem Aem (k d a b c p n m:Int)(w:World):Calls prog 67 #[.agg (Ins.cells ⟨6,k,d,a,b,c,p,n,m⟩).toArray] w (Ez ⟨6,k,d,a,b,c,p,n,m⟩ w):=by
 simp only[Ins.cells];go_enter func67,ntmps67
 go_wp2_with fail
 exact bodyPost_ret (Bl rfl _ _ (w.heap.size+1) ⟨#[115,116,109]⟩ ⟨false,0,1,1,0,5,0,true⟩ true rfl rfl (Blk.new' _ _ _ _ (by simp))) rfl ⟨⟨_,rfl⟩,(er.alloc _).alloc _⟩
theorem Aen (k d a b c p n m:Int)(w:World):Calls prog 67 #[.agg (Ins.cells ⟨7,k,d,a,b,c,p,n,m⟩).toArray] w (Ez ⟨7,k,d,a,b,c,p,n,m⟩ w):=by
 simp only[Ins.cells];go_enter func67,ntmps67
 go_wp2_with fail
 exact bodyPost_ret (Bl rfl _ _ (w.heap.size+1) ⟨#[108,100,115]⟩ ⟨false,1,1,0,3,5,0,true⟩ true rfl rfl (Blk.new' _ _ _ _ (by simp))) rfl ⟨⟨_,rfl⟩,(er.alloc _).alloc _⟩
theorem Aeo (k d a b c p n m:Int)(w:World):Calls prog 67 #[.agg (Ins.cells ⟨8,k,d,a,b,c,p,n,m⟩).toArray] w (Ez ⟨8,k,d,a,b,c,p,n,m⟩ w):=by
 simp only[Ins.cells];go_enter func67,ntmps67
 go_wp2_with fail
 exact bodyPost_ret (Bl rfl _ _ (w.heap.size+1) ⟨#[115,116,115]⟩ ⟨false,0,1,1,3,5,0,true⟩ true rfl rfl (Blk.new' _ _ _ _ (by simp))) rfl ⟨⟨_,rfl⟩,(er.alloc _).alloc _⟩
theorem Aep (k d a b c p n m:Int)(w:World):Calls prog 67 #[.agg (Ins.cells ⟨9,k,d,a,b,c,p,n,m⟩).toArray] w (Ez ⟨9,k,d,a,b,c,p,n,m⟩ w):=by
 simp only[Ins.cells];go_enter func67,ntmps67
 go_wp2_with fail
 exact bodyPost_ret (Bl rfl _ _ (w.heap.size+1) ⟨#[118,108,100]⟩ ⟨false,2,1,0,3,5,0,false⟩ true rfl rfl (Blk.new' _ _ _ _ (by simp))) rfl ⟨⟨_,rfl⟩,(er.alloc _).alloc _⟩
theorem Ab5 (k d a b c p n m:Int)(w:World):Calls prog 67 #[.agg (Ins.cells ⟨10,k,d,a,b,c,p,n,m⟩).toArray] w (Ez ⟨10,k,d,a,b,c,p,n,m⟩ w):=by
 simp only[Ins.cells];go_enter func67,ntmps67
 go_wp2_with fail
 exact bodyPost_ret (Bl rfl _ _ (w.heap.size+1) ⟨#[118,115,116]⟩ ⟨false,0,1,2,3,5,0,false⟩ true rfl rfl (Blk.new' _ _ _ _ (by simp))) rfl ⟨⟨_,rfl⟩,(er.alloc _).alloc _⟩
theorem Ab6 (k d a b c p n m:Int)(w:World):Calls prog 67 #[.agg (Ins.cells ⟨11,k,d,a,b,c,p,n,m⟩).toArray] w (Ez ⟨11,k,d,a,b,c,p,n,m⟩ w):=by
 simp only[Ins.cells];go_enter func67,ntmps67
 go_wp2_with fail
 refine(Mt _ _ _ _ _).mono ?_
 rintro e w1 ⟨rfl,hE⟩;have hE1:Ext [] w w1:=(((Ext.refl [] w).alloc _).alloc _).trans hE;have hB:=(Blk.new' (w.alloc _) 116 _ (w.heap.size+1) (by simp)).ext hE (by simp);obtain⟨hc1,hf1⟩:=hB.both;have hlt:=hB.lt;have HB:=hd hB;have HE:=hd hE1;clear hE hE1 hB;have hS:Dl ⟨11,k,d,a,b,c,p,n,m⟩=some (Cl k 2 false):=rfl;generalize Cl k 2 false=F at *;have HS:=hd hS;clear hS;obtain⟨f1,f2,f3,f4,f5,f6,f7,f8⟩:=F;simp only[Frm.cells];go_wp2_with fail
 refine bodyPost_ret (Bl rfl _ _ (w.heap.size+1) ⟨#[118,111,112]⟩ ⟨f1,f2,f3,f4,f5,f6,f7,f8⟩ true rfl rfl (HB.o.all9 _ _ _ _ _ _ _ _ _)) rfl ⟨⟨⟨#[118,111,112]⟩,by rw[HS.o];rfl⟩,?_⟩
 iterate 9 refine Ext.setAt (by right;omega) ?_
 exact HE.o
theorem Ab7 (k d a b c p n m:Int)(w:World):Calls prog 67 #[.agg (Ins.cells ⟨12,k,d,a,b,c,p,n,m⟩).toArray] w (Ez ⟨12,k,d,a,b,c,p,n,m⟩ w):=by
 simp only[Ins.cells];go_enter func67,ntmps67
 go_wp2_with fail
 exact bodyPost_ret (Bl rfl _ _ (w.heap.size+1) ⟨#[118,100,117,112]⟩ ⟨false,2,1,0,0,0,0,false⟩ true rfl rfl (Blk.new' _ _ _ _ (by simp))) rfl ⟨⟨_,rfl⟩,(er.alloc _).alloc _⟩
theorem Ab8 (k d a b c p n m:Int)(w:World):Calls prog 67 #[.agg (Ins.cells ⟨13,k,d,a,b,c,p,n,m⟩).toArray] w (Ez ⟨13,k,d,a,b,c,p,n,m⟩ w):=by
 simp only[Ins.cells];go_enter func67,ntmps67
 go_wp2_with fail
 exact bodyPost_ret (Bl rfl _ _ (w.heap.size+1) ⟨#[118,103,101,116]⟩ ⟨false,1,2,0,0,5,0,false⟩ true rfl rfl (Blk.new' _ _ _ _ (by simp))) rfl ⟨⟨_,rfl⟩,(er.alloc _).alloc _⟩
theorem Ab9 (k d a b c p n m:Int)(w:World):Calls prog 67 #[.agg (Ins.cells ⟨14,k,d,a,b,c,p,n,m⟩).toArray] w (Ez ⟨14,k,d,a,b,c,p,n,m⟩ w):=by
 simp only[Ins.cells];go_enter func67,ntmps67
 go_wp2_with fail
 exact bodyPost_ret (Bl rfl _ _ (w.heap.size+1) ⟨#[119,116,115]⟩ ⟨false,0,1,0,3,5,5,false⟩ true rfl rfl (Blk.new' _ _ _ _ (by simp))) rfl ⟨⟨_,rfl⟩,(er.alloc _).alloc _⟩
theorem Aca (k d a b c p n m:Int)(w:World):Calls prog 67 #[.agg (Ins.cells ⟨15,k,d,a,b,c,p,n,m⟩).toArray] w (Ez ⟨15,k,d,a,b,c,p,n,m⟩ w):=by
 simp only[Ins.cells];go_enter func67,ntmps67
 go_wp2_with fail
 exact bodyPost_ret (Bl rfl _ _ (w.heap.size+1) ⟨#[109,97,99]⟩ ⟨false,0,2,0,0,0,0,false⟩ true rfl rfl (Blk.new' _ _ _ _ (by simp))) rfl ⟨⟨_,rfl⟩,(er.alloc _).alloc _⟩
theorem Acb (k d a b c p n m:Int)(w:World):Calls prog 67 #[.agg (Ins.cells ⟨16,k,d,a,b,c,p,n,m⟩).toArray] w (Ez ⟨16,k,d,a,b,c,p,n,m⟩ w):=by
 simp only[Ins.cells];go_enter func67,ntmps67
 go_wp2_with fail
 exact bodyPost_ret (Bl rfl _ _ (w.heap.size+1) ⟨#[99,108,114]⟩ ⟨false,0,0,0,0,0,0,false⟩ true rfl rfl (Blk.new' _ _ _ _ (by simp))) rfl ⟨⟨_,rfl⟩,(er.alloc _).alloc _⟩
theorem Acc (k d a b c p n m:Int)(w:World):Calls prog 67 #[.agg (Ins.cells ⟨17,k,d,a,b,c,p,n,m⟩).toArray] w (Ez ⟨17,k,d,a,b,c,p,n,m⟩ w):=by
 simp only[Ins.cells];go_enter func67,ntmps67
 go_wp2_with fail
 exact bodyPost_ret (Bl rfl _ _ (w.heap.size+1) ⟨#[97,99,99]⟩ ⟨false,2,0,0,0,0,0,false⟩ true rfl rfl (Blk.new' _ _ _ _ (by simp))) rfl ⟨⟨_,rfl⟩,(er.alloc _).alloc _⟩
theorem Acd (k d a b c p n m:Int)(w:World):Calls prog 67 #[.agg (Ins.cells ⟨18,k,d,a,b,c,p,n,m⟩).toArray] w (Ez ⟨18,k,d,a,b,c,p,n,m⟩ w):=by
 simp only[Ins.cells];go_enter func67,ntmps67
 go_wp2_with fail
 exact bodyPost_ret (Bl rfl _ _ (w.heap.size+1) ⟨#[116,114]⟩ ⟨true,4,1,1,3,5,5,false⟩ true rfl rfl (Blk.new' _ _ _ _ (by simp))) rfl ⟨⟨_,rfl⟩,(er.alloc _).alloc _⟩
theorem Ace (k d a b c p n m:Int)(w:World):Calls prog 67 #[.agg (Ins.cells ⟨19,k,d,a,b,c,p,n,m⟩).toArray] w (Ez ⟨19,k,d,a,b,c,p,n,m⟩ w):=by
 simp only[Ins.cells];go_enter func67,ntmps67
 go_wp2_with fail
 exact bodyPost_ret (Bl rfl _ _ (w.heap.size+1) ⟨#[119,97,105,116]⟩ ⟨false,4,0,0,0,0,0,false⟩ true rfl rfl (Blk.new' _ _ _ _ (by simp))) rfl ⟨⟨_,rfl⟩,(er.alloc _).alloc _⟩
theorem Wj (o k d a b c p n m:Int)(w:World)(h:¬(1<=o/\o<=19)):Calls prog 67 #[.agg (Ins.cells ⟨o,k,d,a,b,c,p,n,m⟩).toArray] w (Ez ⟨o,k,d,a,b,c,p,n,m⟩ w):=by
 have t1:(o==1)=false:=beq_eq_false_iff_ne.2 (by omega);have t2:(o==2)=false:=beq_eq_false_iff_ne.2 (by omega);have t3:(o==3)=false:=beq_eq_false_iff_ne.2 (by omega);have t4:(o==4)=false:=beq_eq_false_iff_ne.2 (by omega);have t5:(o==5)=false:=beq_eq_false_iff_ne.2 (by omega);have t6:(o==6)=false:=beq_eq_false_iff_ne.2 (by omega);have t7:(o==7)=false:=beq_eq_false_iff_ne.2 (by omega);have t8:(o==8)=false:=beq_eq_false_iff_ne.2 (by omega);have t9:(o==9)=false:=beq_eq_false_iff_ne.2 (by omega);have t10:(o==10)=false:=beq_eq_false_iff_ne.2 (by omega);have t11:(o==11)=false:=beq_eq_false_iff_ne.2 (by omega);have t12:(o==12)=false:=beq_eq_false_iff_ne.2 (by omega);have t13:(o==13)=false:=beq_eq_false_iff_ne.2 (by omega);have t14:(o==14)=false:=beq_eq_false_iff_ne.2 (by omega);have t15:(o==15)=false:=beq_eq_false_iff_ne.2 (by omega);have t16:(o==16)=false:=beq_eq_false_iff_ne.2 (by omega);have t17:(o==17)=false:=beq_eq_false_iff_ne.2 (by omega);have t18:(o==18)=false:=beq_eq_false_iff_ne.2 (by omega);have t19:(o==19)=false:=beq_eq_false_iff_ne.2 (by omega)
 have hS:Dl ⟨o,k,d,a,b,c,p,n,m⟩=none:=by
  have u1:¬o=1:=by omega
  have u2:¬o=2:=by omega
  have u3:¬o=3:=by omega
  have u4:¬o=4:=by omega
  have u5:¬o=5:=by omega
  have u6:¬o=6:=by omega
  have u7:¬o=7:=by omega
  have u8:¬o=8:=by omega
  have u9:¬o=9:=by omega
  have u10:¬o=10:=by omega
  have u11:¬o=11:=by omega
  have u12:¬o=12:=by omega
  have u13:¬o=13:=by omega
  have u14:¬o=14:=by omega
  have u15:¬o=15:=by omega
  have u16:¬o=16:=by omega
  have u17:¬o=17:=by omega
  have u18:¬o=18:=by omega
  have u19:¬o=19:=by omega
  simp only[Dl,u1,u2,u3,u4,u5,u6,u7,u8,u9,u10,u11,u12,u13,u14,u15,u16,u17,u18,u19,if_false]
 have HS:=hd hS;clear hS h;simp only[Ins.cells];go_enter func67,ntmps67
 go_wp2_with fail
 exact bodyPost_ret (Bl rfl _ _ (w.heap.size+1) ⟨#[]⟩ zF false rfl rfl (Blk.new' _ _ _ _ (by simp))) rfl ⟨⟨⟨#[]⟩,by rw[HS.o];rfl⟩,(er.alloc _).alloc _⟩
theorem Yw (x:Ins)(w:World):Calls prog 67 #[.agg x.cells.toArray] w (Ez x w):=by
 obtain⟨o,k,d,a,b,c,p,n,m⟩:=x;by_cases h:1<=o/\o<=19
 ·have hc:o=1\/o=2\/o=3\/o=4\/o=5\/o=6\/o=7\/o=8\/o=9\/o=10\/o=11\/o=12\/o=13\/o=14\/o=15\/o=16\/o=17\/o=18\/o=19:=by omega
  rcases hc with rfl|rfl|rfl|rfl|rfl|rfl|rfl|rfl|rfl|rfl|rfl|rfl|rfl|rfl|rfl|rfl|rfl|rfl|rfl
  ·exact Aeh k d a b c p n m w
  ·exact Aei k d a b c p n m w
  ·exact Aej k d a b c p n m w
  ·exact Aek k d a b c p n m w
  ·exact Ael k d a b c p n m w
  ·exact Aem k d a b c p n m w
  ·exact Aen k d a b c p n m w
  ·exact Aeo k d a b c p n m w
  ·exact Aep k d a b c p n m w
  ·exact Ab5 k d a b c p n m w
  ·exact Ab6 k d a b c p n m w
  ·exact Ab7 k d a b c p n m w
  ·exact Ab8 k d a b c p n m w
  ·exact Ab9 k d a b c p n m w
  ·exact Aca k d a b c p n m w
  ·exact Acb k d a b c p n m w
  ·exact Acc k d a b c p n m w
  ·exact Acd k d a b c p n m w
  ·exact Ace k d a b c p n m w
 ·exact Wj o k d a b c p n m w h
def Frm.fs (f:Frm):List Int:=[f.d,f.a,f.b,f.c,f.n,f.m]
def Ins.xs (x:Ins):List Int:=[x.d,x.a,x.b,x.c,x.n,x.m]
def Eo (e:Bool)(fs xs:List Int):Nat->Bool
 | 0=>e
 | k+1=>Eo e fs xs k||(fs.getD k 0==0&&xs.getD k 0 != 0)
def Dy (f:Frm)(x:Ins):Bool:=Eo ((!f.k&&x.k != 0)||(!f.p&&x.p != 0)) f.fs x.xs 6
def Fd (f:Frm)(x:Ins):Array Value:=
 #[.int .i64 f.d,.int .i64 x.d,.int .i64 f.a,.int .i64 x.a,.int .i64 f.b,.int .i64 x.b,.int .i64 f.c,.int .i64 x.c,.int .i64 f.n,.int .i64 x.n,.int .i64 f.m,.int .i64 x.m]
theorem Mu (f:Frm)(x:Ins)(k:Nat)(hk:k<6):(Fd f x)[k*2]? = some (.int .i64 (f.fs.getD k 0))/\(Fd f x)[k*2+1]? = some (.int .i64 (x.xs.getD k 0)):=by
 match k,hk with
 | 0,_|1,_|2,_|3,_|4,_|5,_=>exact⟨rfl,rfl⟩
def UnSt (w:World)(fc xc:Array Value)(wx:World):Prop:=Ext [] w wx/\Blk wx w.heap.size 116 fc/\Blk wx (w.heap.size+1) 76 xc
theorem Uq (e:Bool)(fs xs:List Int)(k:Nat):Eo e fs xs (k+1)=(Eo e fs xs k||(fs.getD k 0==0&&xs.getD k 0 != 0)):=rfl
set_option maxRecDepth 100000
theorem Yx (s:ByteArray)(f:Frm)(x:Ins)(w:World) :
  Calls prog 68 #[.agg (Frm.cells s f).toArray,.agg x.cells.toArray] w fun e w'=>e=.returned (.bool (Dy f x))/\Ext [] w w':=by
 have HP:=hd (Mu f x);have HU:Hd (Dy f x=Eo ((!f.k&&x.k != 0)||(!f.p&&x.p != 0)) f.fs x.xs 6):=hd rfl;have HX:=hd (show Fd f x=_ from rfl);generalize hfs:f.fs=fs at *;generalize hxs:x.xs=xs at *;generalize hpc:Fd f x=pc at *;generalize hus:Dy f x=us at *;have Hpc:=hd hpc;clear hfs hxs hpc hus HX;obtain⟨fk,fd,fa,fb,fc,fn,fm,fp⟩:=f;obtain⟨xo,xk,xd,xa,xb,xc,xp,xn,xm⟩:=x;simp only[Frm.cells,Ins.cells,Fd] at *;go_enter func68,ntmps68
 go_upto_region 1 with fail
 go_cut [5] (fun sl wx=>sl=.bool ((!fk&&xk != 0)||(!fp&&xp != 0))/\UnSt w (Frm.cells s ⟨fk,fd,fa,fb,fc,fn,fm,fp⟩).toArray (Ins.cells ⟨xo,xk,xd,xa,xb,xc,xp,xn,xm⟩).toArray wx)
 case first=>
  generalize hx1:(xk != 0)=x1;generalize hx2:(xp != 0)=x2;cases fk<;>cases fp<;>cases x1<;>cases x2<;>(go_wp2_with fail;go_meet;exact⟨by rw[hx1,hx2];rfl,(er.alloc _).alloc _,(Blk.new _ _ _).alloc _,Blk.new' _ _ _ _ (by simp)⟩)
 case rest=>
  obtain⟨rfl,hE0,hB1,hB2⟩:=hcut;have hf1:=hB1.cell;have hf2:=hB2.cell;simp only[Frm.cells,Ins.cells] at hf1 hf2;have HB1:=hd hB1;have HB2:=hd hB2;have hl1:=hB1.lt;have hl2:=hB2.lt;clear hB1 hB2;generalize he0:((!fk&&xk != 0)||(!fp&&xp != 0))=e0 at *;clear he0;go_wp2_with fail
  have hpb:∀(wr:World),Ext [] (wc.alloc (.cells (Fd ⟨fk,fd,fa,fb,fc,fn,fm,fp⟩ ⟨xo,xk,xd,xa,xb,xc,xp,xn,xm⟩) 161)) wr->∀i,wr.cell? ⟨wc.heap.size,i,none⟩=pc[i]?:=fun wr h i=>by
   rw[<-Hpc.o];exact((Blk.new wc 161 _).ext h (by simp)).cell i
  have HPB:=hd hpb;clear hpb hf1 hf2;go_loopw [5,58] (fun e i wr=>∃k:Nat,i=.int .i64 k/\k<=6/\e=.bool (Eo e0 fs xs k)/\Ext [] (wc.alloc (.cells (Fd ⟨fk,fd,fa,fb,fc,fn,fm,fp⟩ ⟨xo,xk,xd,xa,xb,xc,xp,xn,xm⟩) 161)) wr) (fun _ i _=>(6-intOf i).toNat)
  case atStart=>exact⟨0,rfl,by omega,rfl,er⟩
  case round=>
   obtain⟨k,rfl,hk,rfl,hE⟩:=hrel;by_cases hlt:k<6
   ·have hc:=HPB.o _ hE;have h1:=(HP.o k hlt).1;have h2:=(HP.o k hlt).2;rw[<-hc] at h1 h2;have HK:=hd (Uq e0 fs xs k);generalize Eo e0 fs xs k=e1 at *;generalize fs.getD k 0=y0 at *;generalize xs.getD k 0=y1 at *;clear hc;have h0:e1=true\/(e1=false/\(y0==0)=false)\/(e1=false/\(y0==0)=true/\(y1 != 0)=false)\/(e1=false/\(y0==0)=true/\(y1 != 0)=true):=by cases e1<;>cases (y0==0)<;>cases (y1 != 0)<;>simp
    rcases h0 with rfl|⟨rfl,h3⟩|⟨rfl,h3,h4⟩|⟨rfl,h3,h4⟩
    all_goals
     go_wp2_with fail
     go_round
     case rel=>exact⟨k+1,by go_num,by omega,by rw[HK.o];first|rfl|(rw[h3];first|rfl|(rw[h4];rfl)),hE.alloc _⟩
     case measure=>simp[intOf];omega
   ·have h6:k=6:=by omega
    subst h6;clear hk hlt;go_wp2_with fail
    go_ret
    exact⟨Ay HU.o.symm,hE0.trans (((er.alloc _).trans hE))⟩
section
section
variable {P:Program} {ops:Array Oper} {p:Nat} {J:(Nat->Bool)->World->Prop} {R:World->World->Prop} {S:Nat->Option Bo}
def Jw (P:Program)(ops:Array Oper)(p:Nat)(J:(Nat->Bool)->World->Prop)(R:World->World->Prop)(S:Nat->Option Bo)(Q:Act->World->Prop)(k:Nat)(l:List Oper)(a:Act)(F:Nat->World->Prop):Prop:=
 Cx P ops p J (fun _=>R) S Q k l a F
theorem Lu {id:Nat}{Q:Exit->Act->World->Prop}{a:Act}{w:World}{l:List Oper}(p:Nat)(J:(Nat->Bool)->World->Prop)(R:World->World->Prop)(S:Nat->Option Bo)(hm:P.follows .mixedOrders=true)(hB:Lm l.toArray p=true)
  (hJ:∀i r w,(S i=none\/∃oi,l.toArray[i]? = some oi/\oi.guard≠none)->Gr l.toArray i r->J r w->J (off r i) w) (hS:∀i s,S i=some s->∀x w w',R w w'->s.V x w->s.V x w') (h0:J (fun j=>decide (j<l.length)) w.drew)
  (h:Jw P l.toArray p J R S (fun a w=>wpList P l.toArray Q (l.drop p) a w) 0 (l.take p) a (fun _ _=>True)):(Code.region id l.toArray true).wp P Q a w:=
 Fx p J (fun _=>R) S hm hB hJ (fun i s _ hs _=>hS i s hs) h0 h
section
variable {Q:Act->World->Prop} {k:Nat} {o:Oper} {rest:List Oper} {a:Act} {F:Nat->World->Prop}
theorem Rb (h:∀w r,(∀j,j<ops.size->r j=decide (p<=j))->J r w->(∀i,F i w)->Q a w):Jw P ops p J R S Q k [] a F:=h
theorem Gc (hS:S k=none)(hw:Region.wanted o (yielded ops a.tmps)=true)(h:∃u,(∀w n,Gr ops k n->J n w->(execOp a.eval o).run P w=.ok (.value u) w)/\Jw P ops p J R S Q (k+1) rest (a.put o.dst u) F) :
  Jw P ops p J R S Q k (o :: rest) a F:=Iv hS hw h
theorem dES {u:Value}(h2:∀w n,Gr ops k n->J n w->(execOp a.eval o).run P w=.ok (.value u) w)(h3:Jw P ops p J R S Q (k+1) rest (a.put o.dst u) F)(hS:S k=none:=by exact rfl)(hw:Region.wanted o (yielded ops a.tmps)=true:=by exact rfl) :
  Jw P ops p J R S Q k (o :: rest) a F:=dEU h2 h3 hS hw
theorem Oc (hS:S k=some ⟨Unit,(),fun _=>undef,fun _ _=>True⟩)(hw:Region.wanted o (yielded ops a.tmps)=true)
  (hu:∀w n,Gr ops k n->J n w->(∀e∈o.after,Region.binds .any e=true->F e.on w)->∃w',(execOp a.eval o).run P w=.ok .skip w'/\J (off n k) w'/\R w w')
  (h:Jw P ops p J R S Q (k+1) rest (a.put o.dst undef) (upd F k (fun _=>True))):Jw P ops p J R S Q k (o :: rest) a F:=Kv hS hw hu h
end
end
end
set_option maxRecDepth 4000
theorem Oi (k:Int)(w:World):Calls prog 119 #[k] w fun e w'=>(∃r:Int,e=.returned (.int .i64 r))/\w=w':=by
 go_enter func119,ntmps119
 go_wp2
 all_goals (go_ret;exact⟨⟨_,rfl⟩,rfl⟩)
theorem Mn (base bc g gc n c:Nat)(cm:CM)(v:Value)(l:List Ins)(w:World)(h:Ff w base bc g gc (n+1) c cm v l) :
  Calls prog 98 #[.pointer (some gc)] w (Ll base g n w fun _=>True):=by
 have hc:=h.blk.cell;simp only[As] at hc;have hS:=h.stm;have hlt:=h.blk.lt;have hg:g<w.heap.size:=hS.lt;clear h;go_enter func98,ntmps98
 go_wp2_with fail
 refine(Cn base g n w.heap.size 9 3 [0,1,1,2,2,3,4,5,15] _ (hS.alloc _) (Blk.new _ _ _) (by omega) (by simp)).mono ?_
 rintro e w' ⟨r,rfl,_,hE,hS'⟩;go_wp2_with fail
 go_ret
 exact⟨_,rfl,trivial,(er.alloc _).trans hE,hS'⟩
set_option maxRecDepth 100000
theorem Afi (base bc g gc n c:Nat)(cm:CM)(v:Value)(l:List Ins)(kd m:Int)(w:World)(h:Ff w base bc g gc (n+150) c cm v l)(hm:m=6\/m=8) :
  Calls prog 96 #[.pointer (some gc),kd,m] w fun e w'=>∃x:Ins,e=.returned (.agg x.cells.toArray)/\Ext [g] w w'/\Stm w' base g n:=by
 have hc:=h.cells;simp only[As] at hc;have hS:=h.stm;have hm1:1<=m:=by omega
 have hm2:m<=8:=by omega
 clear hm;go_enter func96,ntmps96
 go_wp2_with fail
 have HC:=hd hc;clear hc;refine Am 21 (JS base g (n+87) _) (Ext [g]) (Bw [(5,Dt),(12,Dt),(18,Dt),(20,Jt 76 (Ins.cells zI).toArray g (w.heap.size+1))]) (by kernel_rfl) (by kernel_rfl) JS.less ?_ (JS.start (Stm.less (hS.alloc _) (by omega))) ?_
 ·repeat(first|exact Ah.nil|refine Ah.cons Dt.stays ?_|refine Ah.cons Ik.stays ?_|refine Ah.cons Fr.stays ?_|refine Ah.cons Jt.stays ?_|refine Ah.cons Kx.stays ?_|refine Ah.cons Gs.stays ?_|refine Ah.cons Ju.stays ?_|refine Ah.cons Ef.stays ?_)
 simp only[TK]
 repeat(refine dE (fun wr nr hJ=>by(have hcw:=fun i=>(HC.o wr ((er.alloc _).trans hJ.1) i));clear hJ;exact CL) ?_;simp only[PT])
 refine Ca rfl rfl ?_ ?_
 ·apply Exists.intro
  apply Exists.intro
  refine⟨fun wr=>?_,fun wr nr hJ hE=>?_⟩
  ·go_simp
   first|exact⟨rfl,rfl⟩|rfl
  exact⟨_,_,(by omega),Ch base g _ _ _ _ hJ (by omega) (by omega)⟩
 intro (x1:Int);simp only[PT]
 repeat(refine dE (fun wr nr hJ=>by(have hcw:=fun i=>(HC.o wr ((er.alloc _).trans hJ.1) i));clear hJ;exact CL) ?_;simp only[PT])
 refine Ca rfl rfl ?_ ?_
 ·apply Exists.intro
  apply Exists.intro
  refine⟨fun wr=>?_,fun wr nr hJ hE=>?_⟩
  ·go_simp
   first|exact⟨rfl,rfl⟩|rfl
  exact⟨_,_,(by omega),Ch base g _ _ _ _ hJ (by omega) (by omega)⟩
 intro (x2:Int);simp only[PT]
 repeat(refine dE (fun wr nr hJ=>by(have hcw:=fun i=>(HC.o wr ((er.alloc _).trans hJ.1) i));clear hJ;exact CL) ?_;simp only[PT])
 refine Ca rfl rfl ?_ ?_
 ·apply Exists.intro
  apply Exists.intro
  refine⟨fun wr=>?_,fun wr nr hJ hE=>?_⟩
  ·go_simp
   first|exact⟨rfl,rfl⟩|rfl
  exact⟨_,_,(by omega),Bk base g _ _ _ hJ (by omega)⟩
 intro (x3:Int);simp only[PT]
 repeat(refine dE (fun wr nr hJ=>by(have hcw:=fun i=>(HC.o wr ((er.alloc _).trans hJ.1) i));clear hJ;exact CL) ?_;simp only[PT])
 refine Age 76 (Ins.cells zI).toArray (w.heap.size+1) rfl (by simp) rfl ?_ ?_
 ·intro wr;go_simp;try first|rfl|exact⟨rfl,rfl⟩
 intro (b:Nat);simp only[PT];refine Aa (fun w1 hJ hF=>?_)
 obtain⟨hB,hbg,hbn⟩:(Jt 76 (Ins.cells zI).toArray g (w.heap.size+1)).V b w1:=hF 20;clear hF;obtain⟨hJ1,hJ2⟩:=hJ;have hgb:=hS.lt;have hgb':=hS.base;have h1:=hd (Mr.mk hJ1 (hJ2.less (Nat.le_refl (n+87))) hB hbg (by omega) (by simpa using hbn));have hbl:=hB.lt;obtain⟨hcb,hfb⟩:=hB.both;simp only[Ins.cells,zI] at hcb;clear hB hJ1 hJ2;go_upto_if 31 with(go_at_call 119;refine(Oi _ _).mono ?_;rintro e w' ⟨⟨r,rfl⟩,rfl⟩)
 have h2:=hd (((((((((h1.o.set 0 kd (by omega)).set 1 x1 (by omega)).set 2 x2 (by omega)).set 3 x3 (by omega)).set 4 0 (by omega)).set 5 0 (by omega)).set 6 0 (by omega)).set 7 0 (by omega)).set 8 0 (by omega));have hcw1:=HC.o w1 ((er.alloc _).trans h1.o.ext);have hgc:=h.blk.lt;clear h1 hcb hfb hbl;go_cut [] (fun wx=>∃x,Mr base g (n+80) b (w.alloc (.cells (Ins.cells zI).toArray 76)) wx x)
 case first=>
  go_wp2_with fail
  ·refine(Bk base g (n+86) _ _ h2.o.stm (by omega)).mono ?_
   rintro e w2 ⟨r2,rfl,_,hE2,hS2⟩;have h3:=hd (h2.o.draw hE2 hS2);obtain⟨k0,k1⟩:=h3.o.ins.cells;have k2:=h3.o.ins.lt;go_wp2_with fail
   go_meet
   exact⟨_,(h3.o.set 4 r2 (by omega)).less (by omega)⟩
  ·go_meet
   exact⟨_,h2.o.less (by omega)⟩
 case rest=>
  clear h2 hcw1;obtain⟨y,hy⟩:=hcut;have hcw2:=HC.o _ ((er.alloc _).trans hy.ext);obtain⟨k0,k1⟩:=hy.ins.cells;have h2:=hd hy;clear hy;go_upto_if 42 with(go_at_call 119;refine(Oi _ _).mono ?_;rintro e w' ⟨⟨r,rfl⟩,rfl⟩)
  go_cut [] (fun wx=>∃x,Mr base g (n+70) b (w.alloc (.cells (Ins.cells zI).toArray 76)) wx x)
  case first=>
   go_wp2_with fail
   ·refine(Bk base g (n+79) _ _ h2.o.stm (by omega)).mono ?_
    rintro e w2 ⟨r2,rfl,_,hE2,hS2⟩;have h3:=hd (h2.o.draw hE2 hS2);obtain⟨k0,k1⟩:=h3.o.ins.cells;have k2:=h3.o.ins.lt;go_wp2_with fail
    go_meet
    exact⟨_,(h3.o.set 5 r2 (by omega)).less (by omega)⟩
   ·go_meet
    exact⟨_,h2.o.less (by omega)⟩
  case rest=>
   clear h2 hcw2 k0 k1;obtain⟨z,hz⟩:=hcut;have hcw3:=HC.o _ ((er.alloc _).trans hz.ext);obtain⟨k0,k1⟩:=hz.ins.cells;have kl:=hz.ins.lt;obtain⟨r0,r1⟩:=IB.cells (Blk.ext (Blk.new w 76 (Ins.cells zI).toArray) hz.ext (by simp;omega));have h2:=hd hz;clear hz;simp only[zI] at r0;go_upto_block 0 with fail
   go_cut [] (fun wx=>∃x,Mr base g n b (w.alloc (.cells (Ins.cells zI).toArray 76)) wx x)
   case first=>
    go_wp2_with fail
    ·refine Am 11 (JS base g (n+37) _) (Ext [g]) (Bw [(4,Dt),(9,Dt)]) (by kernel_rfl) (by kernel_rfl) JS.less ?_ (JS.start (Stm.less h2.o.stm (by omega))) ?_
     ·repeat(first|exact Ah.nil|refine Ah.cons Dt.stays ?_|refine Ah.cons Ik.stays ?_|refine Ah.cons Fr.stays ?_|refine Ah.cons Jt.stays ?_|refine Ah.cons Kx.stays ?_|refine Ah.cons Gs.stays ?_|refine Ah.cons Ju.stays ?_|refine Ah.cons Ef.stays ?_)
     simp only[TK]
     repeat(refine dE (fun wr nr hJ=>by(have hcw:=fun i=>(HC.o wr ((er.alloc _).trans (h2.o.ext.trans hJ.1)) i));clear hJ;exact CL) ?_;simp only[PT])
     refine Ca rfl rfl ?_ ?_
     ·apply Exists.intro
      apply Exists.intro
      refine⟨fun wr=>?_,fun wr nr hJ hE=>?_⟩
      ·go_simp
       first|exact⟨rfl,rfl⟩|rfl
      exact⟨_,_,(by omega),Ch base g _ _ _ _ hJ (by omega) (by omega)⟩
     intro (y1:Int);simp only[PT]
     repeat(refine dE (fun wr nr hJ=>by(have hcw:=fun i=>(HC.o wr ((er.alloc _).trans (h2.o.ext.trans hJ.1)) i));clear hJ;exact CL) ?_;simp only[PT])
     refine Ca rfl rfl ?_ ?_
     ·apply Exists.intro
      apply Exists.intro
      refine⟨fun wr=>?_,fun wr nr hJ hE=>?_⟩
      ·go_simp
       first|exact⟨rfl,rfl⟩|rfl
      exact⟨_,_,(by omega),Ch base g _ _ _ _ hJ (by omega) (by omega)⟩
     intro (y2:Int);simp only[PT]
     repeat(refine dE (fun wr nr hJ=>by clear hJ;exact CL) ?_;simp only[PT])
     refine Aa (fun w3 hJ hF=>?_)
     clear hF;have h3:=hd (h2.o.draw hJ.1 hJ.2);clear hJ;obtain⟨k0,k1⟩:=h3.o.ins.cells;have k2:=h3.o.ins.lt;go_wp2_with fail
     go_meet
     exact⟨_,((h3.o.set 7 y1 (by omega)).set 8 y2 (by omega)).less (by omega)⟩
    ·refine(Ch base g (n+69) _ _ _ h2.o.stm (by omega) (by omega)).mono ?_
     rintro e w2 ⟨r2,rfl,_,hE2,hS2⟩;have h3:=hd (h2.o.draw hE2 hS2);obtain⟨k0,k1⟩:=h3.o.ins.cells;have k2:=h3.o.ins.lt;go_wp2_with fail
     go_meet
     exact⟨_,(h3.o.set 7 r2 (by omega)).less (by omega)⟩
    ·refine(Cn base g (n+69) _ 5 3 [1,2,3,7,2147483647] _ (h2.o.stm.alloc _) (Blk.new _ _ _) (by omega) (by simp)).mono ?_
     rintro e w2 ⟨r2,rfl,_,hE2,hS2⟩;have h3:=hd ((h2.o.alloc _).draw hE2 hS2);obtain⟨k0,k1⟩:=h3.o.ins.cells;have k2:=h3.o.ins.lt;go_wp2_with fail
     go_meet
     exact⟨_,(h3.o.set 7 r2 (by omega)).less (by omega)⟩
    ·go_meet
     exact⟨_,h2.o.less (by omega)⟩
   case rest=>
    clear h2 hcw3 k0 k1 kl r0 r1;obtain⟨y,hy⟩:=hcut;obtain⟨k0,k1⟩:=hy.ins.cells;have kl:=hy.ins.lt;have HR:Hd (IB wc w.heap.size zI):=hd (Blk.ext (Blk.new w 76 (Ins.cells zI).toArray) hy.ext (by simp;omega));obtain⟨r0,r1⟩:=IB.cells HR.o;have h2:=hd hy;clear hy;simp only[zI] at r0;go_wp2_with fail
    have e2:=h2.o.ext;have s2:=h2.o.stm;have e3:Ext [g] w wc:=((Ext.refl [g] w).alloc _).trans e2;clear h2 e2 k0 k1 r0 r1;refine bodyPost_ret (Wi rfl _ _ w.heap.size y rfl (HR.o.all _ _ _ _ _ _ _ _ _)) rfl ⟨y,rfl,?_,?_⟩
    ·iterate 9 refine Ext.setAt (by right;omega) ?_
     exact e3
    ·iterate 9 refine Stm.setAt (by omega) (by omega) ?_
     exact s2
section
section
variable {P:Program} {ops:Array Oper} {p:Nat} {J:(Nat->Bool)->World->Prop} {Jd:World->Prop} {R:World->World->Prop} {S:Nat->Option Bo} {ad fr:List Nat}
def Ud (J:(Nat->Bool)->World->Prop)(S:Nat->Option Bo)(F:Nat->World->Prop)(G:Option (World->Prop))(w:World):Prop:=
 match G with
 | none=>(∃r,(∀j s,S j=some s->r j=false)/\J r w)/\∀i,F i w
 | some g=>g w
def frB (fr:List Nat)(i:Nat)(v:Value):Option Nat:=
 if fr.contains i then(match v with|.pointer (some a)=>some a.block|.slice (some a) _ _=>some a.block|_=>none) else none
def Bnd:Type:={L:Nat->Prop // ∃N,∀b,L b->b<N }
def Bnd.none:Bnd:=⟨fun _=>False,0,fun _ h=>h.elim⟩
def Xt (L:Bnd)(o:Option Nat):Bnd:=⟨fun y=>o=some y\/L.1 y,by
 obtain⟨N,hN⟩:=L.2;cases o with
 | none=>exact⟨N,fun b h=>h.elim (fun h=>by cases h) (hN b)⟩
 | some x=>exact⟨max N (x+1),fun b h=>h.elim (fun h=>by cases h;omega) (fun h=>by have:=hN b h;omega)⟩⟩
theorem Adt (L:Bnd)(o u:Option Nat):Xt (Xt L o) u=Xt (Xt L u) o:=by
 apply Subtype.ext
 funext y
 exact propext ⟨fun h=>h.elim (fun h=>.inr (.inl h)) (fun h=>h.elim .inl (fun h=>.inr (.inr h))),fun h=>h.elim (fun h=>.inr (.inl h)) (fun h=>h.elim .inl (fun h=>.inr (.inr h)))⟩
def Lz (P:Program)(ops:Array Oper)(J:(Nat->Bool)->World->Prop)(Jd:World->Prop)(R:World->World->Prop)(S:Nat->Option Bo)(ad fr:List Nat)(i:Nat)(o:Oper)(a:Act)(F:Nat->World->Prop)(G:Option (World->Prop))(L:Bnd)(K:Act->(Nat->World->Prop)->Option (World->Prop)->Bnd->Prop):Prop:=
 if Region.wanted o (yielded ops a.tmps) then
  if ad.contains i then
   ∃(s:Bo) (G':s.α->World->Prop),(∀w,Jd w->Ud J S F G w->Fc P o a Jd (fun v w'=>∃x,v=s.f x/\G' x w') w)/\∀x:s.α,K (a.put o.dst (s.f x)) F (some (G' x)) L
  else
   match S i with
   | none=>∃u,(∀w,Jd w->Hx P o a u w)/\K (a.put o.dst u) F G L
   | some s=>G=none/\(∀w r,Gr ops i r->J r w->(∀e∈o.after,Region.binds .any e=true->F e.on w)->Fc P o a (fun w'=>J (off r i) w'/\R w w') (fun v w'=>∃x,v=s.f x/\s.V x w'/\∀b,frB fr i (s.f x)=some b->w.heap.size<=b/\b<w'.heap.size) w)/\
     ∀x:s.α,(∀b,frB fr i (s.f x)=some b->¬L.1 b)->K (a.put o.dst (s.f x)) (upd F i (s.V x)) none (Xt L (frB fr i (s.f x)))
 else K (a.put o.dst undef) F G L
def Nm (P:Program)(ops:Array Oper)(J:(Nat->Bool)->World->Prop)(Jd:World->Prop)(R:World->World->Prop)(S:Nat->Option Bo)(ad fr:List Nat)(Q:Act->World->Prop):List (Nat×Oper)->Act->(Nat->World->Prop)->Option (World->Prop)->Bnd->Prop
 | [],a,F,G,L=>∀w,Jd w->Ud J S F G w->Q a w
 | (i,o) :: rest,a,F,G,L=>Lz P ops J Jd R S ad fr i o a F G L (Nm P ops J Jd R S ad fr Q rest)
theorem Pp {Q:Act->World->Prop}{i:Nat}{o:Oper}{rest:List (Nat×Oper)}{a:Act}{F:Nat->World->Prop}{G:Option (World->Prop)}{L:Bnd} :
  Nm P ops J Jd R S ad fr Q ((i,o) :: rest) a F G L=Lz P ops J Jd R S ad fr i o a F G L (Nm P ops J Jd R S ad fr Q rest):=rfl
theorem Ue {i:Nat}{o:Oper}{a:Act}{F:Nat->World->Prop}{G:Option (World->Prop)}{L:Bnd}{K K':Act->(Nat->World->Prop)->Option (World->Prop)->Bnd->Prop}(hK:∀a F G L,K a F G L->K' a F G L)(h:Lz P ops J Jd R S ad fr i o a F G L K):Lz P ops J Jd R S ad fr i o a F G L K':=by
 unfold Lz at *;split
 ·rename_i c
  simp only[c,if_true] at h;split
  ·rename_i d
   simp only[d,if_true] at h;obtain⟨s,G',h1,h2⟩:=h;exact⟨s,G',h1,fun x=>hK _ _ _ _ (h2 x)⟩
  ·rename_i d
   simp only[d] at h;cases hS:S i with
   | none=>simp only[hS] at h⊢;exact⟨h.choose,h.choose_spec.1,hK _ _ _ _ h.choose_spec.2⟩
   | some s=>simp only[hS] at h⊢;exact⟨h.1,h.2.1,fun x hx=>hK _ _ _ _ (h.2.2 x hx)⟩
 ·rename_i c
  simp only[c] at h;exact hK _ _ _ _ h
def Mix (S:Nat->Option Bo)(ad:List Nat)(i j:Nat):Prop:=(ad.contains i=false/\S i=none)\/(ad.contains j=false/\S j=none)\/(ad.contains i=false/\ad.contains j=false)
theorem Adu {i j:Nat}{oi oj:Oper}{a:Act}{F:Nat->World->Prop}{G:Option (World->Prop)}{L:Bnd}{K:Act->(Nat->World->Prop)->Option (World->Prop)->Bnd->Prop}(hij:i≠j)(hsi:∀cs b,oi.op≠.select cs b)(hsj:∀cs b,oj.op≠.select cs b)
  (hap:oj.apart ops oi=true) (hi:∀e∈oi.after,Region.binds .any e=true->e.on≠j) (hj:∀e∈oj.after,Region.binds .any e=true->e.on≠i)
  (hw:∃w,Jd w) (hm:Mix S ad i j) (hdf:∀i s,S i=some s->∀N:Nat,∃x:s.α,∀b,frB fr i (s.f x)=some b->N<=b)
  (h:Lz P ops J Jd R S ad fr j oj a F G L fun a' F' G' L'=>Lz P ops J Jd R S ad fr i oi a' F' G' L' K):Lz P ops J Jd R S ad fr i oi a F G L fun a' F' G' L'=>Lz P ops J Jd R S ad fr j oj a' F' G' L' K:=by
 obtain⟨h1,h2,h3⟩:=Oper.apart_spec hap;have h2':∀d,oi.dst=some d->oj.dst≠some d:=fun d hd he=>h2 d he hd
 obtain⟨w0,hw0⟩:=hw;obtain⟨N,hN⟩:=L.2;have wi:∀v,Region.wanted oi (yielded ops (a.put oj.dst v).tmps)=Region.wanted oi (yielded ops a.tmps):=fun v=>wanted_put oi a oj.dst v h1
 have wj:∀v,Region.wanted oj (yielded ops (a.put oi.dst v).tmps)=Region.wanted oj (yielded ops a.tmps):=fun v=>wanted_put oj a oi.dst v h3
 have di:∀{u v w},Hx P oi (a.put oj.dst v) u w->Hx P oi a u w:=fun h=>(Fl (ops:=ops) hsi h1).1 h
 have dj:∀{u v w},Hx P oj a u w->Hx P oj (a.put oi.dst v) u w:=fun h=>(Fl (ops:=ops) hsj h3).2 h
 have si:∀{v J' V w},Fc P oi (a.put oj.dst v) J' V w->Fc P oi a J' V w:=fun h=>(Fv (ops:=ops) hsi h1).1 h
 have sj:∀{v J' V w},Fc P oj a J' V w->Fc P oj (a.put oi.dst v) J' V w:=fun h=>(Fv (ops:=ops) hsj h3).2 h
 unfold Lz at h⊢;simp only[wi,wj] at h⊢;by_cases cj:Region.wanted oj (yielded ops a.tmps)=true
 ·simp only[cj,if_true] at h⊢;by_cases ci:Region.wanted oi (yielded ops a.tmps)=true
  ·simp only[ci,if_true] at h⊢;by_cases ai:ad.contains i=true
   ·
    rcases hm with hm|hm|hm
    ·rw[ai] at hm;cases hm.1
    ·simp only[ai,if_true,hm.1,hm.2,Bool.false_eq_true,if_false] at h⊢;obtain⟨u,hu,s,G',hv,hK⟩:=h;refine⟨s,G',fun w hJ hk=>si (hv w hJ hk),fun x=>⟨u,fun w hJ=>dj (hu w hJ),?_⟩⟩
     rw[Act.put_comm a _ _ h2'];exact hK x
    ·rw[ai] at hm;cases hm.1
   ·have ai':ad.contains i=false:=by simpa using ai
    simp only[ai',Bool.false_eq_true,if_false] at h⊢;cases hSi:S i with
    | none=>
     by_cases aj:ad.contains j=true
     ·simp only[hSi,aj,if_true] at h⊢;obtain⟨s,G',hu,hx⟩:=h;obtain⟨v,hv,_⟩:=hx s.d;refine⟨v,fun w hJ=>di (hv w hJ),s,G',fun w hJ hk=>sj (hu w hJ hk),fun x=>?_⟩
      obtain⟨v',hv',hK⟩:=hx x;have:v'=v:=Kp (di (hv' w0 hw0)) (di (hv w0 hw0));subst this;rw[Act.put_comm a _ _ h2'];exact hK
     ·have aj':ad.contains j=false:=by simpa using aj
      simp only[hSi,aj',Bool.false_eq_true,if_false] at h⊢;cases hSj:S j with
      | none=>
       simp only[hSj] at h⊢;obtain⟨u,hu,v,hv,hK⟩:=h;refine⟨v,fun w hJ=>di (hv w hJ),u,fun w hJ=>dj (hu w hJ),?_⟩
       rw[Act.put_comm a v u h2'];exact hK
      | some s=>
       simp only[hSj] at h⊢;obtain⟨hg,hu,hx⟩:=h;obtain⟨x0,hx0⟩:=hdf j s hSj N;have hf0:∀b,frB fr j (s.f x0)=some b->¬L.1 b:=fun b hb hl=>by have:=hx0 b hb;have:=hN b hl;omega
       obtain⟨v,hv,_⟩:=hx x0 hf0;refine⟨v,fun w hJ=>di (hv w hJ),hg,fun w k hgd hJ hF=>sj (hu w k hgd hJ hF),fun x hxf=>?_⟩
       obtain⟨v',hv',hK⟩:=hx x hxf;have:v'=v:=Kp (di (hv' w0 hw0)) (di (hv w0 hw0));subst this;subst hg;rw[Act.put_comm a _ _ h2'];exact hK
    | some t=>
     have aj':ad.contains j=false:=by
      rcases hm with hm|hm|hm
      ·rw[hSi] at hm;cases hm.2
      ·exact hm.1
      ·exact hm.2
     simp only[hSi,aj',Bool.false_eq_true,if_false] at h⊢;cases hSj:S j with
     | none=>
      simp only[hSj] at h⊢;obtain⟨u,hu,hg,hv,hK⟩:=h;refine⟨hg,fun w k hgd hJ hF=>si (hv w k hgd hJ hF),fun y hyf=>⟨u,fun w hJ=>dj (hu w hJ),?_⟩⟩
      rw[Act.put_comm a _ _ h2'];exact hK y hyf
     | some s=>
      simp only[hSj] at h⊢;obtain⟨hg,hu,hx⟩:=h;obtain⟨x0,hx0⟩:=hdf j s hSj N;have hf0:∀b,frB fr j (s.f x0)=some b->¬L.1 b:=fun b hb hl=>by have:=hx0 b hb;have:=hN b hl;omega
      refine⟨hg,fun w k hgd hJ hF=>si ((hx x0 hf0).2.1 w k hgd hJ (fun e he hb=>by have:=hi e he hb;simp only[upd,if_neg this];exact hF e he hb)),fun y hyf=>⟨trivial,fun w k hgd hJ hF=>sj (hu w k hgd hJ (fun e he hb=>by have h0:=hF e he hb;simp only[upd,if_neg (hj e he hb)] at h0;exact h0)),fun x hxf=>?_⟩⟩
      have h3:=(hx x (fun b hb hl=>hxf b hb (.inr hl))).2.2 y (fun b hb hl=>by
       rcases hl with hl|hl
       ·exact hxf b hl (.inl hb)
       ·exact hyf b hb hl)
      rw[Act.put_comm a _ _ h2',Wb hij,Adt];exact h3
  ·have ci':Region.wanted oi (yielded ops a.tmps)=false:=by simpa using ci
   simp only[ci',Bool.false_eq_true,if_false] at h⊢;by_cases aj:ad.contains j=true
   ·simp only[aj,if_true] at h⊢;obtain⟨s,G',hu,hx⟩:=h;refine⟨s,G',fun w hJ hk=>sj (hu w hJ hk),fun x=>?_⟩
    rw[Act.put_comm a _ _ h2'];exact hx x
   ·have aj':ad.contains j=false:=by simpa using aj
    simp only[aj',Bool.false_eq_true,if_false] at h⊢;cases hSj:S j with
    | none=>
     simp only[hSj] at h⊢;obtain⟨u,hu,hK⟩:=h;refine⟨u,fun w hJ=>dj (hu w hJ),?_⟩
     rw[Act.put_comm a _ _ h2'];exact hK
    | some s=>
     simp only[hSj] at h⊢;obtain⟨hg,hu,hx⟩:=h;refine⟨hg,fun w k hgd hJ hF=>sj (hu w k hgd hJ hF),fun x hxf=>?_⟩
     rw[Act.put_comm a _ _ h2'];exact hx x hxf
 ·have cj':Region.wanted oj (yielded ops a.tmps)=false:=by simpa using cj
  simp only[cj',Bool.false_eq_true,if_false] at h⊢;by_cases ci:Region.wanted oi (yielded ops a.tmps)=true
  ·simp only[ci,if_true] at h⊢;by_cases ai:ad.contains i=true
   ·simp only[ai,if_true] at h⊢;obtain⟨s,G',hv,hK⟩:=h;refine⟨s,G',fun w hJ hk=>si (hv w hJ hk),fun x=>?_⟩
    rw[Act.put_comm a _ _ h2'];exact hK x
   ·have ai':ad.contains i=false:=by simpa using ai
    simp only[ai',Bool.false_eq_true,if_false] at h⊢;cases hSi:S i with
    | none=>
     simp only[hSi] at h⊢;obtain⟨v,hv,hK⟩:=h;refine⟨v,fun w hJ=>di (hv w hJ),?_⟩
     rw[Act.put_comm a _ _ h2'];exact hK
    | some t=>
     simp only[hSi] at h⊢;obtain⟨hg,hv,hK⟩:=h;refine⟨hg,fun w k hgd hJ hF=>si (hv w k hgd hJ hF),fun y hyf=>?_⟩
     rw[Act.put_comm a _ _ h2'];exact hK y hyf
  ·have ci':Region.wanted oi (yielded ops a.tmps)=false:=by simpa using ci
   simp only[ci',Bool.false_eq_true,if_false] at h⊢;rw[Act.put_comm a _ _ h2'];exact h
theorem Pq {Q:Act->World->Prop}{i:Nat}{oi:Oper}(hw:∃w,Jd w){l2:List (Nat×Oper)}(hsi:∀cs b,oi.op≠.select cs b)(hdf:∀i s,S i=some s->∀N:Nat,∃x:s.α,∀b,frB fr i (s.f x)=some b->N<=b) :
  ∀(l1:List (Nat×Oper)) (a:Act) (F:Nat->World->Prop) (G:Option (World->Prop)) (L:Bnd),
   (∀j oj,(j,oj)∈l1->i≠j/\(∀cs b,oj.op≠.select cs b)/\oj.apart ops oi=true/\(∀e∈oi.after,Region.binds .any e=true->e.on≠j)/\(∀e∈oj.after,Region.binds .any e=true->e.on≠i)/\Mix S ad i j)->
   Nm P ops J Jd R S ad fr Q (l1 ++ (i,oi) :: l2) a F G L->Lz P ops J Jd R S ad fr i oi a F G L (Nm P ops J Jd R S ad fr Q (l1 ++ l2))
 | [],_,_,_,_,_,h=>h
 | (j,oj) :: l1,a,F,G,L,hl,h=>by
  obtain⟨h1,h2,h3,h4,h5,h6⟩:=hl j oj (by simp);rw[List.cons_append,Pp] at h;have h':=Ue (fun a' F' G' L' hh=>Pq hw hsi hdf l1 a' F' G' L' (fun k ok hk=>hl k ok (by simp[hk])) hh) h;exact Adu h1 hsi h2 h3 h4 h5 hw h6 hdf h'
def Abv (ops:Array Oper)(fx ad:List Nat):Bool:=ad.all fun i=>match ops[i]? with
 | none=>false
 | some oi=>fx.all (fun j=>decide (j<i)&&oi.after.any fun e=>Region.binds .any e&&e.on==j)&&ad.all (fun j=>!decide (j<i)||oi.after.any fun e=>Region.binds .any e&&e.on==j)
theorem Nn {fx:List Nat}(h:Abv ops fx ad=true){i:Nat}{oi:Oper}(hi:i∈ad)(ho:ops[i]? = some oi) :
  (∀j∈fx,j<i/\∃e∈oi.after,Region.binds .any e=true/\e.on=j)/\∀j∈ad,j<i->∃e∈oi.after,Region.binds .any e=true/\e.on=j:=by
 unfold Abv at h;rw[List.all_eq_true] at h;have h1:=h i hi;rw[ho] at h1;simp only[Bool.and_eq_true,List.all_eq_true,Bool.or_eq_true,Bool.not_eq_true',decide_eq_true_eq,decide_eq_false_iff_not] at h1;refine⟨fun j hj=>⟨(h1.1 j hj).1,?_⟩,fun j hj hlt=>?_⟩
 ·obtain⟨e,he,hb⟩:=Array.any_eq_true'.1 (h1.1 j hj).2;simp only[Bool.and_eq_true,beq_iff_eq] at hb;exact⟨e,he,hb.1,hb.2⟩
 ·obtain⟨e,he,hb⟩:=Array.any_eq_true'.1 ((h1.2 j hj).resolve_left (by omega));simp only[Bool.and_eq_true,beq_iff_eq] at hb;exact⟨e,he,hb.1,hb.2⟩
theorem Tg {p m:Nat}{fx:List Nat}{Q:Act->World->Prop}{Q':Exit->Act->World->Prop}(hB:Lm ops p=true)(hL:Abv ops fx ad=true)(hfx:∀i s,S i=some s->i∈fx)
  (hQ:∀listed a w,listed.size=ops.size->(∀j,j<ops.size->(listed.getD j true=false ↔ p<=j))->Up ops listed->Q a w->wpAny P .any ops Q' m listed a w)
  (hJ:∀i r w,(S i=none\/∃oi,ops[i]? = some oi/\oi.guard≠none)->Gr ops i r->J r w->J (off r i) w) (hD:∀r w,J r w->Jd w) (hS:∀i s,S i=some s->∀x w w',R w w'->s.V x w->s.V x w') (hfp:∀i s,S i=some s->i<p) (hdf:∀i s,S i=some s->∀N:Nat,∃x:s.α,∀b,frB fr i (s.f x)=some b->N<=b) (hRs:∀w w',R w w'->w.heap.size<=w'.heap.size) :
  ∀(n:Nat) (l:List (Nat×Oper)) (listed:Array Bool) (a:Act) (w:World) (F:Nat->World->Prop) (G:Option (World->Prop)) (L:Bnd),l.length=n->listed.size=ops.size->
   (∀j oj,(j,oj)∈l ↔ ops[j]? = some oj/\j<p/\listed.getD j true=false)->(∀j,j<ops.size->p<=j->listed.getD j true=false)->(l.map (·.1)).Pairwise (· < ·)->
   (G=none->((∀j w w',R w w'->F j w->F j w')/\(∀j,F j w)/\J (rem listed) w)/\∀b,L.1 b->b<w.heap.size)->(∀g,G=some g->Jd w/\g w)->Up ops listed->Nm P ops J Jd R S ad fr Q l a F G L->wpAny P .any ops Q' (n+m) listed a w:=by
 have hns:=fun j o cs b=>Wc (ops:=ops) hB j o cs b
 have hle:=Ns hB;intro n
 induction n with
 | zero=>
  intro l listed a w F G L hl hsz hmem htl hsort hN hG hsh h;have hl0:l=[]:=List.eq_nil_of_length_eq_zero hl;subst hl0;rw[Nat.zero_add]
  have hiff:∀j,j<ops.size->(listed.getD j true=false ↔ p<=j):=fun j hj'=>⟨fun h0=>by
   rcases Nat.lt_or_ge j p with hlt|hge
   ·have:=(hmem j _).2 ⟨Array.getElem?_eq_getElem hj',hlt,h0⟩;simp at this
   ·exact hge,htl j hj'⟩
  refine hQ _ _ _ hsz hiff hsh ?_
  cases G with
  | none=>
   obtain⟨⟨h1,h2,h3⟩,_⟩:=hN rfl;refine h w (hD _ _ h3) ⟨⟨_,fun j s hs=>?_,h3⟩,h2⟩
   unfold rem;by_cases hj:j<ops.size
   ·cases hc:listed.getD j true
    ·have h4:=(hiff j hj).1 hc;have h5:=hfp j s hs;omega
    ·rfl
   ·have:listed[j]? = none:=Array.getElem?_eq_none (by omega);simp[Array.getD_eq_getD_getElem?,this]
  | some g=>exact h w (hG g rfl).1 (hG g rfl).2
 | succ n ih=>
  intro l listed a w F G L hl hsz hmem htl hsort hN hG hsh h
  have hjd:Jd w:=by
   cases G with
   | none=>exact hD _ _ (hN rfl).1.2.2
   | some g=>exact(hG g rfl).1
  have hfirst:∃i oi l',l=(i,oi) :: l':=by
   match l,hl with
   | (i,oi) :: l',_=>exact⟨i,oi,l',rfl⟩
  rw[show n+1+m=(n+m)+1 by omega];refine⟨fun hr=>?_,fun i hi=>?_⟩
  ·
   exfalso
   obtain⟨i,oi,l',rfl⟩:=hfirst;obtain⟨hoi,hip,hun⟩:=(hmem i oi).1 (by simp)
   have:i∈Region.ready .any ops listed:=by
    refine mem_ready.2 ⟨hun,oi,hoi,fun e he hb=>?_⟩
    have hlt:=(El hB hoi).1 e he hb;have hio:i<ops.size:=(Array.getElem?_eq_some_iff.1 hoi).1;have heo:ops[e.on]? = some (ops[e.on]'(by omega)):=Array.getElem?_eq_getElem (by omega);refine Kr (by omega) fun hg=>?_
    have hm:=(hmem e.on _).2 ⟨heo,by omega,hg⟩;rcases List.mem_cons.1 hm with h1|h1
    ·have:=congrArg Prod.fst h1;simp at this;omega
    ·simp only[List.map_cons,List.pairwise_cons] at hsort;have:=hsort.1 e.on (List.mem_map.2 ⟨_,h1,rfl⟩);omega
   rw[hr] at this;cases this
  ·obtain⟨hun,oi,hoi,hall⟩:=mem_ready.1 hi;have hio:i<ops.size:=(Array.getElem?_eq_some_iff.1 hoi).1
   have hnolist:∀j,j<ops.size->listed.getD j true=false->∀e∈oi.after,Region.binds .any e=true->e.on≠j:=fun j hj' hjf e he hb heq=>by
    have h1:=hall e he hb;rw[heq] at h1;exact Gq (by omega) h1 hjf
   have hip:i<p:=by
    rcases Nat.lt_or_ge i p with hlt|hge
    ·exact hlt
    ·exfalso
     obtain⟨j,oj,l',rfl⟩:=hfirst;obtain⟨hoj,hjp,hjf⟩:=(hmem j oj).1 (by simp);exact Gq (by omega) (Nh hB hsh hoi hge hall _ j (Nat.le_refl _) (by omega)) hjf
   have hin:=(hmem i oi).2 ⟨hoi,hip,hun⟩;obtain⟨l1,l2,rfl⟩:=List.append_of_mem hin
   have hnd:∀j oj,(j,oj)∈l1 ++ l2->j≠i:=by
    intro j oj hj' he;subst he;rw[List.map_append,List.map_cons,List.pairwise_append] at hsort;obtain⟨_,s2,s3⟩:=hsort;rcases List.mem_append.1 hj' with h1|h1
    ·have:=s3 j (List.mem_map.2 ⟨_,h1,rfl⟩) j (by simp);omega
    ·have:=(List.pairwise_cons.1 s2).1 j (List.mem_map.2 ⟨_,h1,rfl⟩);omega
   have hmem':∀j oj,(j,oj)∈l1 ++ l2 ↔ ops[j]? = some oj/\j<p/\(listed.setIfInBounds i true).getD j true=false:=by
    intro j oj;by_cases hji:j=i
    ·subst hji;refine⟨fun h'=>absurd rfl (hnd _ _ h'),fun h'=>?_⟩
     have hlt:j<listed.size:=by omega
     simp[hlt] at h'
    ·rw[getD_set_ne true (Ne.symm hji),<-hmem j oj];simp[hji]
   have htl':∀j,j<ops.size->p<=j->(listed.setIfInBounds i true).getD j true=false:=fun j hj' hpj=>by
    rw[getD_set_ne true (by omega)];exact htl j hj' hpj
   have hsort':((l1 ++ l2).map (·.1)).Pairwise (· < ·):=by
    refine List.Pairwise.sublist ?_ hsort
    exact List.Sublist.map _ (List.Sublist.append (List.Sublist.refl l1) (List.sublist_cons_self _ _))
   have hgood:Gr ops i (rem listed):=by
    refine⟨by simp[rem,hun],fun o ho e he hb=>?_,fun j oj ho hr e he hb=>?_⟩
    ·rw[hoi] at ho;cases ho;have hlt:=(El hB hoi).1 e he hb;have:=Fw (i:=e.on) (by omega) (hall e he hb);simp[rem,this]
    ·have hlt:=(El hB ho).1 e he hb;have hjo:j<ops.size:=(Array.getElem?_eq_some_iff.1 ho).1
     have hjl:listed.getD j false=true:=by
      have h1:listed.getD j true=true:=by simpa[rem] using hr
      exact Ln (by omega) h1
     have:=Fw (i:=e.on) (by omega) (hsh j oj ho hjl e he hb);simp[rem,this]
   have hset:rem (listed.setIfInBounds i true)=off (rem listed) i:=by
    funext j
    by_cases hji:j=i
    ·subst hji;have:j<listed.size:=by omega
     simp[rem,off,this]
    ·simp[rem,off,getD_set_ne true (Ne.symm hji),hji]
   have hpull:=Pq (P:=P) (ops:=ops) (J:=J) (Jd:=Jd) (R:=R) (S:=S) (ad:=ad) (fr:=fr) ⟨w,hjd⟩ (fun cs b=>hns i oi cs b hoi) hdf l1 a F G L (fun j oj hjl=>by
    have hjm:=(hmem j oj).1 (List.mem_append_left _ hjl);have hjo:j<ops.size:=(Array.getElem?_eq_some_iff.1 hjm.1).1
    have hlt:j<i:=by
     rw[List.map_append,List.map_cons,List.pairwise_append] at hsort;exact hsort.2.2 j (List.mem_map.2 ⟨_,hjl,rfl⟩) i (by simp)
    have hno:=hnolist j hjo hjm.2.2
    have hmix:Mix S ad i j:=by
     by_cases hai:i∈ad
     ·obtain⟨f1,f2⟩:=Nn hL hai hoi;refine .inr (.inl ⟨?_,?_⟩)
      ·cases hc:ad.contains j with
       | false=>rfl
       | true=>
        obtain⟨e,he,hb,hon⟩:=f2 j (by simpa using hc) hlt;exact absurd hon (hno e he hb)
      ·cases hs:S j with
       | none=>rfl
       | some s=>
        obtain⟨_,e,he,hb,hon⟩:=f1 j (hfx j s hs);exact absurd hon (hno e he hb)
     ·have hai':ad.contains i=false:=by simpa using hai
      cases hsi:S i with
      | none=>exact .inl ⟨hai',hsi⟩
      | some s=>
       refine .inr (.inr ⟨hai',?_⟩)
       cases hc:ad.contains j with
       | false=>rfl
       | true=>
        have haj:j∈ad:=by simpa using hc
        have:=((Nn hL haj hjm.1).1 i (hfx i s hsi)).1;omega
    exact⟨by omega,fun cs b=>hns j oj cs b hjm.1,(El hB hoi).2.1 hip j oj hlt hjm.1 hno,hno,fun e he hb=>by have:=(El hB hjm.1).1 e he hb;omega,hmix⟩) h
   have hlen:(l1 ++ l2).length=n:=by simp at hl⊢;omega
   unfold wpOp;rw[hoi];show if Region.wanted oi (yielded ops a.tmps)=true then _ else _
   unfold Lz at hpull;split
   ·rename_i hwd
    left
    simp only[hwd,if_true] at hpull;by_cases hai:ad.contains i=true
    ·simp only[hai,if_true] at hpull;obtain⟨s,G',hu,hK⟩:=hpull
     have hkn:Ud J S F G w:=by
      cases G with
      | none=>
       obtain⟨⟨_,h2,h3⟩,_⟩:=hN rfl;refine⟨⟨_,fun j t ht=>?_,h3⟩,h2⟩
       obtain⟨hji,e,he,hb,hon⟩:=(Nn hL (by simpa using hai) hoi).1 j (hfx j t ht);have h4:=Fw (i:=e.on) (by omega) (hall e he hb);rw[hon] at h4;simp[rem,h4]
      | some g=>exact(hG g rfl).2
     refine Kq (hu w hjd hkn) fun v w' hv hj'=>?_
     obtain⟨x,rfl,hx⟩:=hv;exact ih (l1 ++ l2) _ _ w' F (some (G' x)) L hlen (by simpa using hsz) hmem' htl' hsort' (fun h=>by cases h) (fun g hg=>by cases hg;exact⟨hj',hx⟩) (hsh.set hoi hall) (hK x)
    ·simp only[hai] at hpull;cases hSi:S i with
     | none=>
      simp only[hSi] at hpull;obtain⟨u,hu,hK⟩:=hpull;exact Ph (hu w hjd) (ih (l1 ++ l2) _ _ w F G L hlen (by simpa using hsz) hmem' htl' hsort' (fun hg=>by obtain⟨⟨h1,h2,h3⟩,h4⟩:=hN hg;exact⟨⟨h1,h2,hset ▸ hJ i _ w (.inl hSi) hgood h3⟩,h4⟩) hG (hsh.set hoi hall) hK)
     | some s=>
      simp only[hSi] at hpull;obtain⟨hg0,hu,hK⟩:=hpull;subst hg0;obtain⟨⟨hst,hF,hj⟩,hLw⟩:=hN rfl;refine Kq (hu w _ hgood hj (fun e he hb=>hF _)) fun v w' hv hj'=>?_
      obtain⟨x,rfl,hx,hfrx⟩:=hv;have hsz2:=hRs _ _ hj'.2;refine ih (l1 ++ l2) _ _ w' (upd F i (s.V x)) none (Xt L (frB fr i (s.f x))) hlen (by simpa using hsz) hmem' htl' hsort' (fun _=>⟨⟨?_,?_,hset ▸ hj'.1⟩,fun b hb=>?_⟩) (fun g hg=>by cases hg) (hsh.set hoi hall) (hK x (fun b hb hl=>by have h1:=(hfrx b hb).1;have h2:=hLw b hl;omega))
      ·intro j w1 w2 hr hf;unfold upd at hf⊢;split
       ·rename_i hh;simp only[hh,if_true] at hf;exact hS i s hSi x _ _ hr hf
       ·rename_i hh;simp only[hh,if_false] at hf;exact hst _ _ _ hr hf
      ·intro j;unfold upd;split
       ·exact hx
       ·exact hst _ _ _ hj'.2 (hF j)
      ·rcases hb with hb|hb
       ·exact(hfrx b hb).2
       ·have:=hLw b hb;omega
   ·rename_i hwd
    simp only[hwd] at hpull;refine ih (l1 ++ l2) _ _ w F G L hlen (by simpa using hsz) hmem' htl' hsort' (fun hg=>?_) hG (hsh.set hoi hall) hpull
    obtain⟨⟨h1,h2,h3⟩,h4⟩:=hN hg;exact⟨⟨h1,h2,hset ▸ hJ i _ w (.inr ⟨oi,hoi,fun hg=>hwd (by simp[Region.wanted,hg])⟩) hgood h3⟩,h4⟩
def Fk (P:Program)(ops:Array Oper)(J:(Nat->Bool)->World->Prop)(Jd:World->Prop)(R:World->World->Prop)(S:Nat->Option Bo)(ad fr:List Nat)(Q:Act->World->Prop):Nat->List Oper->Act->(Nat->World->Prop)->Option (World->Prop)->Bnd->Prop
 | _,[],a,F,G,L=>∀w,Jd w->Ud J S F G w->Q a w
 | k,o :: rest,a,F,G,L=>Lz P ops J Jd R S ad fr k o a F G L (Fk P ops J Jd R S ad fr Q (k+1) rest)
theorem Uf {Q:Act->World->Prop}:∀(l:List Oper) (k:Nat) (a:Act) (F:Nat->World->Prop) (G:Option (World->Prop)) (L:Bnd),Fk P ops J Jd R S ad fr Q k l a F G L->Nm P ops J Jd R S ad fr Q (Gx k l) a F G L
 | [],_,_,_,_,_,h=>h
 | _ :: l,k,a,F,G,L,h=>by
  unfold Gx;rw[Pp];exact Ue (fun a' F' G' L' hh=>Uf l (k+1) a' F' G' L' hh) h
theorem Jg {id:Nat}{Q:Exit->Act->World->Prop}{a:Act}{w:World}{l:List Oper}(p:Nat)(fx ad fr:List Nat)(J:(Nat->Bool)->World->Prop)(Jd:World->Prop)(R:World->World->Prop)(S:Nat->Option Bo)(hm:P.follows .mixedOrders=true)(hB:Lm l.toArray p=true)
  (hL:Abv l.toArray fx ad=true) (hfx:∀i s,S i=some s->i∈fx) (hfp:(fx.all fun i=>decide (i<p))=true)
  (hJ:∀i r w,(S i=none\/∃oi,l.toArray[i]? = some oi/\oi.guard≠none)->Gr l.toArray i r->J r w->J (off r i) w) (hD:∀r w,J r w->Jd w) (hS:∀i s,S i=some s->∀x w w',R w w'->s.V x w->s.V x w') (h0:J (fun j=>decide (j<l.length)) w.drew) (hdf:∀i s,S i=some s->∀N:Nat,∃x:s.α,∀b,frB fr i (s.f x)=some b->N<=b) (hRs:∀w w',R w w'->w.heap.size<=w'.heap.size)
  (h:Fk P l.toArray J Jd R S ad fr (fun a w=>wpList P l.toArray Q (l.drop p) a w) 0 (l.take p) a (fun _ _=>True) none Bnd.none):(Code.region id l.toArray true).wp P Q a w:=by
 have hle:p<=l.length:=by simpa using Ns hB
 have hlen:(l.take p).length=p:=by simp;omega
 have hsz:l.toArray.size=p+(l.drop p).length:=by simp;omega
 refine wp_region_any hm ?_
 rw[hsz]
 have hfp':∀i s,S i=some s->i<p:=fun i s hs=>by
  rw[List.all_eq_true] at hfp;simpa using hfp i (hfx i s hs)
 refine Tg (m:=(l.drop p).length) (Q:=fun a w=>wpList P l.toArray Q (l.drop p) a w) hB hL hfx ?_ hJ hD hS hfp' hdf hRs p (Gx 0 (l.take p)) _ a _ (fun _ _=>True) none Bnd.none (by rw[Jr,hlen]) (by simp;omega) ?_ ?_ (Js _ _) ?_ (fun g hg=>by cases hg) ?_ (Uf _ _ _ _ _ _ h)
 ·intro listed a' w' hs hun hsh h';exact Ni hB (l.drop p) p listed a' w' (Nat.le_refl _) hs hsz.symm (fun j=>by simp) hun hsh h'
 ·intro j oj;rw[Ks];have hd:p+(l.drop p).length=l.length:=by simp;omega
  have hr:∀j,(Array.replicate (p+(l.drop p).length) false).getD j true=false ↔ j<l.length:=fun j=>by
   rw[hd];by_cases hj:j<l.length<;>simp[hj]
  rw[hr];simp only[Nat.zero_le,true_and,Nat.sub_zero,List.getElem?_toArray];constructor
  ·intro h1;rw[List.getElem?_take] at h1;split at h1
   ·rename_i hjp
    exact⟨h1,hjp,by have:=(List.getElem?_eq_some_iff.1 h1).1;omega⟩
   ·cases h1
  ·rintro⟨h1,h2,_⟩;rw[List.getElem?_take,if_pos h2];exact h1
 ·intro j hj _;have hd:p+(l.drop p).length=l.length:=by simp;omega
  have hj':j<l.length:=by simpa using hj
  rw[hd];simp[hj']
 ·intro _;refine⟨⟨by simp,by simp,?_⟩,fun b hb=>hb.elim⟩
  have hrm:rem (Array.replicate (p+(l.drop p).length) false)=fun j=>decide (j<l.length):=by
   have hd:p+(l.drop p).length=l.length:=by simp;omega
   rw[hd];funext j
   by_cases hj:j<l.length<;>simp[rem,hj]
  rw[hrm];exact h0
 ·intro k ok _ hk;simp[Array.getD_eq_getD_getElem?,Array.getElem?_replicate] at hk;split at hk<;>simp at hk
section
variable {Q:Act->World->Prop} {k:Nat} {o:Oper} {rest:List Oper} {a:Act} {F:Nat->World->Prop} {G:Option (World->Prop)} {L:Bnd}
theorem No (h:∀w,Jd w->Ud J S F G w->Q a w):Fk P ops J Jd R S ad fr Q k [] a F G L:=h
theorem Aar (hA:ad.contains k=false)(hS:S k=none)(hw:Region.wanted o (yielded ops a.tmps)=true)(h:∃u,(∀w,Jd w->(execOp a.eval o).run P w=.ok (.value u) w)/\Fk P ops J Jd R S ad fr Q (k+1) rest (a.put o.dst u) F G L) :
  Fk P ops J Jd R S ad fr Q k (o :: rest) a F G L:=by
 obtain⟨u,hu,h⟩:=h;unfold Fk Lz;rw[if_pos hw,if_neg (by rw[hA];decide),hS];exact⟨u,fun w hJ=>by unfold Hx;rw[hu w hJ];exact⟨rfl,rfl⟩,h⟩
theorem dET {u:Value}(h2:∀w,Jd w->(execOp a.eval o).run P w=.ok (.value u) w)(h3:Fk P ops J Jd R S ad fr Q (k+1) rest (a.put o.dst u) F G L)(hA:ad.contains k=false:=by exact rfl)(hS:S k=none:=by exact rfl)(hw:Region.wanted o (yielded ops a.tmps)=true:=by exact rfl) :
  Fk P ops J Jd R S ad fr Q k (o :: rest) a F G L:=Aar hA hS hw ⟨u,h2,h3⟩
theorem Hq (s:Bo)(hA:ad.contains k=false)(hS:S k=some s)(hw:Region.wanted o (yielded ops a.tmps)=true)
  (hu:∀w n,Gr ops k n->J n w->(∀e∈o.after,Region.binds .any e=true->F e.on w)->∃x w',(execOp a.eval o).run P w=.ok (.value (s.f x)) w'/\s.V x w'/\J (off n k) w'/\R w w'/\∀b,frB fr k (s.f x)=some b->w.heap.size<=b/\b<w'.heap.size)
  (h:∀x:s.α,(∀b,frB fr k (s.f x)=some b->¬L.1 b)->Fk P ops J Jd R S ad fr Q (k+1) rest (a.put o.dst (s.f x)) (upd F k (s.V x)) none (Xt L (frB fr k (s.f x)))) (hG:G=none:=by rfl):Fk P ops J Jd R S ad fr Q k (o :: rest) a F G L:=by
 unfold Fk Lz;rw[if_pos hw,if_neg (by rw[hA];decide),hS];refine⟨hG,fun w n hg hJ hF=>?_,h⟩
 obtain⟨x,w',hr,hV,hJ',hR,hfr⟩:=hu w n hg hJ hF;unfold Fc;rw[hr];exact⟨⟨x,rfl,hV,hfr⟩,hJ',hR⟩
theorem Pr (s:Bo)(hA:ad.contains k=false)(hS:S k=some s)(hw:Region.wanted o (yielded ops a.tmps)=true)
  (hh:∃(f:FuncId) (args:Array Value),(∀w,(execOp a.eval o).run P w=.ok (.enter f args) w)/\
   (∀w n,Gr ops k n->J n w->(∀e∈o.after,Region.binds .any e=true->F e.on w)->Calls P f args w fun e w'=>∃x,e=.returned (s.f x)/\s.V x w'/\J (off n k) w'/\R w w'/\∀b,frB fr k (s.f x)=some b->w.heap.size<=b/\b<w'.heap.size))
  (h:∀x:s.α,(∀b,frB fr k (s.f x)=some b->¬L.1 b)->Fk P ops J Jd R S ad fr Q (k+1) rest (a.put o.dst (s.f x)) (upd F k (s.V x)) none (Xt L (frB fr k (s.f x)))) (hG:G=none:=by rfl):Fk P ops J Jd R S ad fr Q k (o :: rest) a F G L:=by
 obtain⟨f,args,hr,hu⟩:=hh;unfold Fk Lz;rw[if_pos hw,if_neg (by rw[hA];decide),hS];refine⟨hG,fun w n hg hJ hF=>?_,h⟩
 unfold Fc;rw[hr w];exact(hu w n hg hJ hF).mono fun e w' ⟨x,he,hV,hJ',hR,hfr⟩=>⟨s.f x,he,⟨x,rfl,hV,hfr⟩,hJ',hR⟩
theorem Xu (G':World->Prop)(hA:ad.contains k=true)(hw:Region.wanted o (yielded ops a.tmps)=true)
  (hu:∀w,Jd w->Ud J S F G w->∃w',(execOp a.eval o).run P w=.ok .skip w'/\Jd w'/\G' w')
  (h:Fk P ops J Jd R S ad fr Q (k+1) rest (a.put o.dst undef) F (some G') L):Fk P ops J Jd R S ad fr Q k (o :: rest) a F G L:=by
 unfold Fk Lz;rw[if_pos hw,if_pos hA];refine⟨⟨Unit,(),fun _=>undef,fun _ _=>True⟩,fun _=>G',fun w hJ hK=>?_,fun _=>h⟩
 obtain⟨w',hr,hJ',hG⟩:=hu w hJ hK;unfold Fc;rw[hr];exact⟨⟨(),rfl,hG⟩,hJ'⟩
end
end
end
theorem Sb (A:Option Addr)(len cap:Nat)(w:World)(hlen:len<=9223372036854775807)(hA:0<len->∃b o,A=some ⟨b,o,none⟩/\b<w.heap.size/\∀i,i<len->∃x,w.cell? ⟨b,o+i,none⟩=some (.int .i64 x)) :
  Stm (w.alloc (.cells #[.slice A len cap,(0:Int)] 25)) w.heap.size w.heap.size 1000000000:=
 ⟨A,len,cap,0,Blk.new _ _ _,Nat.le_refl _,Int.le_refl _,by omega,hlen,fun h=>by
  obtain⟨b,o,h1,h2,h3⟩:=hA h;refine⟨b,o,h1,h2,fun i hi=>?_⟩
  obtain⟨x,hx⟩:=h3 i hi;exact⟨x,((Ext.refl [] w).alloc _).held hx (by simp)⟩⟩
section
section
variable {w a:World} {b base g n:Nat} {S:List Nat} {t:TypeId}
theorem Blk.all5 {x0 x1 x2 x3 x4:Value}(h:Blk w b t #[x0,x1,x2,x3,x4])(y0 y1 y2 y3 y4:Value) :
  Blk (((((w.setCell ⟨b,0,none⟩ y0).setCell ⟨b,1,none⟩ y1).setCell ⟨b,2,none⟩ y2).setCell ⟨b,3,none⟩ y3).setCell ⟨b,4,none⟩ y4) b t #[y0,y1,y2,y3,y4]:=by
 have h0:=h.set_' 0 y0 #[y0,x1,x2,x3,x4] rfl;have h1:=h0.set_' 1 y1 #[y0,y1,x2,x3,x4] rfl;have h2:=h1.set_' 2 y2 #[y0,y1,y2,x3,x4] rfl;have h3:=h2.set_' 3 y3 #[y0,y1,y2,y3,x4] rfl;exact h3.set_' 4 y4 #[y0,y1,y2,y3,y4] rfl
theorem Ext.setAt5 (h:Ext S a w)(hb:b∈S\/a.heap.size<=b)(y0 y1 y2 y3 y4:Value) :
  Ext S a (((((w.setCell ⟨b,0,none⟩ y0).setCell ⟨b,1,none⟩ y1).setCell ⟨b,2,none⟩ y2).setCell ⟨b,3,none⟩ y3).setCell ⟨b,4,none⟩ y4):=
 Ext.setAt hb (Ext.setAt hb (Ext.setAt hb (Ext.setAt hb (Ext.setAt hb h))))
theorem Stm.setAt5 (h:Stm w base g n)(hg:g≠b)(hb:base<=b)(y0 y1 y2 y3 y4:Value) :
  Stm (((((w.setCell ⟨b,0,none⟩ y0).setCell ⟨b,1,none⟩ y1).setCell ⟨b,2,none⟩ y2).setCell ⟨b,3,none⟩ y3).setCell ⟨b,4,none⟩ y4) base g n:=
 Stm.setAt hg hb (Stm.setAt hg hb (Stm.setAt hg hb (Stm.setAt hg hb (Stm.setAt hg hb h))))
end
theorem Yr (base g n:Nat)(w:World)(h:Stm w base g (n+20)) :
  Calls prog 19 #[.pointer (some g)] w fun e w'=>∃m:Mc,e=.returned (.agg m.cells.toArray)/\Ext [g] w w'/\Stm w' base g n:=by
 have HG:=hd h.lt;have HBW:Hd (base<=w.heap.size):=hd (nt h.base (Nat.le_of_lt h.lt));have HR0:=hd (Blk.new w 27 #[(0:Int),(0:Int),(0:Int),(0:Int),(0:Int)]);have HS0:=hd (h.alloc (.cells #[(0:Int),(0:Int),(0:Int),(0:Int),(0:Int)] 27));have HE0:Hd (Ext [g] w (w.alloc (.cells #[(0:Int),(0:Int),(0:Int),(0:Int),(0:Int)] 27))):=hd (er.alloc _);clear h;go_enter func19,ntmps19
 go_wp2_with fail
 refine(Ch base g (n+18) 24 64 _ (HS0.o.less (by omega)) (by omega) (by omega)).mono ?_
 rintro e w1 ⟨r1,rfl,_,hE,hS⟩;have HE1:=hd (HE0.o.trans hE);have HS1:=hd hS;have HR1:=hd (HR0.o.ext hE (by have:=HG.o;simp;omega));clear hE hS;go_wp2_with fail
 refine(Ch base g (n+17) 2 3 _ (HS1.o.less (by omega)) (by omega) (by omega)).mono ?_
 rintro e w2 ⟨r2,rfl,_,hE,hS⟩;have HE2:=hd (HE1.o.trans hE);have HS2:=hd hS;have HR2:=hd (HR1.o.ext hE (by have:=HG.o;simp;omega));clear hE hS;go_wp2_with fail
 refine(Ch base g (n+16) 2 4 _ (HS2.o.less (by omega)) (by omega) (by omega)).mono ?_
 rintro e w3 ⟨r3,rfl,_,hE,hS⟩;have HE3:=hd (HE2.o.trans hE);have HS3:=hd hS;have HR3:=hd (HR2.o.ext hE (by have:=HG.o;simp;omega));clear hE hS;go_wp2_with fail
 refine(Ch base g (n+15) 1 2 _ (HS3.o.less (by omega)) (by omega) (by omega)).mono ?_
 rintro e w4 ⟨r4,rfl,_,hE,hS⟩;have HE4:=hd (HE3.o.trans hE);have HS4:=hd hS;have HR4:=hd (HR3.o.ext hE (by have:=HG.o;simp;omega));clear hE hS;go_wp2_with fail
 refine(Hw base g (n+10) 20 _ ((HS4.o.less (by omega)).alloc _) (by omega)).mono ?_
 rintro e w5 ⟨fb,rfl,hE,hS⟩;have hgw:g<w4.heap.size:=HS4.o.lt;have hRw:w.heap.size<w4.heap.size:=HR4.o.lt;have HM5:=hd ((Blk.new w4 27 #[r1,r2,(256:Int),r3,r4]).ext hE (by simp;omega));have HE5:=hd (HE4.o.trans (((Ext.refl [g] w4).alloc _).trans hE));have HS5:=hd hS;have HR5:=hd ((HR4.o.alloc (.cells #[r1,r2,(256:Int),r3,r4] 27)).ext hE (by have:=HG.o;simp;omega));clear hE hS;cases fb
 ·have HR:=HR5;have HEE:=HE5;have HSS:=hd (HS5.o.less (show n<=n+10 by omega));have qm:=HM5.o.cell;have qml:=HM5.o.lt;have qr:=HR5.o.cell;have qrf:=HR5.o.frozen;have qrl:=HR5.o.lt;go_wp2_with fail
  exact bodyPost_ret (results_cell_row rfl _ _ w.heap.size 27 #[r1,r2,(256:Int),r3,r4] (0,0) _ rfl (Blk.all5 HR.o _ _ _ _ _) underlying27 rfl (by kernel_rfl)) rfl ⟨⟨r1,r2,256,r3,r4⟩,rfl,HEE.o.setAt5 (.inr (Nat.le_refl _)) _ _ _ _ _,HSS.o.setAt5 (by have:=HG.o;omega) HBW.o _ _ _ _ _⟩
 ·go_wp2_with fail
  refine(Bk base g (n+8) 5 _ (HS5.o.less (by omega)) (by omega)).mono ?_
  rintro e w6 ⟨r,rfl,hr,hE,hS⟩;have HE6:=hd (HE5.o.trans hE);have HS6:=hd hS;have HM6:=hd (HM5.o.ext hE (by simp;omega));have HR6:=hd (HR5.o.ext hE (by have:=HG.o;simp;omega));have hr5:r=0\/r=1\/r=2\/r=3\/r=4:=by have:=hr.2 (by omega);have:=hr.1;omega
  clear hE hS hr;rcases hr5 with rfl|rfl|rfl|rfl|rfl
  ·go_wp2_with fail
   refine(Cn base g (n+4) w6.heap.size 4 3 [0,524289,1,-1] _ ((HS6.o.less (by omega)).alloc _) (Blk.new _ _ _) (by have:=HS6.o.lt;omega) (by decide)).mono ?_
   rintro e w7 ⟨rp,rfl,_,hE,hS⟩;have hEE:=((Ext.refl [g] w6).alloc (.cells (Db [0,524289,1,-1]) 3)).trans hE;have HM7:=hd (HM6.o.ext hEE (by simp;omega));have HR7:=hd (HR6.o.ext hEE (by have:=HG.o;simp;omega));have HEE:=hd (Ext.setAt (b:=w4.heap.size) (i:=0) (u:=.int .i64 rp) (.inr (by omega)) (HE6.o.trans hEE));have HSS:=hd (Stm.setAt (b:=w4.heap.size) (i:=0) (u:=.int .i64 rp) (by omega) (by have:=HBW.o;omega) (hS.less (show n<=n+4 by omega)));have HR:=hd (HR7.o.far (p:=⟨w4.heap.size,0,none⟩) (by simp;omega) (.int .i64 rp));clear hE hS hEE;have qm:=HM7.o.cell;have qmf:=HM7.o.frozen;have qml:=HM7.o.lt;have qr:=HR7.o.cell;have qrf:=HR7.o.frozen;have qrl:=HR7.o.lt;go_wp2_with fail
   exact bodyPost_ret (results_cell_row rfl _ _ w.heap.size 27 #[rp,r2,(256:Int),r3,r4] (0,0) _ rfl (Blk.all5 HR.o _ _ _ _ _) underlying27 rfl (by kernel_rfl)) rfl ⟨⟨rp,r2,256,r3,r4⟩,rfl,HEE.o.setAt5 (.inr (Nat.le_refl _)) _ _ _ _ _,HSS.o.setAt5 (by have:=HG.o;omega) HBW.o _ _ _ _ _⟩
  ·go_wp2_with fail
   refine(Cn base g (n+4) w6.heap.size 3 3 [1,9,8] _ ((HS6.o.less (by omega)).alloc _) (Blk.new _ _ _) (by have:=HS6.o.lt;omega) (by decide)).mono ?_
   rintro e w7 ⟨rp,rfl,_,hE,hS⟩;have hEE:=((Ext.refl [g] w6).alloc (.cells (Db [1,9,8]) 3)).trans hE;have HM7:=hd (HM6.o.ext hEE (by simp;omega));have HR7:=hd (HR6.o.ext hEE (by have:=HG.o;simp;omega));have HEE:=hd (Ext.setAt (b:=w4.heap.size) (i:=1) (u:=.int .i64 rp) (.inr (by omega)) (HE6.o.trans hEE));have HSS:=hd (Stm.setAt (b:=w4.heap.size) (i:=1) (u:=.int .i64 rp) (by omega) (by have:=HBW.o;omega) (hS.less (show n<=n+4 by omega)));have HR:=hd (HR7.o.far (p:=⟨w4.heap.size,1,none⟩) (by simp;omega) (.int .i64 rp));clear hE hS hEE;have qm:=HM7.o.cell;have qmf:=HM7.o.frozen;have qml:=HM7.o.lt;have qr:=HR7.o.cell;have qrf:=HR7.o.frozen;have qrl:=HR7.o.lt;go_wp2_with fail
   exact bodyPost_ret (results_cell_row rfl _ _ w.heap.size 27 #[r1,rp,(256:Int),r3,r4] (0,0) _ rfl (Blk.all5 HR.o _ _ _ _ _) underlying27 rfl (by kernel_rfl)) rfl ⟨⟨r1,rp,256,r3,r4⟩,rfl,HEE.o.setAt5 (.inr (Nat.le_refl _)) _ _ _ _ _,HSS.o.setAt5 (by have:=HG.o;omega) HBW.o _ _ _ _ _⟩
  ·go_wp2_with fail
   refine(Cn base g (n+4) w6.heap.size 3 3 [255,4097,4096] _ ((HS6.o.less (by omega)).alloc _) (Blk.new _ _ _) (by have:=HS6.o.lt;omega) (by decide)).mono ?_
   rintro e w7 ⟨rp,rfl,_,hE,hS⟩;have hEE:=((Ext.refl [g] w6).alloc (.cells (Db [255,4097,4096]) 3)).trans hE;have HM7:=hd (HM6.o.ext hEE (by simp;omega));have HR7:=hd (HR6.o.ext hEE (by have:=HG.o;simp;omega));have HEE:=hd (Ext.setAt (b:=w4.heap.size) (i:=2) (u:=.int .i64 rp) (.inr (by omega)) (HE6.o.trans hEE));have HSS:=hd (Stm.setAt (b:=w4.heap.size) (i:=2) (u:=.int .i64 rp) (by omega) (by have:=HBW.o;omega) (hS.less (show n<=n+4 by omega)));have HR:=hd (HR7.o.far (p:=⟨w4.heap.size,2,none⟩) (by simp;omega) (.int .i64 rp));clear hE hS hEE;have qm:=HM7.o.cell;have qmf:=HM7.o.frozen;have qml:=HM7.o.lt;have qr:=HR7.o.cell;have qrf:=HR7.o.frozen;have qrl:=HR7.o.lt;go_wp2_with fail
   exact bodyPost_ret (results_cell_row rfl _ _ w.heap.size 27 #[r1,r2,rp,r3,r4] (0,0) _ rfl (Blk.all5 HR.o _ _ _ _ _) underlying27 rfl (by kernel_rfl)) rfl ⟨⟨r1,r2,rp,r3,r4⟩,rfl,HEE.o.setAt5 (.inr (Nat.le_refl _)) _ _ _ _ _,HSS.o.setAt5 (by have:=HG.o;omega) HBW.o _ _ _ _ _⟩
  ·go_wp2_with fail
   refine(Cn base g (n+4) w6.heap.size 3 3 [1,9,8] _ ((HS6.o.less (by omega)).alloc _) (Blk.new _ _ _) (by have:=HS6.o.lt;omega) (by decide)).mono ?_
   rintro e w7 ⟨rp,rfl,_,hE,hS⟩;have hEE:=((Ext.refl [g] w6).alloc (.cells (Db [1,9,8]) 3)).trans hE;have HM7:=hd (HM6.o.ext hEE (by simp;omega));have HR7:=hd (HR6.o.ext hEE (by have:=HG.o;simp;omega));have HEE:=hd (Ext.setAt (b:=w4.heap.size) (i:=3) (u:=.int .i64 rp) (.inr (by omega)) (HE6.o.trans hEE));have HSS:=hd (Stm.setAt (b:=w4.heap.size) (i:=3) (u:=.int .i64 rp) (by omega) (by have:=HBW.o;omega) (hS.less (show n<=n+4 by omega)));have HR:=hd (HR7.o.far (p:=⟨w4.heap.size,3,none⟩) (by simp;omega) (.int .i64 rp));clear hE hS hEE;have qm:=HM7.o.cell;have qmf:=HM7.o.frozen;have qml:=HM7.o.lt;have qr:=HR7.o.cell;have qrf:=HR7.o.frozen;have qrl:=HR7.o.lt;go_wp2_with fail
   exact bodyPost_ret (results_cell_row rfl _ _ w.heap.size 27 #[r1,r2,(256:Int),rp,r4] (0,0) _ rfl (Blk.all5 HR.o _ _ _ _ _) underlying27 rfl (by kernel_rfl)) rfl ⟨⟨r1,r2,256,rp,r4⟩,rfl,HEE.o.setAt5 (.inr (Nat.le_refl _)) _ _ _ _ _,HSS.o.setAt5 (by have:=HG.o;omega) HBW.o _ _ _ _ _⟩
  ·go_wp2_with fail
   refine(Cn base g (n+4) w6.heap.size 3 3 [0,5,4] _ ((HS6.o.less (by omega)).alloc _) (Blk.new _ _ _) (by have:=HS6.o.lt;omega) (by decide)).mono ?_
   rintro e w7 ⟨rp,rfl,_,hE,hS⟩;have hEE:=((Ext.refl [g] w6).alloc (.cells (Db [0,5,4]) 3)).trans hE;have HM7:=hd (HM6.o.ext hEE (by simp;omega));have HR7:=hd (HR6.o.ext hEE (by have:=HG.o;simp;omega));have HEE:=hd (Ext.setAt (b:=w4.heap.size) (i:=4) (u:=.int .i64 rp) (.inr (by omega)) (HE6.o.trans hEE));have HSS:=hd (Stm.setAt (b:=w4.heap.size) (i:=4) (u:=.int .i64 rp) (by omega) (by have:=HBW.o;omega) (hS.less (show n<=n+4 by omega)));have HR:=hd (HR7.o.far (p:=⟨w4.heap.size,4,none⟩) (by simp;omega) (.int .i64 rp));clear hE hS hEE;have qm:=HM7.o.cell;have qmf:=HM7.o.frozen;have qml:=HM7.o.lt;have qr:=HR7.o.cell;have qrf:=HR7.o.frozen;have qrl:=HR7.o.lt;go_wp2_with fail
   exact bodyPost_ret (results_cell_row rfl _ _ w.heap.size 27 #[r1,r2,(256:Int),r3,rp] (0,0) _ rfl (Blk.all5 HR.o _ _ _ _ _) underlying27 rfl (by kernel_rfl)) rfl ⟨⟨r1,r2,256,r3,rp⟩,rfl,HEE.o.setAt5 (.inr (Nat.le_refl _)) _ _ _ _ _,HSS.o.setAt5 (by have:=HG.o;omega) HBW.o _ _ _ _ _⟩
end
end Go.Proofs.YtkgmhggliifkjaaGreat
