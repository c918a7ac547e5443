import Derived.MapKept
import Derived.Test.YtkgmhggliifkjaaGreatP05
import Derived.Test.YtkgmhggliifkjaaGreatP06
namespace Go.Proofs.YtkgmhggliifkjaaGreat
open Go.RowKit Go.Proofs.Tryz
set_option linter.all false
set_option maxHeartbeats 8000000
set_option maxRecDepth 100000
section
open Go.RowKit Go.MapKept
def Uu (pf:Int->Value)(es:Array MapEntry):Prop:=∀x∈es.toList,∃c,x.key=.int .u8 c/\x.val=pf c
def Kc (pf:Int->Value)(B:Nat)(w:World):Prop:=∃es cl,w.heap[B]? = some (.map es cl)/\Uu pf es
def Hh (pf:Int->Value)(B:Nat)(c:Int)(w:World):Prop:=∃es cl,w.heap[B]? = some (.map es cl)/\Uu pf es/\∃x∈es.toList,x.key=.int .u8 c
theorem Nx (c:Int):IsKey (.int .u8) (.int .u8 c):=by simp[IsKey]
theorem Kc.new (pf:Int->Value)(w:World):Kc pf w.heap.size (w.alloc (.map #[] 0)):=⟨#[],0,by show(w.heap.push _)[w.heap.size]? = _;simp,fun x hx=>by simp at hx⟩
theorem Kc.alloc {pf:Int->Value}{B:Nat}{w:World}(h:Kc pf B w)(o:Obj):Kc pf B (w.alloc o):=by
 obtain⟨es,cl,h1,h2⟩:=h;exact⟨es,cl,(Below.heap_alloc w o B (Array.getElem?_eq_some_iff.1 h1).1).trans h1,h2⟩
theorem Hh.alloc {pf:Int->Value}{B:Nat}{c:Int}{w:World}(h:Hh pf B c w)(o:Obj):Hh pf B c (w.alloc o):=by
 obtain⟨es,cl,h1,h2⟩:=h;exact⟨es,cl,(Below.heap_alloc w o B (Array.getElem?_eq_some_iff.1 h1).1).trans h1,h2⟩
section
variable {P:Program} {mty kt et:TypeId} {pf:Int->Value} {B:Nat} {w:World}
theorem Agg (hm:P.underlying mty=some (.map kt et))(hd:P.underlying kt=some (.int .u8))(h:Kc pf B w)(c:Int) :
  ∃w',(Instr.mapUpdate mty (.map (some B)) (.int .u8 c) (pf c)).run P w=.ok () w'/\Hh pf B c w'/\(∀c',Hh pf B c' w->Hh pf B c' w')/\Ext [B] w w'/\w'.heap.size=w.heap.size:=by
 obtain⟨es,cl,hb,hg⟩:=h;have hks:∀x∈es.toList,IsKey (.int .u8) x.key:=fun x hx=>by obtain⟨c,h,_⟩:=hg x hx;rw[h];exact Nx c
 have hk:=Nx c
 have key:∀(es':Array MapEntry) (cl':Nat),Uu pf es'->(∃x∈es'.toList,x.key=.int .u8 c)->(∀c',(∃x∈es.toList,x.key=.int .u8 c')->∃x∈es'.toList,x.key=.int .u8 c')->
   (Instr.mapUpdate mty (.map (some B)) (.int .u8 c) (pf c)).run P w=.ok () {w with heap:=w.heap.setIfInBounds B (.map es' cl') }->
   ∃w',(Instr.mapUpdate mty (.map (some B)) (.int .u8 c) (pf c)).run P w=.ok () w'/\Hh pf B c w'/\(∀c',Hh pf B c' w->Hh pf B c' w')/\Ext [B] w w'/\w'.heap.size=w.heap.size:=by
  intro es' cl' hg' hc hcs hr;have hs:=Go.MapKept.heap_set (o':=.map es' cl') hb;refine⟨_,hr,⟨es',cl',hs.1,hg',hc⟩,?_,⟨rfl,rfl,rfl,by simp,fun k hk hn=>hs.2 k (by simpa using hn)⟩,by simp⟩
  rintro c' ⟨es2,cl2,hb2,_,hin⟩;rw[hb] at hb2;cases hb2
  exact⟨es',cl',hs.1,hg',hcs c' hin⟩
 rcases findNow_spec hk es.toList 0 hks with⟨h1,_⟩|⟨j,e,h1,h2,h3⟩
 ·refine key (es.push ⟨.int .u8 c,pf c,cl⟩) (cl+1) ?_ ⟨⟨.int .u8 c,pf c,cl⟩,by simp,rfl⟩ ?_ ?_
  ·intro x hx;rw[Array.toList_push] at hx;rcases List.mem_append.1 hx with hx|hx
   ·exact hg x hx
   ·rw[ms hx];exact⟨c,rfl,rfl⟩
  ·rintro c' ⟨x,hx,hc⟩;exact⟨x,by rw[Array.toList_push];exact List.mem_append_left _ hx,hc⟩
  ·simp[Instr.mapUpdate,run_underlying hm,Go.MapKept.run_getObj_map hb,Go.MapKept.run_checkKey hd hk,Go.MapKept.run_findKey hd h1,Go.MapKept.run_setObj_map _ hb,Result.andThen]
 ·have hj:es[j]? = some e:=by simpa using h2
  obtain⟨hjl,hje⟩:=Array.getElem?_eq_some_iff.1 hj;refine key (es.modify j fun e=>{e with key:=.int .u8 c,val:=pf c }) cl ?_ ?_ ?_ ?_
  ·intro x hx;rw[Array.mem_toList_iff,Array.mem_iff_getElem?] at hx;obtain⟨i,hi⟩:=hx;rw[Array.getElem?_modify] at hi;split at hi
   ·obtain⟨y,_,rfl⟩:=Option.map_eq_some_iff.1 hi;exact⟨c,rfl,rfl⟩
   ·exact hg x (by rw[Array.mem_toList_iff,Array.mem_iff_getElem?];exact⟨i,hi⟩)
  ·refine⟨{e with key:=.int .u8 c,val:=pf c },?_,rfl⟩
   rw[Array.mem_toList_iff,Array.mem_iff_getElem?];exact⟨j,by simp[Array.getElem?_modify,hj]⟩
  ·rintro c' ⟨x,hx,hc⟩;rw[Array.mem_toList_iff,Array.mem_iff_getElem?] at hx;obtain⟨i,hi⟩:=hx;by_cases hij:j=i
   ·subst hij;rw[hj] at hi;cases hi
    refine⟨{e with key:=.int .u8 c,val:=pf c },?_,by rw[<-hc,h3]⟩
    rw[Array.mem_toList_iff,Array.mem_iff_getElem?];exact⟨j,by simp[Array.getElem?_modify,hj]⟩
   ·refine⟨x,?_,hc⟩
    rw[Array.mem_toList_iff,Array.mem_iff_getElem?];exact⟨i,by simp[Array.getElem?_modify,hij,hi]⟩
  ·simp[Instr.mapUpdate,run_underlying hm,Go.MapKept.run_getObj_map hb,Go.MapKept.run_checkKey hd hk,Go.MapKept.run_findKey hd h1,hj,h3,Go.MapKept.run_keyThatStays hk,Go.MapKept.run_setObj_map _ hb,Result.andThen]
theorem Agh (hm:P.underlying mty=some (.map kt et))(hd:P.underlying kt=some (.int .u8)){c:Int}(h:Hh pf B c w) :
  (Instr.lookup mty (.map (some B)) (.int .u8 c) false).run P w=.ok (pf c) w:=by
 obtain⟨es,cl,hb,hg,x,hx,hxc⟩:=h;have hks:∀x∈es.toList,IsKey (.int .u8) x.key:=fun x hx=>by obtain⟨c,h,_⟩:=hg x hx;rw[h];exact Nx c
 have hk:=Nx c;rcases findNow_spec hk es.toList 0 hks with⟨_,h1⟩|⟨j,e,h1,h2,h3⟩
 ·exact absurd hxc (h1 x hx)
 ·obtain⟨c',hc',hv⟩:=hg e (ilm h2);rw[h3] at hc';cases hc'
  simp[Instr.lookup,run_underlying hm,Go.MapKept.run_getObj_map hb,Go.MapKept.run_checkKey hd hk,Go.MapKept.run_findKey hd h1,Result.andThen,hv]
end
def JG (w0:World)(k:Nat)(w:World):Prop:=k<2000/\Ext [] w0 w/\(1000<=k->w.heap.size=w0.heap.size)
def RG (pf:Int->Value)(B:Nat)(w w':World):Prop:=(Kc pf B w->Kc pf B w')/\∀c,Hh pf B c w->Hh pf B c w'
def WG (i:Nat):Nat:=if i=0 then 1000 else 1
theorem JG.less {w0:World}(i k:Nat)(w:World)(h:JG w0 (k+WG i) w):JG w0 k w:=by
 have h1:1<=WG i:=by unfold WG;split<;>omega
 exact⟨by have:=h.1;omega,h.2.1,fun hk=>h.2.2 (by omega)⟩
def Zk (pf:Int->Value)(B:Nat):Bo:=⟨Unit,(),fun _=>.map (some B),fun _ w=>Kc pf B w⟩
def Py (pf:Int->Value)(B:Nat)(c:Int):Bo:=⟨Unit,(),fun _=>undef,fun _ w=>Hh pf B c w⟩
theorem Zk.stays {pf:Int->Value}{B:Nat}:∀y w w',RG pf B w w'->(Zk pf B).V y w->(Zk pf B).V y w':=fun _ _ _ hR h=>hR.1 h
theorem Py.stays {pf:Int->Value}{B:Nat}{c:Int}:∀y w w',RG pf B w w'->(Py pf B c).V y w->(Py pf B c).V y w':=fun _ _ _ hR h=>hR.2 c h
section
variable {P:Program} {ops:Array Oper} {S:Nat->Option Bo} {w0:World} {pf:Int->Value} {k:Nat} {o:Oper} {rest:List Oper} {a:Act} {F:Nat->World->Prop} {Q:Act->World->Prop}
theorem Agi (hS:S 0=some (Zk pf w0.heap.size))(hw:Region.wanted o (yielded ops a.tmps)=true)
  (hr:∀w,(execOp a.eval o).run P w=.ok (.value (.map (some w.heap.size))) (w.alloc (.map #[] 0)))
  (h:Dw P ops WG (JG w0) (RG pf w0.heap.size) S Q 1 rest (a.put o.dst (.map (some w0.heap.size))) (upd F 0 (fun w=>Kc pf w0.heap.size w))) :
  Dw P ops WG (JG w0) (RG pf w0.heap.size) S Q 0 (o :: rest) a F:=by
 refine Il (Zk pf w0.heap.size) hS hw (fun w n hJ _=>?_) (fun _=>h)
 have hJ':JG w0 (n+1000) w:=hJ;have hs:=hJ'.2.2 (by omega);refine⟨(),_,by rw[hr,hs];rfl,?_,⟨by have:=hJ'.1;omega,hJ'.2.1.alloc _,fun hk=>by have:=hJ'.1;omega⟩,⟨fun h=>h.alloc _,fun c h=>h.alloc _⟩⟩
 show Kc pf w0.heap.size _
 rw[<-hs];exact Kc.new pf w
theorem Mi {mty kt et:TypeId}(c:Int)(hk0:k≠0)(hS:S k=some (Py pf w0.heap.size c))(hw:Region.wanted o (yielded ops a.tmps)=true)(hj:o.after.any (fun e=>Region.binds .any e&&e.on==0)=true)
  (hF:F 0=fun w=>Kc pf w0.heap.size w) (hm:P.underlying mty=some (.map kt et)) (hd:P.underlying kt=some (.int .u8))
  (hr:∀w w',(Instr.mapUpdate mty (.map (some w0.heap.size)) (.int .u8 c) (pf c)).run P w=.ok () w'->(execOp a.eval o).run P w=.ok .skip w')
  (h:Dw P ops WG (JG w0) (RG pf w0.heap.size) S Q (k+1) rest (a.put o.dst undef) (upd F k (fun w=>Hh pf w0.heap.size c w))) :
  Dw P ops WG (JG w0) (RG pf w0.heap.size) S Q k (o :: rest) a F:=by
 refine Yv (Py pf w0.heap.size c) hS hw (fun _=>rfl) (fun w n hJ hFF=>?_) (fun _=>h)
 obtain⟨e,he,hb⟩:=Array.any_eq_true'.1 hj;simp only[Bool.and_eq_true,beq_iff_eq] at hb;have hok:=hFF e he hb.1;rw[hb.2,hF] at hok;obtain⟨w',hrun,h1,h2,h3,h4⟩:=Agg hm hd hok c;have hJ':=JG.less _ _ _ hJ;refine⟨(),w',hr w w' hrun,h1,⟨hJ'.1,hJ'.2.1.step h3 (fun x hx=>.inr (by rw[ms hx];exact Nat.le_refl _)),fun hk=>by rw[h4];exact hJ'.2.2 hk⟩,⟨fun _=>?_,h2⟩⟩
 obtain⟨es,cl,h5,h6,_⟩:=h1;exact⟨es,cl,h5,h6⟩
theorem Kd (c:Int)(j:Nat)(hS:S k=some (⟨Unit,(),fun _=>.map (some w0.heap.size),fun _ w=>Hh pf w0.heap.size c w⟩:Bo))(hw:Region.wanted o (yielded ops a.tmps)=true)(hj:o.after.any (fun e=>Region.binds .any e&&e.on==j)=true)
  (hF:F j=fun w=>Hh pf w0.heap.size c w) (hr:∀w,(execOp a.eval o).run P w=.ok (.value (.map (some w0.heap.size))) w)
  (h:Dw P ops WG (JG w0) (RG pf w0.heap.size) S Q (k+1) rest (a.put o.dst (.map (some w0.heap.size))) (upd F k (fun w=>Hh pf w0.heap.size c w))) :
  Dw P ops WG (JG w0) (RG pf w0.heap.size) S Q k (o :: rest) a F:=by
 refine Il _ hS hw (fun w n hJ hFF=>?_) (fun _=>h)
 obtain⟨e,he,hb⟩:=Array.any_eq_true'.1 hj;simp only[Bool.and_eq_true,beq_iff_eq] at hb;have hok:=hFF e he hb.1;rw[hb.2,hF] at hok;exact⟨(),w,hr w,hok,JG.less _ _ _ hJ,⟨id,fun _=>id⟩⟩
theorem Aes {mty kt et:TypeId}(c:Int)(j:Nat)(hS:S k=some (Bv (pf c)))(hw:Region.wanted o (yielded ops a.tmps)=true)(hj:o.after.any (fun e=>Region.binds .any e&&e.on==j)=true)
  (hF:F j=fun w=>Hh pf w0.heap.size c w) (hm:P.underlying mty=some (.map kt et)) (hd:P.underlying kt=some (.int .u8))
  (hr:∀w,(Instr.lookup mty (.map (some w0.heap.size)) (.int .u8 c) false).run P w=.ok (pf c) w->(execOp a.eval o).run P w=.ok (.value (pf c)) w)
  (h:Dw P ops WG (JG w0) (RG pf w0.heap.size) S Q (k+1) rest (a.put o.dst (pf c)) (upd F k (fun _=>True))) :
  Dw P ops WG (JG w0) (RG pf w0.heap.size) S Q k (o :: rest) a F:=by
 refine Il (Bv (pf c)) hS hw (fun w n hJ hFF=>?_) (fun _=>h)
 obtain⟨e,he,hb⟩:=Array.any_eq_true'.1 hj;simp only[Bool.and_eq_true,beq_iff_eq] at hb;have hok:=hFF e he hb.1;rw[hb.2,hF] at hok;exact⟨(),w,hr w (Agh hm hd hok),trivial,JG.less _ _ _ hJ,⟨id,fun _=>id⟩⟩
end
def Mj (c:Int):Nat:=if c=68 then 2 else if c=65 then 3 else if c=66 then 4 else if c=67 then 5 else if c=78 then 7 else 8
def Hi (b:Nat)(c:Int):Value:=.pointer (some ⟨b,Mj c,none⟩)
theorem Agj (b:Nat)(c:Int)(w:World)(hc:c=68\/c=65\/c=66\/c=67\/c=78\/c=77) :
  Calls prog 106 #[.pointer (some b),.int .u8 c] w fun e w'=>e=.returned (Hi b c)/\Ext [] w w':=by
 have HC:=hd hc;clear hc;go_enter func106,ntmps106
 go_wp2_with fail
 refine Lo 28 WG (JG w) (RG (Hi b) w.heap.size) (Bw [(0,Zk (Hi b) w.heap.size),(4,Py (Hi b) w.heap.size 68),(8,Py (Hi b) w.heap.size 65),(12,Py (Hi b) w.heap.size 66),(16,Py (Hi b) w.heap.size 67),(20,Py (Hi b) w.heap.size 78),(24,Py (Hi b) w.heap.size 77),(25,⟨Unit,(),fun _=>.map (some w.heap.size),fun _ w'=>Hh (Hi b) w.heap.size c w'⟩),(27,Bv (Hi b c))]) (by kernel_rfl) (by kernel_rfl) JG.less ?_ 1027 (by kernel_rfl) ⟨by omega,er.drew,fun _=>rfl⟩ ?_
 ·repeat(first|exact Ah.nil|refine Ah.cons Zk.stays ?_|refine Ah.cons Py.stays ?_|refine Ah.cons Bv.stays ?_|refine Ah.cons (fun _ _ _ hR h=>hR.2 _ h) ?_)
 simp only[TK];refine Agi rfl rfl (fun wr=>?_) ?_
 ·go_simp;rfl
 simp only[PT]
 repeat(refine dEW (fun wr nr hJ=>by clear hJ;exact CL) ?_;simp only[PT])
 refine Mi (mty:=185) (kt:=5) (et:=158) 68 (by decide) rfl rfl (by kernel_rfl) rfl (by kernel_rfl) (by kernel_rfl) (fun wr wr' hr=>?_) ?_
 ·have hr2:(Instr.mapUpdate 185 (.map (some w.heap.size)) (.int .u8 68) (.pointer (some ⟨b,2,none⟩))).run prog wr=.ok () wr':=hr;clear hr;unfold execOp;go_simp
 simp only[PT]
 repeat(refine dEW (fun wr nr hJ=>by clear hJ;exact CL) ?_;simp only[PT])
 refine Mi (mty:=185) (kt:=5) (et:=158) 65 (by decide) rfl rfl (by kernel_rfl) rfl (by kernel_rfl) (by kernel_rfl) (fun wr wr' hr=>?_) ?_
 ·have hr2:(Instr.mapUpdate 185 (.map (some w.heap.size)) (.int .u8 65) (.pointer (some ⟨b,3,none⟩))).run prog wr=.ok () wr':=hr;clear hr;unfold execOp;go_simp
 simp only[PT]
 repeat(refine dEW (fun wr nr hJ=>by clear hJ;exact CL) ?_;simp only[PT])
 refine Mi (mty:=185) (kt:=5) (et:=158) 66 (by decide) rfl rfl (by kernel_rfl) rfl (by kernel_rfl) (by kernel_rfl) (fun wr wr' hr=>?_) ?_
 ·have hr2:(Instr.mapUpdate 185 (.map (some w.heap.size)) (.int .u8 66) (.pointer (some ⟨b,4,none⟩))).run prog wr=.ok () wr':=hr;clear hr;unfold execOp;go_simp
 simp only[PT]
 repeat(refine dEW (fun wr nr hJ=>by clear hJ;exact CL) ?_;simp only[PT])
 refine Mi (mty:=185) (kt:=5) (et:=158) 67 (by decide) rfl rfl (by kernel_rfl) rfl (by kernel_rfl) (by kernel_rfl) (fun wr wr' hr=>?_) ?_
 ·have hr2:(Instr.mapUpdate 185 (.map (some w.heap.size)) (.int .u8 67) (.pointer (some ⟨b,5,none⟩))).run prog wr=.ok () wr':=hr;clear hr;unfold execOp;go_simp
 simp only[PT]
 repeat(refine dEW (fun wr nr hJ=>by clear hJ;exact CL) ?_;simp only[PT])
 refine Mi (mty:=185) (kt:=5) (et:=158) 78 (by decide) rfl rfl (by kernel_rfl) rfl (by kernel_rfl) (by kernel_rfl) (fun wr wr' hr=>?_) ?_
 ·have hr2:(Instr.mapUpdate 185 (.map (some w.heap.size)) (.int .u8 78) (.pointer (some ⟨b,7,none⟩))).run prog wr=.ok () wr':=hr;clear hr;unfold execOp;go_simp
 simp only[PT]
 repeat(refine dEW (fun wr nr hJ=>by clear hJ;exact CL) ?_;simp only[PT])
 refine Mi (mty:=185) (kt:=5) (et:=158) 77 (by decide) rfl rfl (by kernel_rfl) rfl (by kernel_rfl) (by kernel_rfl) (fun wr wr' hr=>?_) ?_
 ·have hr2:(Instr.mapUpdate 185 (.map (some w.heap.size)) (.int .u8 77) (.pointer (some ⟨b,8,none⟩))).run prog wr=.ok () wr':=hr;clear hr;unfold execOp;go_simp
 simp only[PT]
 repeat(refine dEW (fun wr nr hJ=>by clear hJ;exact CL) ?_;simp only[PT])
 have hc:=HC.o;rcases hc with rfl|rfl|rfl|rfl|rfl|rfl
 all_goals (
  (first|refine Kd 68 4 rfl rfl (by kernel_rfl) rfl (fun wr=>?_) ?_|refine Kd 65 8 rfl rfl (by kernel_rfl) rfl (fun wr=>?_) ?_|refine Kd 66 12 rfl rfl (by kernel_rfl) rfl (fun wr=>?_) ?_|refine Kd 67 16 rfl rfl (by kernel_rfl) rfl (fun wr=>?_) ?_|refine Kd 78 20 rfl rfl (by kernel_rfl) rfl (fun wr=>?_) ?_|refine Kd 77 24 rfl rfl (by kernel_rfl) rfl (fun wr=>?_) ?_)
  ·go_simp
  simp only[PT]
  repeat(refine dEW (fun wr nr hJ=>by clear hJ;exact CL) ?_;simp only[PT])
  refine Aes (mty:=185) (kt:=5) (et:=158) _ 25 rfl rfl (by kernel_rfl) rfl (by kernel_rfl) (by kernel_rfl) (fun wr hr=>?_) ?_
  ·unfold execOp;go_simp
  simp only[PT];refine Qo (fun w1 hJ hF=>?_)
  clear hF;have hE:=hJ.2.1;clear hJ;go_wp2_with fail
  go_ret
  exact⟨rfl,hE⟩)
end
def Mv (o:Int):Bool:=decide (o∈([1,2,5,6,7,8]:List Int))
set_option maxRecDepth 4000
theorem Pz (o:Int)(w:World):Calls prog 107 #[o] w fun e w'=>e=.returned (.bool (Mv o))/\Ext [] w w':=by
 go_enter func107,ntmps107
 go_wp2_with fail
 refine(Ny _ 6 [1,2,5,6,7,8] o _ (RdI.new w 3 [1,2,5,6,7,8]) (by decide)).mono ?_
 rintro e w' ⟨he,rfl⟩;have he2:e=.returned (.bool (Mv o)):=he;clear he;subst he2;go_wp2_with fail
 go_ret
 exact⟨rfl,er.alloc _⟩
theorem Zl (k:Int)(w:World):Calls prog 125 #[k,.func (.func 123) #[] #[]] w (Bb (Cc k Ao) w):=by
 by_cases h15:k=15
 ·subst h15;exact Sh w
 by_cases hb:inR k 4 10=true
 ·rw[show Cc k Ao=[Ao 68,Ao 65,Ao 66] by simp[Cc,h15,hb]];exact Qu k hb w
 by_cases h12:k=12
 ·subst h12;exact Sj w
 by_cases h13:k=13
 ·subst h13;exact Sk w
 by_cases h14:k=14
 ·subst h14;exact Sl w
 rw[show Cc k Ao=[Ao 68,Ao 65] by simp[Cc,h15,hb,h12,h13,h14]];by_cases h11:k=11
 ·subst h11;exact Si w
 ·exact Pw k (by
   rw[Bool.eq_false_iff,ne_eq,Bi];rw[Bi] at hb;omega) w
theorem Zm (k:Int)(w:World):Calls prog 125 #[k,.func (.func 124) #[] #[]] w (Bb (Cc k Ba) w):=by
 by_cases h15:k=15
 ·subst h15;exact Sm w
 by_cases hb:inR k 4 10=true
 ·rw[show Cc k Ba=[Ba 68,Ba 65,Ba 66] by simp[Cc,h15,hb]];exact Qv k hb w
 by_cases h12:k=12
 ·subst h12;exact So w
 by_cases h13:k=13
 ·subst h13;exact Sp w
 by_cases h14:k=14
 ·subst h14;exact Sq w
 rw[show Cc k Ba=[Ba 68,Ba 65] by simp[Cc,h15,hb,h12,h13,h14]];by_cases h11:k=11
 ·subst h11;exact Sn w
 ·exact Px k (by
   rw[Bool.eq_false_iff,ne_eq,Bi];rw[Bi] at hb;omega) w
set_option maxRecDepth 100000
theorem Zn (m0 m1 m2 m3 m4 k d a b c p n m:Int)(w:World)(hb:Bq m1)(hq:Bq m4)(_hl:Bq m3) :
  Calls prog 102 #[.agg #[m0,m1,m2,m3,m4],.agg (Ins.cells ⟨2,k,d,a,b,c,p,n,m⟩).toArray] w (Bb (Cc k Ao) w):=by
 obtain⟨hb0,hb1⟩:=hb;obtain⟨hq0,hq1⟩:=hq;simp only[Ins.cells];go_enter func102,ntmps102
 go_wp2_with fail
 refine(Zl k _).mono ?_
 rintro e w1 ⟨A,cap,rfl,hR,hE⟩;have HR:=hd hR;have HE:=hd hE;clear hR hE;go_wp2_with fail
 go_ret
 exact⟨_,_,rfl,HR.o,Dz.trans HE.o⟩
theorem Wx (m0 m1 m2 m3 m4 k d a b c p n m:Int)(w:World)(hb:Bq m1)(hq:Bq m4)(_hl:Bq m3) :
  Calls prog 102 #[.agg #[m0,m1,m2,m3,m4],.agg (Ins.cells ⟨11,k,d,a,b,c,p,n,m⟩).toArray] w (Bb (Cc k Ba) w):=by
 obtain⟨hb0,hb1⟩:=hb;obtain⟨hq0,hq1⟩:=hq;simp only[Ins.cells];go_enter func102,ntmps102
 go_wp2_with fail
 refine(Zm k _).mono ?_
 rintro e w1 ⟨A,cap,rfl,hR,hE⟩;have HR:=hd hR;have HE:=hd hE;clear hR hE;go_wp2_with fail
 go_ret
 exact⟨_,_,rfl,HR.o,Dz.trans HE.o⟩
def Bd (m:Mc)(x:Ins):List Fld:=
 if x.op=1 then [Ao 68,⟨78,⟨#[]⟩,-2147483648,2147483647⟩]
 else if x.op=2 then Cc x.k Ao
 else if x.op=3 then [Ao 68,⟨67,⟨#[]⟩,-1000,1000⟩,⟨78,⟨#[]⟩,-2147483648,2147483647⟩,⟨77,⟨#[]⟩,0,1000000⟩]
 else if x.op=5 then [Ao 68,Ao 65,⟨78,⟨#[]⟩,-2147483648,2147483647⟩]
 else if x.op=6 then [Ao 65,Ao 66,⟨78,⟨#[]⟩,-2147483648,2147483647⟩]
 else if x.op=7 then [Ao 68,Ao 65,⟨67,⟨#[98]⟩,0,m.banks-1⟩,⟨78,⟨#[]⟩,-2147483648,2147483647⟩]
 else if x.op=8 then [Ao 65,Ao 66,⟨67,⟨#[98]⟩,0,m.banks-1⟩,⟨78,⟨#[]⟩,-2147483648,2147483647⟩]
 else if x.op=9 then [Ba 68,Ao 65,⟨67,⟨#[98]⟩,0,m.banks-1⟩,⟨78,⟨#[]⟩,-2147483648,2147483647⟩]
 else if x.op=10 then [Ao 65,Ba 66,⟨67,⟨#[98]⟩,0,m.banks-1⟩,⟨78,⟨#[]⟩,-2147483648,2147483647⟩]
 else if x.op=11 then Cc x.k Ba
 else if x.op=12 then [Ba 68,Ao 65]
 else if x.op=13 then [Ao 68,Ba 65,⟨78,⟨#[]⟩,0,m.lanes-1⟩]
 else if x.op=14 then [Ao 65,⟨67,⟨#[98]⟩,0,m.banks-1⟩,⟨78,⟨#[]⟩,-2147483648,2147483647⟩,⟨77,⟨#[]⟩,0,m.bank⟩]
 else if x.op=15 then [Ba 65]
 else if x.op=17 then [Ba 68]
 else if x.op=18 then [⟨68,⟨#[113]⟩,0,m.queues-1⟩,Ao 65,Ao 66,⟨67,⟨#[98]⟩,0,m.banks-1⟩,⟨78,⟨#[]⟩,-2147483648,2147483647⟩,⟨77,⟨#[]⟩,1,m.bank⟩]
 else if x.op=19 then [⟨68,⟨#[113]⟩,0,m.queues-1⟩]
 else []
theorem Uv (m:Mc)(x:Ins)(w:World)(ho:inR x.op 1 19=true)(hb:Bq m.banks)(hq:Bq m.queues)(hl:Bq m.lanes) :
  Calls prog 102 #[.agg m.cells.toArray,.agg x.cells.toArray] w (Bb (Bd m x) w):=by
 obtain⟨m0,m1,m2,m3,m4⟩:=m;obtain⟨o,k,d,a,b,c,p,n,mm⟩:=x;rw[Bi] at ho;simp only at ho hb hq hl;have hc:o=1\/o=2\/o=3\/o=4\/o=5\/o=6\/o=7\/o=8\/o=9\/o=10\/o=11\/o=12\/o=13\/o=14\/o=15\/o=16\/o=17\/o=18\/o=19:=by omega
 clear ho;rcases hc with rfl|rfl|rfl|rfl|rfl|rfl|rfl|rfl|rfl|rfl|rfl|rfl|rfl|rfl|rfl|rfl|rfl|rfl|rfl
 ·exact Za m0 m1 m2 m3 m4 k d a b c p n mm w hb hq hl
 ·exact Zn m0 m1 m2 m3 m4 k d a b c p n mm w hb hq hl
 ·exact Zb m0 m1 m2 m3 m4 k d a b c p n mm w hb hq hl
 ·exact Zc m0 m1 m2 m3 m4 k d a b c p n mm w hb hq hl
 ·exact Zd m0 m1 m2 m3 m4 k d a b c p n mm w hb hq hl
 ·exact Ze m0 m1 m2 m3 m4 k d a b c p n mm w hb hq hl
 ·exact Zf m0 m1 m2 m3 m4 k d a b c p n mm w hb hq hl
 ·exact Zg m0 m1 m2 m3 m4 k d a b c p n mm w hb hq hl
 ·exact Zh m0 m1 m2 m3 m4 k d a b c p n mm w hb hq hl
 ·exact Wo m0 m1 m2 m3 m4 k d a b c p n mm w hb hq hl
 ·exact Wx m0 m1 m2 m3 m4 k d a b c p n mm w hb hq hl
 ·exact Wp m0 m1 m2 m3 m4 k d a b c p n mm w hb hq hl
 ·exact Wq m0 m1 m2 m3 m4 k d a b c p n mm w hb hq hl
 ·exact Wr m0 m1 m2 m3 m4 k d a b c p n mm w hb hq hl
 ·exact Ws m0 m1 m2 m3 m4 k d a b c p n mm w hb hq hl
 ·exact Wt m0 m1 m2 m3 m4 k d a b c p n mm w hb hq hl
 ·exact Wu m0 m1 m2 m3 m4 k d a b c p n mm w hb hq hl
 ·exact Wv m0 m1 m2 m3 m4 k d a b c p n mm w hb hq hl
 ·exact Ww m0 m1 m2 m3 m4 k d a b c p n mm w hb hq hl
def Dm:List Int:=[68,65,66,67,78,77]
def Ins.get (x:Ins)(c:Int):Int:=if c=68 then x.d else if c=65 then x.a else if c=66 then x.b else if c=67 then x.c else if c=78 then x.n else x.m
theorem Abj (b:Nat)(c:Int)(w:World)(hc:c∈Dm):Calls prog 106 #[.pointer (some b),.int .u8 c] w fun e w'=>e=.returned (.pointer (some ⟨b,Mj c,none⟩))/\Ext [] w w':=by
 exact Agj b c w (by simpa[Dm] using hc)
theorem Wy (x:Ins)(c:Int)(hc:c∈Dm):x.cells.toArray[Mj c]? = some (.int .i64 (x.get c)):=by
 simp only[Dm,List.mem_cons,List.not_mem_nil,or_false] at hc;rcases hc with rfl|rfl|rfl|rfl|rfl|rfl<;>rfl
theorem Ls (k:Int)(g:Int->Fld)(hg:∀c,(g c).name=c):∀f∈Cc k g,f.name∈Dm:=by
 intro f hf;unfold Cc at hf
 repeat' split at hf
 all_goals
  simp only[List.mem_cons,List.not_mem_nil,or_false] at hf;rcases hf with rfl|rfl|rfl|rfl<;>simp[hg,Dm,Sg]
theorem St (m:Mc)(x:Ins):∀f∈Bd m x,f.name∈Dm:=by
 intro f hf;unfold Bd at hf;by_cases h1:x.op=1
 ·rw[ijp h1] at hf;simp only[List.mem_cons,List.not_mem_nil,or_false] at hf;rcases hf with rfl|rfl<;>simp[Dm,Ao,Ba]
 rw[ijn h1] at hf;by_cases h2:x.op=2
 ·rw[ijp h2] at hf;exact Ls _ _ (fun _=>rfl) f hf
 rw[ijn h2] at hf;by_cases h3:x.op=3
 ·rw[ijp h3] at hf;simp only[List.mem_cons,List.not_mem_nil,or_false] at hf;rcases hf with rfl|rfl|rfl|rfl<;>simp[Dm,Ao,Ba]
 rw[ijn h3] at hf;by_cases h5:x.op=5
 ·rw[ijp h5] at hf;simp only[List.mem_cons,List.not_mem_nil,or_false] at hf;rcases hf with rfl|rfl|rfl<;>simp[Dm,Ao,Ba]
 rw[ijn h5] at hf;by_cases h6:x.op=6
 ·rw[ijp h6] at hf;simp only[List.mem_cons,List.not_mem_nil,or_false] at hf;rcases hf with rfl|rfl|rfl<;>simp[Dm,Ao,Ba]
 rw[ijn h6] at hf;by_cases h7:x.op=7
 ·rw[ijp h7] at hf;simp only[List.mem_cons,List.not_mem_nil,or_false] at hf;rcases hf with rfl|rfl|rfl|rfl<;>simp[Dm,Ao,Ba]
 rw[ijn h7] at hf;by_cases h8:x.op=8
 ·rw[ijp h8] at hf;simp only[List.mem_cons,List.not_mem_nil,or_false] at hf;rcases hf with rfl|rfl|rfl|rfl<;>simp[Dm,Ao,Ba]
 rw[ijn h8] at hf;by_cases h9:x.op=9
 ·rw[ijp h9] at hf;simp only[List.mem_cons,List.not_mem_nil,or_false] at hf;rcases hf with rfl|rfl|rfl|rfl<;>simp[Dm,Ao,Ba]
 rw[ijn h9] at hf;by_cases h10:x.op=10
 ·rw[ijp h10] at hf;simp only[List.mem_cons,List.not_mem_nil,or_false] at hf;rcases hf with rfl|rfl|rfl|rfl<;>simp[Dm,Ao,Ba]
 rw[ijn h10] at hf;by_cases h11:x.op=11
 ·rw[ijp h11] at hf;exact Ls _ _ (fun _=>rfl) f hf
 rw[ijn h11] at hf;by_cases h12:x.op=12
 ·rw[ijp h12] at hf;simp only[List.mem_cons,List.not_mem_nil,or_false] at hf;rcases hf with rfl|rfl<;>simp[Dm,Ao,Ba]
 rw[ijn h12] at hf;by_cases h13:x.op=13
 ·rw[ijp h13] at hf;simp only[List.mem_cons,List.not_mem_nil,or_false] at hf;rcases hf with rfl|rfl|rfl<;>simp[Dm,Ao,Ba]
 rw[ijn h13] at hf;by_cases h14:x.op=14
 ·rw[ijp h14] at hf;simp only[List.mem_cons,List.not_mem_nil,or_false] at hf;rcases hf with rfl|rfl|rfl|rfl<;>simp[Dm,Ao,Ba]
 rw[ijn h14] at hf;by_cases h15:x.op=15
 ·rw[ijp h15] at hf;simp only[List.mem_cons,List.not_mem_nil,or_false] at hf;subst hf;simp[Dm,Ao,Ba]
 rw[ijn h15] at hf;by_cases h17:x.op=17
 ·rw[ijp h17] at hf;simp only[List.mem_cons,List.not_mem_nil,or_false] at hf;subst hf;simp[Dm,Ao,Ba]
 rw[ijn h17] at hf;by_cases h18:x.op=18
 ·rw[ijp h18] at hf;simp only[List.mem_cons,List.not_mem_nil,or_false] at hf;rcases hf with rfl|rfl|rfl|rfl|rfl|rfl<;>simp[Dm,Ao,Ba]
 rw[ijn h18] at hf;by_cases h19:x.op=19
 ·rw[ijp h19] at hf;simp only[List.mem_cons,List.not_mem_nil,or_false] at hf;subst hf;simp[Dm,Ao,Ba]
 rw[ijn h19] at hf;cases hf
theorem Lg (k:Int)(g:Int->Fld):(Cc k g).length<=4:=by
 unfold Cc
 repeat' split
 all_goals simp
theorem Qw (m:Mc)(x:Ins):(Bd m x).length<=6:=by
 unfold Bd;by_cases h1:x.op=1
 ·rw[ijp h1];simp
 rw[ijn h1];by_cases h2:x.op=2
 ·rw[ijp h2];exact nt (Lg _ _) (by omega)
 rw[ijn h2];by_cases h3:x.op=3
 ·rw[ijp h3];simp
 rw[ijn h3];by_cases h5:x.op=5
 ·rw[ijp h5];simp
 rw[ijn h5];by_cases h6:x.op=6
 ·rw[ijp h6];simp
 rw[ijn h6];by_cases h7:x.op=7
 ·rw[ijp h7];simp
 rw[ijn h7];by_cases h8:x.op=8
 ·rw[ijp h8];simp
 rw[ijn h8];by_cases h9:x.op=9
 ·rw[ijp h9];simp
 rw[ijn h9];by_cases h10:x.op=10
 ·rw[ijp h10];simp
 rw[ijn h10];by_cases h11:x.op=11
 ·rw[ijp h11];exact nt (Lg _ _) (by omega)
 rw[ijn h11];by_cases h12:x.op=12
 ·rw[ijp h12];simp
 rw[ijn h12];by_cases h13:x.op=13
 ·rw[ijp h13];simp
 rw[ijn h13];by_cases h14:x.op=14
 ·rw[ijp h14];simp
 rw[ijn h14];by_cases h15:x.op=15
 ·rw[ijp h15];simp
 rw[ijn h15];by_cases h17:x.op=17
 ·rw[ijp h17];simp
 rw[ijn h17];by_cases h18:x.op=18
 ·rw[ijp h18];simp
 rw[ijn h18];by_cases h19:x.op=19
 ·rw[ijp h19];simp
 rw[ijn h19];simp
def Ga (fs:List Fld)(x:Ins)(c:Int):Bool:=Sr fs c||x.get c==0
def Cy (o:Int):Bool:=o==2||o==11
def Ji (x:Ins):Bool:=(!Cy x.op&&x.op != 18&&x.k != 0)||(!Mv x.op&&x.p != 0)
def Gf (x:Ins):Bool:=(Cy x.op&&(!inR x.k 4 15||(x.k==12&&decide (x.m<x.n))))||(x.op==18 && !inR x.k 1 2) || !inR x.p 0 16
def Gb (m:Mc)(x:Ins):Int:=
 if inR x.op 1 19=false then 4
 else if Dm.all (Ga (Bd m x) x)=false then 3
 else if Ji x then 3
 else if(Bd m x).all (fun f=>inR (x.get f.name) f.low f.high)=false then 9
 else if Gf x then 9
 else 0
theorem Nz {x:Ins}{f:Frm}(h:Dl x=some f):inR x.op 1 19=true:=by
 rw[Bi];by_cases hc:1<=x.op/\x.op<=19
 ·exact hc
 ·have h2:Dl x=none:=by
   unfold Dl;iterate 19 rw[ijn (by omega)]
  rw[h2] at h;cases h
theorem Zo {x:Ins}(h:Dl x=none):inR x.op 1 19=false:=by
 rw[<-Bool.not_eq_true,Bi];intro hc;unfold Dl at h;have h1:x.op=1\/x.op=2\/x.op=3\/x.op=4\/x.op=5\/x.op=6\/x.op=7\/x.op=8\/x.op=9\/x.op=10\/x.op=11\/x.op=12\/x.op=13\/x.op=14\/x.op=15\/x.op=16\/x.op=17\/x.op=18\/x.op=19:=by omega
 rcases h1 with h1|h1|h1|h1|h1|h1|h1|h1|h1|h1|h1|h1|h1|h1|h1|h1|h1|h1|h1<;>simp[h1] at h
theorem Uw (k:Int):k=15\/k=12\/k=13\/k=14\/k=11\/(inR k 4 10=true/\k≠15/\k≠12/\k≠13/\k≠14/\k≠11/\inR k 4 15=true/\Dr k=2)\/
  (inR k 4 10=false/\k≠15/\k≠12/\k≠13/\k≠14/\k≠11/\inR k 4 15=false/\Dr k=0):=by
 by_cases h15:k=15
 ·exact .inl h15
 by_cases h12:k=12
 ·exact .inr (.inl h12)
 by_cases h13:k=13
 ·exact .inr (.inr (.inl h13))
 by_cases h14:k=14
 ·exact .inr (.inr (.inr (.inl h14)))
 by_cases h11:k=11
 ·exact .inr (.inr (.inr (.inr (.inl h11))))
 refine .inr (.inr (.inr (.inr (.inr ?_))))
 cases h:inR k 4 10
 ·refine .inr ⟨rfl,h15,h12,h13,h14,h11,?_,?_⟩
  ·rw[<-Bool.not_eq_true,Bi] at h⊢;omega
  ·unfold Dr;rw[ijn h15,ijn (by rw[h];decide),if_neg];rw[<-Bool.not_eq_true,Bi] at h;rw[Bi];omega
 ·refine .inl ⟨rfl,h15,h12,h13,h14,h11,?_,?_⟩
  ·rw[Bi] at h⊢;omega
  ·unfold Dr;rw[ijn h15,ijp h]
theorem Aci (m:Mc)(x:Ins)(f:Frm)(h:Dl x=some f):Dy f x=(!(Dm.all (Ga (Bd m x) x))||Ji x):=by
 have ho:=Nz h;obtain⟨o,k,d,a,b,c,p,n,mm⟩:=x;rw[Bi] at ho;simp only at ho;have h1:o=1\/o=3\/o=4\/o=5\/o=6\/o=7\/o=8\/o=9\/o=10\/o=12\/o=13\/o=14\/o=15\/o=16\/o=17\/o=18\/o=19\/o=2\/o=11:=by omega
 rcases h1 with rfl|rfl|rfl|rfl|rfl|rfl|rfl|rfl|rfl|rfl|rfl|rfl|rfl|rfl|rfl|rfl|rfl|h1
 iterate 17
  ·simp[Dl] at h;subst h;rw[Bool.eq_iff_iff];simp[Dy,Eo,Frm.fs,Ins.xs,Dm,Ga,Sr,Bd,Ji,Mv,Cy,Ins.get,Ao,Ba];try omega
 ·rcases Uw k with rfl|rfl|rfl|rfl|rfl|⟨h2,h3,h4,h5,h6,h7,h8,h9⟩|⟨h2,h3,h4,h5,h6,h7,h8,h9⟩
  iterate 5
   ·rcases h1 with rfl|rfl
    ·simp[Dl,Cl,Dr,inR,nz] at h;subst h;rw[Bool.eq_iff_iff];simp[Dy,Eo,Frm.fs,Ins.xs,Dm,Ga,Sr,Bd,Cc,inR,Ji,Mv,Cy,Ins.get,Ao,Ba,Sg];try omega
    ·simp[Dl,Cl,Dr,inR,nz] at h;subst h;rw[Bool.eq_iff_iff];simp[Dy,Eo,Frm.fs,Ins.xs,Dm,Ga,Sr,Bd,Cc,inR,Ji,Mv,Cy,Ins.get,Ao,Ba,Sg];try omega
  iterate 2
   ·have b3:(k==12)=false:=by simpa using h4
    have b4:(k==13)=false:=by simpa using h5
    have b5:(k==14)=false:=by simpa using h6
    rcases h1 with rfl|rfl
    ·simp[Dl,Cl,h9,b3,b4,b5,nz] at h;subst h;rw[Bool.eq_iff_iff];simp[Dy,Eo,Frm.fs,Ins.xs,Dm,Ga,Sr,Bd,Cc,h2,h3,h4,h5,h6,Ji,Mv,Cy,Ins.get,Ao,Ba,Sg];try omega
    ·simp[Dl,Cl,h9,b3,b4,b5,nz] at h;subst h;rw[Bool.eq_iff_iff];simp[Dy,Eo,Frm.fs,Ins.xs,Dm,Ga,Sr,Bd,Cc,h2,h3,h4,h5,h6,Ji,Mv,Cy,Ins.get,Ao,Ba,Sg];try omega
theorem Acj (m:Mc)(x:Ins)(f:Frm)(hm:m.okB=true)(h:Dl x=some f) :
  Dd m f x=((Bd m x).all (fun g=>inR (x.get g.name) g.low g.high) && !Gf x):=by
 have ho:=Nz h
 have hbk:256<=m.bank/\m.bank<=4096/\2<=m.lanes/\m.lanes<=8:=by
  unfold Mc.okB at hm;simp only[Bool.and_eq_true,Bi] at hm;omega
 obtain⟨m0,m1,m2,m3,m4⟩:=m;obtain⟨o,k,d,a,b,c,p,n,mm⟩:=x;rw[Bi] at ho;simp only at ho hbk;clear hm;have h1:o=1\/o=3\/o=4\/o=5\/o=6\/o=7\/o=8\/o=9\/o=10\/o=12\/o=13\/o=14\/o=15\/o=16\/o=17\/o=18\/o=19\/o=2\/o=11:=by omega
 rcases h1 with rfl|rfl|rfl|rfl|rfl|rfl|rfl|rfl|rfl|rfl|rfl|rfl|rfl|rfl|rfl|rfl|rfl|h1
 iterate 17
  ·simp[Dl] at h;subst h;rw[Bool.eq_iff_iff];simp[Dd,Ei,Ej,Frm.fs,Ins.xs,Fs,Bd,Gf,Cy,Ins.get,Ao,Ba,inR];try omega
 ·rcases Uw k with rfl|rfl|rfl|rfl|rfl|⟨h2,h3,h4,h5,h6,h7,h8,h9⟩|⟨h2,h3,h4,h5,h6,h7,h8,h9⟩
  iterate 5
   ·rcases h1 with rfl|rfl
    ·simp[Dl,Cl,Dr,inR,nz] at h;subst h;rw[Bool.eq_iff_iff];simp[Dd,Ei,Ej,Gt,Dr,Frm.fs,Ins.xs,Fs,Bd,Cc,Gf,Cy,Ins.get,Ao,Ba,Sg,inR];try omega
    ·simp[Dl,Cl,Dr,inR,nz] at h;subst h;rw[Bool.eq_iff_iff];simp[Dd,Ei,Ej,Gt,Dr,Frm.fs,Ins.xs,Fs,Bd,Cc,Gf,Cy,Ins.get,Ao,Ba,Sg,inR];try omega
  iterate 2
   ·have b3:(k==12)=false:=by simpa using h4
    have b4:(k==13)=false:=by simpa using h5
    have b5:(k==14)=false:=by simpa using h6
    rcases h1 with rfl|rfl
    ·simp[Dl,Cl,h9,b3,b4,b5,nz] at h;subst h;rw[Bool.eq_iff_iff];simp[Dd,Ei,Ej,Gt,h9,Frm.fs,Ins.xs,Fs,Bd,Cc,h2,h3,h4,h5,h6,h8,Gf,Cy,Ins.get,Ao,Ba,Sg,Bi];try omega
    ·simp[Dl,Cl,h9,b3,b4,b5,nz] at h;subst h;rw[Bool.eq_iff_iff];simp[Dd,Ei,Ej,Gt,h9,Frm.fs,Ins.xs,Fs,Bd,Cc,h2,h3,h4,h5,h6,h8,Gf,Cy,Ins.get,Ao,Ba,Sg,Bi];try omega
theorem Ag5 {m:Mc}{D:Nat}{x:Ins}(hm:m.okB=true) :
  Dn m D x=if Gb m x=0 then(if x.op=4/\D=0 then 7 else if x.op=3/\16<=D then 2 else 0) else Gb m x:=by
 unfold Dn;cases hf:Dl x with
 | none=>
  have h4:Gb m x=4:=by unfold Gb;rw[ijp (Zo hf)]
  rw[h4];rfl
 | some f=>
  simp only;rw[Aci m x f hf,Acj m x f hm hf];have ho:=Nz hf
  have hI:Gb m x=if Dm.all (Ga (Bd m x) x)=false then 3 else if Ji x then 3 else if(Bd m x).all (fun f=>inR (x.get f.name) f.low f.high)=false then 9 else if Gf x then 9 else 0:=by
   unfold Gb;rw[ijn (by rw[ho];decide)]
  rw[hI];cases Dm.all (Ga (Bd m x) x)<;>cases Ji x<;>cases (Bd m x).all (fun f=>inR (x.get f.name) f.low f.high)<;>cases Gf x<;>simp
def cnt (xs:List Ins):Nat->Nat->Int×Nat
 | 0,q=>(0,q)
 | f+1,q=>match xs[q]? with
  | none=>(0,q)
  | some x=>
   if x.op=4 then(0,q)
   else if x.op=3 then
    (1+x.m*((cnt xs f (q+1)).1+1)+(cnt xs f ((cnt xs f (q+1)).2+1)).1,(cnt xs f ((cnt xs f (q+1)).2+1)).2)
   else(1+(cnt xs f (q+1)).1,(cnt xs f (q+1)).2)
def sat (a:Int):Int:=min a 40000001
def Ux:List Int->List Ins->Int
 | _,[]=>0
 | st,x :: xs=>st.headD 0+Ux (Du st x) xs
theorem Zp (xs:List Ins):∀st:List Int,((List.range xs.length).map fun j=>((xs.take j).foldl Du st).headD 0).sum=Ux st xs:=by
 induction xs with
 | nil=>intro st;rfl
 | cons x xs ih=>
  intro st;rw[List.length_cons,List.range_succ_eq_map,List.map_cons,List.sum_cons,List.map_map];simp only[Ux,List.take_zero,List.foldl_nil];rw[<-ih (Du st x)];rfl
theorem Aet {t M n1 n2 q1 q2:Int}(ht:0<=t)(hM:0<=M)(hn1:0<=n1)(hn2:0<=n2)(hq1:0<=q1)(hq2:0<=q2)
  (h1:sat q1=sat (sat (t*M)*n1)) (h2:sat q2=sat (t*n2)):sat (t+q1+sat (t*M)+q2)=sat (t*(1+M*(n1+1)+n2)):=by
 have e:t*(1+M*(n1+1)+n2)=t+(t*M*n1+t*M)+t*n2:=by
  rw[Int.mul_add,Int.mul_add,Int.mul_one,Int.mul_add M,Int.mul_one,Int.mul_add,Int.mul_assoc]
 rw[e];have hA:=Int.mul_nonneg ht hM;have hB:=Int.mul_nonneg hA hn1;have hC:=Int.mul_nonneg ht hn2;generalize t*n2=C at *;generalize t*M=A at *;by_cases hc:A<=40000001
 ·have hs:sat A=A:=by unfold sat;omega
  rw[hs] at h1⊢;generalize A*n1=B at *;unfold sat at *;omega
 ·have hs:sat A=40000001:=by unfold sat;omega
  rw[hs];generalize A*n1=B at *;unfold sat at *;omega
theorem Abk {m:Mc}{xs:List Ins}(hm:Ep xs):∀(f p:Nat) (t:Int) (st:List Int) (D:Nat),xs.length<=p+f->0<=t->t<=40000001->Bh m D (xs.drop p)=0->
  0<=(cnt xs f p).1/\p<=(cnt xs f p).2/\Bh m D (xs.drop (cnt xs f p).2)=0/\(∀y,xs[(cnt xs f p).2]? = some y->y.op=4)/\
   ∃q,0<=q/\Ux (t :: st) (xs.drop p)=q+Ux (t :: st) (xs.drop (cnt xs f p).2)/\sat q=sat (t*(cnt xs f p).1):=by
 intro f
 induction f with
 | zero=>
  intro p t st D hl h0 h1 hc;refine⟨Int.le_refl _,Nat.le_refl _,hc,fun y hy=>?_,0,Int.le_refl _,by simp[cnt],by simp[cnt]⟩
  have:=(ils hy).1;simp only[cnt] at this;omega
 | succ f ih=>
  intro p t st D hl h0 h1 hc;cases hx:xs[p]? with
  | none=>
   have e:cnt xs (f+1) p=(0,p):=by simp only[cnt,hx]
   rw[e];exact⟨Int.le_refl _,Nat.le_refl _,hc,fun y hy=>(by rw[hx] at hy;cases hy),0,Int.le_refl _,by simp,by simp⟩
  | some x=>
   obtain⟨hp,ex⟩:=ils hx;have hd:xs.drop p=x :: xs.drop (p+1):=by rw[List.drop_eq_getElem_cons hp,ex]
   by_cases h4:x.op=4
   ·have e:cnt xs (f+1) p=(0,p):=by simp only[cnt,hx,ijp h4]
    rw[e];exact⟨Int.le_refl _,Nat.le_refl _,hc,fun y hy=>(by rw[hx] at hy;cases hy;exact h4),0,Int.le_refl _,by simp,by simp⟩
   rw[hd] at hc⊢;simp only[Bh] at hc
   have hi:Dn m D x=0:=by
    by_cases hi:Dn m D x=0
    ·exact hi
    ·rw[ijn hi] at hc;exact absurd hc hi
   rw[ijp hi] at hc;by_cases h3:x.op=3
   ·have hxm:0<=x.m/\x.m<=1000000:=hm x (ilm hx) h3;have hA:=Int.mul_nonneg h0 hxm.1;have hD:Dk D x=D+1:=by simp[Dk,h3]
    rw[hD] at hc;obtain⟨a1,a2,a3,a4,q1,b1,b2,b3⟩:=ih (p+1) (sat (t*x.m)) (t :: st) (D+1) (by omega) (by unfold sat;omega) (by unfold sat;omega) hc;generalize hr:cnt xs f (p+1)=r at a1 a2 a3 a4 b2 b3;obtain⟨n1,e1⟩:=r;simp only at a1 a2 a3 a4 b2 b3;cases hy:xs[e1]? with
    | none=>
     have:xs.drop e1=[]:=List.drop_eq_nil_of_le (List.getElem?_eq_none_iff.1 hy);rw[this] at a3;simp[Bh] at a3
    | some y=>
     obtain⟨hp1,ey⟩:=ils hy;have hd1:xs.drop e1=y :: xs.drop (e1+1):=by rw[List.drop_eq_getElem_cons hp1,ey]
     have hy4:=a4 y hy;rw[hd1] at a3 b2;simp only[Bh] at a3
     have hiy:Dn m (D+1) y=0:=by
      by_cases hi:Dn m (D+1) y=0
      ·exact hi
      ·rw[ijn hi] at a3;exact absurd a3 hi
     rw[ijp hiy,show Dk (D+1) y=D by simp[Dk,hy4]] at a3;obtain⟨c1,c2,c3,c4,q2,d1,d2,d3⟩:=ih (e1+1) t st D (by omega) h0 h1 a3
     have e:cnt xs (f+1) p=(1+x.m*(n1+1)+(cnt xs f (e1+1)).1,(cnt xs f (e1+1)).2):=by
      simp only[cnt,hx,ijn h4,ijp h3,hr]
     rw[e];generalize cnt xs f (e1+1)=r2 at *;obtain⟨n2,e2⟩:=r2;simp only at c1 c2 c3 c4 d2 d3⊢;have hB:=Int.mul_nonneg hxm.1 (show(0:Int)<=n1+1 by omega);refine⟨by omega,by omega,c3,c4,t+q1+sat (t*x.m)+q2,by unfold sat;omega,?_,Aet h0 hxm.1 a1 c1 b1 d1 b3 d3⟩
     have hs1:Du (t :: st) x=sat (t*x.m) :: t :: st:=by simp[Du,h3,sat]
     have hs2:Du (sat (t*x.m) :: t :: st) y=t :: st:=by simp[Du,hy4]
     simp only[Ux,hs1,hs2,List.headD_cons] at b2⊢;rw[b2,d2];omega
   ·have hD:Dk D x=D:=by simp[Dk,h3,h4]
    rw[hD] at hc;obtain⟨a1,a2,a3,a4,q1,b1,b2,b3⟩:=ih (p+1) t st D (by omega) h0 h1 hc
    have e:cnt xs (f+1) p=(1+(cnt xs f (p+1)).1,(cnt xs f (p+1)).2):=by
     simp only[cnt,hx,ijn h4,ijn h3]
    rw[e];generalize cnt xs f (p+1)=r at *;obtain⟨n1,e1⟩:=r;simp only at a1 a2 a3 a4 b2 b3⊢;refine⟨by omega,by omega,a3,a4,t+q1,by omega,?_,?_⟩
    ·have hs:Du (t :: st) x=t :: st:=by simp[Du,h3,h4]
     simp only[Ux,hs,List.headD_cons];rw[b2];omega
    ·rw[Int.mul_add,Int.mul_one];have:=Int.mul_nonneg h0 a1;unfold sat at *;omega
theorem Tu {m:Mc}{xs:List Ins}(h:Bh m 0 xs=0):(40000000<(Fp xs).sum) ↔ 40000000<sat (cnt xs xs.length 0).1:=by
 obtain⟨a1,_,a3,a4,q,b1,b2,b3⟩:=Abk (Hc h) xs.length 0 1 [] 0 (by omega) (by decide) (by decide) h;have hT:(Fp xs).sum=Ux [1] xs:=Zp xs [1]
 have he:xs.drop (cnt xs xs.length 0).2=[]:=by
  cases hy:xs[(cnt xs xs.length 0).2]? with
  | none=>exact List.drop_eq_nil_of_le (List.getElem?_eq_none_iff.1 hy)
  | some y=>
   exfalso
   obtain⟨hp,ey⟩:=ils hy;rw[List.drop_eq_getElem_cons hp,ey] at a3;simp only[Bh] at a3
   have hi:Dn m 0 y=0:=by
    by_cases hi:Dn m 0 y=0
    ·exact hi
    ·rw[ijn hi] at a3;exact absurd a3 hi
   have:=Nv hi (a4 y hy);omega
 rw[he] at b2;simp only[Ux,List.drop_zero] at b2;rw[hT,b2];rw[Int.one_mul] at b3;unfold sat at *;omega
theorem Gy {xs:List Ins}(hm:Ep xs):∀f p,0<=(cnt xs f p).1/\p<=(cnt xs f p).2:=by
 intro f
 induction f with
 | zero=>intro p;simp[cnt]
 | succ f ih=>
  intro p;cases hx:xs[p]? with
  | none=>simp only[cnt,hx];omega
  | some x=>
   by_cases h4:x.op=4
   ·simp only[cnt,hx,ijp h4];omega
   by_cases h3:x.op=3
   ·simp only[cnt,hx,ijn h4,ijp h3];have h1:=ih (p+1);have h2:=ih ((cnt xs f (p+1)).2+1);have:=Int.mul_nonneg (hm x (ilm hx) h3).1 (show(0:Int)<=(cnt xs f (p+1)).1+1 by omega);omega
   ·simp only[cnt,hx,ijn h4,ijn h3];have h1:=ih (p+1);omega
theorem Ke {xs:List Ins}{p:Nat}(h:xs.length<=p)(f:Nat):cnt xs f p=(0,p):=by
 cases f with
 | zero=>rfl
 | succ f=>simp only[cnt,List.getElem?_eq_none_iff.2 h]
theorem Jj {xs:List Ins}{p:Nat}{x:Ins}(hx:xs[p]? = some x)(h4:x.op=4)(f:Nat):cnt xs f p=(0,p):=by
 cases f with
 | zero=>rfl
 | succ f=>simp only[cnt,hx,ijp h4]
theorem Hj {xs:List Ins}{p:Nat}{x:Ins}(hx:xs[p]? = some x)(h3:x.op=3)(f:Nat) :
  cnt xs (f+1) p=(1+x.m*((cnt xs f (p+1)).1+1)+(cnt xs f ((cnt xs f (p+1)).2+1)).1,(cnt xs f ((cnt xs f (p+1)).2+1)).2):=by
 simp only[cnt,hx,ijp h3,ijn (show ¬x.op=4 by omega)]
theorem Gg {xs:List Ins}{p:Nat}{x:Ins}(hx:xs[p]? = some x)(h3:x.op≠3)(h4:x.op≠4)(f:Nat) :
  cnt xs (f+1) p=(1+(cnt xs f (p+1)).1,(cnt xs f (p+1)).2):=by
 simp only[cnt,hx,ijn h3,ijn h4]
theorem Ack (xs:List Ins):∀f p,(cnt xs f p).2<=max p xs.length+f:=by
 intro f
 induction f with
 | zero=>intro p;simp only[cnt];omega
 | succ f ih=>
  intro p;cases hx:xs[p]? with
  | none=>simp only[cnt,hx];omega
  | some x=>
   have hp:=(ils hx).1;by_cases h4:x.op=4
   ·rw[Jj hx h4];simp only;omega
   by_cases h3:x.op=3
   ·rw[Hj hx h3];have h1:=ih (p+1);by_cases he:xs.length<=(cnt xs f (p+1)).2
    ·rw[Ke (p:=(cnt xs f (p+1)).2+1) (by omega)];simp only;omega
    ·have h2:=ih ((cnt xs f (p+1)).2+1);simp only;omega
   ·rw[Gg hx h3 h4];have h1:=ih (p+1);simp only;omega
structure Jk (xs:List Ins)(N:Int)(E:Nat)(f q:Nat)(n:Int):Prop where
 low:0<=n
 high:n<=40000001
 fuel:xs.length<=q+f
 sum:sat (n+(cnt xs f q).1)=N
 end':(cnt xs f q).2=E
theorem Jk.start {xs:List Ins}{f p:Nat}(h:xs.length<=p+f):Jk xs (sat (cnt xs f p).1) (cnt xs f p).2 f p 0:=⟨by omega,by omega,h,by rw[Int.zero_add],rfl⟩
theorem Jk.stop {xs:List Ins}{N:Int}{E f q:Nat}{n:Int}(h:Jk xs N E f q n)(hc:cnt xs f q=(0,q)):n=N/\q=E:=by
 have h1:=h.sum;have h2:=h.end';have h3:=h.low;have h4:=h.high;rw[hc] at h1 h2;unfold sat at h1;exact⟨by simp only at h1;omega,h2⟩
theorem Jk.plain {xs:List Ins}{N:Int}{E f q:Nat}{n:Int}{x:Ins}(hm:Ep xs)(h:Jk xs N E (f+1) q n)(hx:xs[q]? = some x)(h3:x.op≠3)(h4:x.op≠4) :
  Jk xs N E f (q+1) (min (n+1) 40000001):=by
 have h1:=h.sum;have h2:=h.end';have h5:=h.low;have h6:=h.high;have h7:=h.fuel;have h8:=(Gy hm f (q+1)).1;rw[Gg hx h3 h4] at h1 h2;simp only at h1 h2;exact⟨by omega,by omega,by omega,by unfold sat at *;omega,h2⟩
theorem Jk.loop {xs:List Ins}{N:Int}{E f q:Nat}{n:Int}{x:Ins}(hm:Ep xs)(h:Jk xs N E (f+1) q n)(hx:xs[q]? = some x)(h3:x.op=3) :
  Jk xs N E f ((cnt xs f (q+1)).2+1) (min (n+1+x.m*(sat (cnt xs f (q+1)).1+1)) 40000001):=by
 have h1:=h.sum;have h2:=h.end';have h5:=h.low;have h6:=h.high;have h7:=h.fuel;have hM:=hm x (ilm hx) h3;obtain⟨h8,h9⟩:=Gy hm f (q+1);have h10:=(Gy hm f ((cnt xs f (q+1)).2+1)).1;rw[Hj hx h3] at h1 h2;simp only at h1 h2;have hlow:0<=x.m*(sat (cnt xs f (q+1)).1+1):=Int.mul_nonneg hM.1 (by unfold sat;omega);refine⟨by omega,by omega,by omega,?_,h2⟩
 rw[<-h1];generalize (cnt xs f ((cnt xs f (q+1)).2+1)).1=c2 at *;generalize (cnt xs f (q+1)).1=c1 at *;by_cases hc:c1<=40000001
 ·have:sat c1=c1:=by unfold sat;omega
  rw[this] at hlow⊢;generalize x.m*(c1+1)=z at *;unfold sat
  omega
 ·have:sat c1=40000001:=by unfold sat;omega
  rw[this] at hlow⊢;by_cases h0:x.m=0
  ·rw[h0,Int.zero_mul,Int.zero_mul];unfold sat
   omega
  ·have e1:(40000001:Int)+1<=x.m*(40000001+1):=by omega
   have e2:x.m*(40000001+1)<=x.m*(c1+1):=Int.mul_le_mul_of_nonneg_left (by omega) hM.1;generalize x.m*(c1+1)=z at *;unfold sat
   omega
theorem Jk.place {xs:List Ins}{N:Int}{E f q:Nat}{n:Int}(hm:Ep xs)(h:Jk xs N E f q n):q<=E:=by
 rw[<-h.end'];exact(Gy hm f q).2
theorem Oa (A:Option Addr)(cap:Nat)(xs:List Ins)(hl:xs.length<=100000)(hm:Ep xs) :
  ∀F f p (w:World),f<=F->F<=100000->xs.length<=p+f->p<=100001->RdC w A xs->
   Calls prog 64 #[.slice A xs.length cap,p] w fun e w'=>e=.returned (.tuple #[.int .i64 (sat (cnt xs f p).1),.int .i64 (cnt xs f p).2])/\Ext [] w w':=by
 intro F
 induction F with
 | zero=>
  intro f p w hf hF hp hp2 hR;have hf0:f=0:=by omega
  subst hf0;have hpl:xs.length<=p:=by omega
  simp only[cnt];clear hR hm;go_enter func64,ntmps64
  go_wp2_with fail
  go_loopw [1,6] (fun a n wr=>a=.int .i64 p/\n=.int .i64 0/\wr=w) (fun _ _ _=>0)
  case atStart=>exact⟨rfl,rfl,rfl⟩
  case round=>
   obtain⟨rfl,rfl,rfl⟩:=hrel;go_wp2_with fail
   go_ret2
   exact⟨rfl,er⟩
 | succ F ih=>
  intro f p w hf hF hp hp2 hR;have HS:=hd (Jk.start hp);have HB:=hd (nt (Ack xs f p) (show max p xs.length+f<=200001 by omega));have HI:=hd ih;have HM:=hd hm;have HR:=hd hR;clear ih hm hR hp;generalize sat (cnt xs f p).1=N at *;generalize (cnt xs f p).2=E at *;go_enter func64,ntmps64
  go_wp2_with fail
  go_loopw [1,6] (fun a n wr=>∃(g q:Nat) (v:Int),a=.int .i64 q/\n=.int .i64 v/\g<=F+1/\Hd (Jk xs N E g q v)/\Ext [] w wr) (fun a _ _=>(xs.length-intOf a).toNat)
  case atStart=>exact⟨f,p,0,rfl,rfl,hf,HS,er⟩
  case round=>
   obtain⟨g,q,v,rfl,rfl,hg,hC,hE⟩:=hrel;have hv0:=hC.o.low;have hv1:=hC.o.high;have hq:=hC.o.place HM.o;have hb:=HB.o;have hfu:=hC.o.fuel;have HE:=hd hE;by_cases hlt:q<xs.length
   ·obtain⟨x,hx⟩:∃x,xs[q]? = some x:=⟨_,List.getElem?_eq_getElem hlt⟩;obtain⟨b,o,rfl,hbl,hcx⟩:=(HR.o.ext hE (by simp)).at hx;have h0:=hcx 0 _ rfl;have h8:=hcx 8 _ rfl;simp only[Nat.add_zero] at h0;have HX:=hd hx;cases g with
    | zero=>omega
    | succ g=>
     clear hcx hx hE;by_cases h4:x.op=4
     ·have HZ:=hd (hC.o.stop (Jj HX.o h4 _));rw[h4] at h0;clear hC h4;go_wp2_with fail
      go_ret2
      exact⟨by rw[HZ.o.1,HZ.o.2];rfl,HE.o⟩
     ·have h4b:(x.op==4)=false:=by simpa using h4
      by_cases h3:x.op=3
      ·have HC2:=hd (hC.o.loop HM.o HX.o h3);have hM:=HM.o x (ilm HX.o) h3;have hM0:=hM.1;have hM1:=hM.2;have HCN:=hd (Gy HM.o g (q+1));have HCL:=hd (show sat (cnt xs g (q+1)).1<=40000001/\0<=sat (cnt xs g (q+1)).1 by have:=HCN.o.1;unfold sat;omega);rw[h3] at h0;clear hC h4 h4b hM;go_wp2_with fail
       refine(HI.o g (q+1) _ (by omega) (by omega) (by omega) (by omega) (HR.o.ext HE.o (by simp))).mono ?_
       rintro e w2 ⟨rfl,hE2⟩;have h8':=hE2.held h8 (by simp);have hbl2:b<w2.heap.size:=nl hbl hE2.size;have HE2:=hd (HE.o.trans hE2);have hpl:=(HC2.o.place HM.o);have hcn:=HCN.o.2;have hcl:=HCL.o;clear hE2 h8 h0 hbl;generalize hcs:sat (cnt xs g (q+1)).1=c1 at *;generalize hce:(cnt xs g (q+1)).2=e1 at *;have hz0:0<=x.m*(c1+1):=Int.mul_nonneg hM0 (by omega);have hz1:x.m*(c1+1)<=1000000*40000002:=Int.mul_le_mul hM1 (by omega) (by omega) (by omega);go_wp2_with fail
       go_round
       case rel=>exact⟨g,e1+1,min (v+1+x.m*(c1+1)) 40000001,by go_num,by go_num,by omega,HC2,HE2.o⟩
       case measure=>simp[intOf];omega
      ·have h3b:(x.op==3)=false:=by simpa using h3
       have HC2:=hd (hC.o.plain HM.o HX.o h3 h4);clear hC h3 h4;go_wp2_with fail
       go_round
       case rel=>exact⟨g,q+1,min (v+1) 40000001,by go_num,by go_num,by omega,HC2,HE.o⟩
       case measure=>simp[intOf];omega
   ·have HZ:=hd (hC.o.stop (Ke (by omega) _));clear hC hE;go_wp2_with fail
    go_ret2
    exact⟨by rw[HZ.o.1,HZ.o.2];rfl,HE.o⟩
section
structure VI (m:Mc)(x:Ins):Prop where
 op:1<=x.op/\x.op<=19
 p:0<=x.p/\x.p<=16
 d:0<=x.d/\x.d<=15
 a:0<=x.a/\x.a<=15
 b:0<=x.b/\x.b<=15
 c : -1000<=x.c/\x.c<=1000
 n : -2147483648<=x.n/\x.n<=2147483647
 mm : -2147483648<=x.m/\x.m<=2147483647
 cr:x.op=2->0<=x.c/\x.c<=15
 dv:(x.op=9\/x.op=11\/x.op=12\/x.op=17)->x.d<=7
 av:(x.op=11\/x.op=13\/x.op=15)->x.a<=7
 bv:(x.op=10\/x.op=11)->x.b<=7
 cv:x.op=11->0<=x.c/\x.c<=7
 cb:(x.op=7\/x.op=8\/x.op=9\/x.op=10\/x.op=14\/x.op=18)->0<=x.c/\x.c<=m.banks-1
 q:(x.op=18\/x.op=19)->x.d<=m.queues-1
 ks:x.op=18->(x.k=1\/x.k=2)/\1<=x.m/\x.m<=m.bank
 ln:x.op=13->0<=x.n/\x.n<=m.lanes-1
 wm:x.op=14->0<=x.m/\x.m<=m.bank
 lo:x.op=3->0<=x.m/\x.m<=1000000
 ko:(x.op=2\/x.op=11)->4<=x.k/\x.k<=15
 kc:(x.op=2\/x.op=11)->(x.k=12->x.n<=x.m)/\(x.k=13->1<=x.n/\x.n<=31)/\(x.k=14->1<=x.n)
 pp:x.p≠0->x.op=1\/x.op=2\/x.op=5\/x.op=6\/x.op=7\/x.op=8
theorem Bc {m:Mc}(h:m.okB=true):(1<=m.main/\m.main<=524288)/\(2<=m.banks/\m.banks<=8)/\(256<=m.bank/\m.bank<=4096)/\(2<=m.lanes/\m.lanes<=8)/\(1<=m.queues/\m.queues<=4):=by
 unfold Mc.okB at h;simp only[Bool.and_eq_true,Bi] at h;omega
theorem Zq {m:Mc}{D:Nat}{x:Ins}(hm:m.okB=true)(h:Dn m D x=0):VI m x:=by
 have hmc:=Bc hm;unfold Dn at h;cases hf:Dl x with
 | none=>rw[hf] at h;cases h
 | some f=>
  rw[hf] at h;simp only at h;by_cases hu:Dy f x=true
  ·rw[ijp hu] at h;cases h
  rw[ijn hu] at h;by_cases hr:Dd m f x=false
  ·rw[ijp hr] at h;cases h
  clear h;replace hr:Dd m f x=true:=by simpa using hr
  replace hu:Dy f x=false:=by simpa using hu
  have ho:=Nz hf;obtain⟨m0,m1,m2,m3,m4⟩:=m;obtain⟨o,k,d,a,b,c,p,n,mm⟩:=x;rw[Bi] at ho;simp only at ho hmc;clear hm;have h1:o=1\/o=3\/o=4\/o=5\/o=6\/o=7\/o=8\/o=9\/o=10\/o=12\/o=13\/o=14\/o=15\/o=16\/o=17\/o=18\/o=19\/o=2\/o=11:=by omega
  rcases h1 with rfl|rfl|rfl|rfl|rfl|rfl|rfl|rfl|rfl|rfl|rfl|rfl|rfl|rfl|rfl|rfl|rfl|h1
  iterate 17
   ·simp[Dl] at hf;subst hf;simp[Dd,Ei,Ej,Frm.fs,Ins.xs,Fs,inR] at hr;simp[Dy,Eo,Frm.fs,Ins.xs] at hu;constructor<;>simp<;>omega
  ·rcases Uw k with rfl|rfl|rfl|rfl|rfl|⟨h2,h3,h4,h5,h6,h7,h8,h9⟩|⟨h2,h3,h4,h5,h6,h7,h8,h9⟩
   iterate 5
    ·rcases h1 with rfl|rfl
     ·simp[Dl,Cl,Dr,inR,nz] at hf;subst hf;simp[Dd,Ei,Ej,Gt,Dr,Frm.fs,Ins.xs,Fs,inR] at hr;simp[Dy,Eo,Frm.fs,Ins.xs] at hu;constructor<;>simp<;>omega
     ·simp[Dl,Cl,Dr,inR,nz] at hf;subst hf;simp[Dd,Ei,Ej,Gt,Dr,Frm.fs,Ins.xs,Fs,inR] at hr;simp[Dy,Eo,Frm.fs,Ins.xs] at hu;constructor<;>simp<;>omega
   ·have b3:(k==12)=false:=by simpa using h4
    have b4:(k==13)=false:=by simpa using h5
    have b5:(k==14)=false:=by simpa using h6
    rw[Bi] at h2;rcases h1 with rfl|rfl
    ·simp[Dl,Cl,h9,b3,b4,b5,nz] at hf;subst hf;simp[Dd,Ei,Ej,Gt,h9,Frm.fs,Ins.xs,Fs,h3,h4,h5,h6,Bi] at hr;simp[Dy,Eo,Frm.fs,Ins.xs] at hu;constructor<;>simp<;>omega
    ·simp[Dl,Cl,h9,b3,b4,b5,nz] at hf;subst hf;simp[Dd,Ei,Ej,Gt,h9,Frm.fs,Ins.xs,Fs,h3,h4,h5,h6,Bi] at hr;simp[Dy,Eo,Frm.fs,Ins.xs] at hu;constructor<;>simp<;>omega
   ·exfalso
    have b3:(k==12)=false:=by simpa using h4
    have b4:(k==13)=false:=by simpa using h5
    have b5:(k==14)=false:=by simpa using h6
    rcases h1 with rfl|rfl
    ·simp[Dl,Cl,h9,b3,b4,b5,nz] at hf;subst hf;simp[Dd,Ej,h9] at hr
    ·simp[Dl,Cl,h9,b3,b4,b5,nz] at hf;subst hf;simp[Dd,Ej,h9] at hr
theorem Er {m:Mc}(hm:m.okB=true){xs:List Ins}:∀{D:Nat},Bh m D xs=0->∀x∈xs,VI m x:=by
 induction xs with
 | nil=>intro D _ x hx;simp at hx
 | cons x xs ih=>
  intro D h y hy;simp only[Bh] at h;by_cases hi:Dn m D x=0
  ·rw[ijp hi] at h;rcases List.mem_cons.1 hy with rfl|hy
   ·exact Zq hm hi
   ·exact ih h y hy
  ·rw[ijn hi] at h;exact absurd h hi
theorem Fg {m:Mc}{xs:List Ins}(h:Cv m xs=0):m.okB=true/\Bh m 0 xs=0/\(Fp xs).sum<=40000000:=by
 unfold Cv at h;by_cases h1:m.okB=false
 ·rw[ijp h1] at h;cases h
 rw[ijn h1] at h;by_cases h2:400000<xs.length
 ·rw[ijp h2] at h;cases h
 rw[ijn h2] at h;by_cases h3:Bh m 0 xs=0
 ·rw[ijp h3] at h;by_cases h4:40000000<(Fp xs).sum
  ·rw[ijp h4] at h;cases h
  ·exact⟨by simpa using h1,h3,by omega⟩
 ·rw[ijn h3] at h;exact absurd h h3
theorem Aeu {xs:List Ins}:∀f p,xs.length<=p+f->cnt xs (f+1) p=cnt xs f p:=by
 intro f
 induction f with
 | zero=>intro p hp;rw[Ke (by omega),Ke (by omega)]
 | succ f ih=>
  intro p hp;cases hx:xs[p]? with
  | none=>simp only[cnt,hx]
  | some x=>
   by_cases h4:x.op=4
   ·rw[Jj hx h4,Jj hx h4]
   by_cases h3:x.op=3
   ·rw[Hj hx h3,Hj hx h3,ih (p+1) (by omega)];by_cases he:xs.length<=(cnt xs f (p+1)).2
    ·rw[Ke (p:=(cnt xs f (p+1)).2+1) (by omega),Ke (p:=(cnt xs f (p+1)).2+1) (by omega)]
    ·by_cases hge:p+1<=(cnt xs f (p+1)).2
     ·rw[ih ((cnt xs f (p+1)).2+1) (by omega)]
     ·exfalso
      have:∀f p,p<=(cnt xs f p).2:=by
       intro f
       induction f with
       | zero=>intro p;simp[cnt]
       | succ f ih=>
        intro p;cases hx:xs[p]? with
        | none=>simp only[cnt,hx];omega
        | some x=>
         by_cases h4:x.op=4
         ·simp only[cnt,hx,ijp h4];omega
         by_cases h3:x.op=3
         ·simp only[cnt,hx,ijn h4,ijp h3];have h1:=ih (p+1);have h2:=ih ((cnt xs f (p+1)).2+1);omega
         ·simp only[cnt,hx,ijn h4,ijn h3];have h1:=ih (p+1);omega
      exact hge (this _ _)
   ·rw[Gg hx h3 h4,Gg hx h3 h4,ih (p+1) (by omega)]
theorem Ob {xs:List Ins}{f g p:Nat}(hf:xs.length<=p+f)(hg:xs.length<=p+g):cnt xs f p=cnt xs g p:=by
 have h:∀(d:Nat),∀f,xs.length<=p+f->cnt xs (f+d) p=cnt xs f p:=by
  intro d
  induction d with
  | zero=>intro f _;rfl
  | succ d ih=>intro f hf;rw[<-Nat.add_assoc,Aeu _ _ (by omega),ih f hf]
 rcases Nat.le_total f g with hfg|hfg
 ·obtain⟨d,rfl⟩:=Nat.exists_eq_add_of_le hfg;exact(h d f hf).symm
 ·obtain⟨d,rfl⟩:=Nat.exists_eq_add_of_le hfg;exact h d g hg
theorem Qx (xs:List Ins):∀f p,p<=(cnt xs f p).2:=by
 intro f
 induction f with
 | zero=>intro p;simp[cnt]
 | succ f ih=>
  intro p;cases hx:xs[p]? with
  | none=>simp only[cnt,hx];omega
  | some x=>
   by_cases h4:x.op=4
   ·simp only[cnt,hx,ijp h4];omega
   by_cases h3:x.op=3
   ·simp only[cnt,hx,ijn h4,ijp h3];have h1:=ih (p+1);have h2:=ih ((cnt xs f (p+1)).2+1);omega
   ·simp only[cnt,hx,ijn h4,ijn h3];have h1:=ih (p+1);omega
section
variable {σ τ:Type}
def Tv (f:σ->σ):Nat->σ->σ
 | 0,s=>s
 | n+1,s=>f (Tv f n s)
theorem Lt {B:Int->σ->Prop}{f:σ->σ}{e:Int}(h:∀c s,B c s->B (c+e) (f s)):∀(n:Nat) (c:Int) (s:σ),B c s->B (c+n*e) (Tv f n s)
 | 0,c,s,hr=>by simpa[Tv] using hr
 | n+1,c,s,hr=>by
  have:=h _ _ (Lt h n c s hr);rw[show c+((n+1:Nat):Int)*e=c+(n:Int)*e+e by push_cast;rw[Int.add_mul];omega];exact this
def Kz (step:Ins->σ->σ)(tick:σ->σ)(xs:List Ins):Nat->Nat->σ->σ
 | 0,_,s=>s
 | f+1,q,s=>match xs[q]? with
  | none=>s
  | some x=>
   if x.op=4 then s
   else if x.op=3 then Kz step tick xs f ((cnt xs f (q+1)).2+1) (Tv (fun s=>Kz step tick xs f (q+1) (tick s)) x.m.toNat (step x s))
   else Kz step tick xs f (q+1) (step x s)
variable {step:Ins->σ->σ} {tick:σ->σ} {step':Ins->τ->τ} {tick':τ->τ} {xs:List Ins}
theorem Wz {p:Nat}{x:Ins}(hx:xs[p]? = some x)(h4:x.op=4)(f:Nat)(s:σ):Kz step tick xs f p s=s:=by
 cases f with
 | zero=>rfl
 | succ f=>simp only[Kz,hx,ijp h4]
theorem Tw {p:Nat}{x:Ins}(hx:xs[p]? = some x)(h3:x.op=3)(f:Nat)(s:σ) :
  Kz step tick xs (f+1) p s=Kz step tick xs f ((cnt xs f (p+1)).2+1) (Tv (fun s=>Kz step tick xs f (p+1) (tick s)) x.m.toNat (step x s)):=by
 simp only[Kz,hx,ijp h3,ijn (show ¬x.op=4 by omega)]
theorem Qy {p:Nat}{x:Ins}(hx:xs[p]? = some x)(h3:x.op≠3)(h4:x.op≠4)(f:Nat)(s:σ):Kz step tick xs (f+1) p s=Kz step tick xs f (p+1) (step x s):=by
 simp only[Kz,hx,ijn h3,ijn h4]
theorem Zr {B:Int->σ->Prop}{K:Int}(hm:Ep xs)(hs:∀x∈xs,∀c s,B c s->B (c+K) (step x s))(ht:∀c s,B c s->B (c+K) (tick s)) :
  ∀f q c s,B c s->B (c+K*(cnt xs f q).1) (Kz step tick xs f q s):=by
 intro f
 induction f with
 | zero=>intro q c s h;simpa[cnt,Kz] using h
 | succ f ih=>
  intro q c s h;cases hx:xs[q]? with
  | none=>simp only[cnt,Kz,hx];simpa using h
  | some x=>
   have hmx:=ilm hx;by_cases h4:x.op=4
   ·rw[Wz hx h4,Jj hx h4];simpa using h
   by_cases h3:x.op=3
   ·rw[Tw hx h3,Hj hx h3];have h0:=(hm x hmx h3).1
    have h1:=Lt (B:=B) (e:=K*((cnt xs f (q+1)).1+1)) (f:=fun s=>Kz step tick xs f (q+1) (tick s)) (fun c s hb=>by
     have:=ih (q+1) _ _ (ht _ _ hb);rw[show c+K*((cnt xs f (q+1)).1+1)=c+K+K*(cnt xs f (q+1)).1 by rw[Int.mul_add,Int.mul_one];omega];exact this) x.m.toNat _ _ (hs x hmx _ _ h)
    have h2:=ih ((cnt xs f (q+1)).2+1) _ _ h1;have e1:((x.m.toNat:Nat):Int)=x.m:=Int.toNat_of_nonneg h0;rw[e1] at h2;simp only
    have e2:c+K*(1+x.m*((cnt xs f (q+1)).1+1)+(cnt xs f ((cnt xs f (q+1)).2+1)).1)=c+K+x.m*(K*((cnt xs f (q+1)).1+1))+K*(cnt xs f ((cnt xs f (q+1)).2+1)).1:=by
     generalize (cnt xs f (q+1)).1+1=u;generalize (cnt xs f ((cnt xs f (q+1)).2+1)).1=v;rw[Int.mul_add,Int.mul_add,Int.mul_one,Int.mul_left_comm];omega
    rw[e2];exact h2
   ·rw[Qy hx h3 h4,Gg hx h3 h4];have h2:=ih (q+1) _ _ (hs x hmx _ _ h);simp only;rw[show c+K*(1+(cnt xs f (q+1)).1)=c+K+K*(cnt xs f (q+1)).1 by rw[Int.mul_add,Int.mul_one];omega];exact h2
end
end
section
section
variable {xs:List Ins} {p:Nat} {x:Ins}
end
theorem Abl {m:Mc}{xs:List Ins}(h:Bh m 0 xs=0):xs.length<=(cnt xs xs.length 0).2:=by
 obtain⟨a1,_,a3,a4,q,b1,b2,b3⟩:=Abk (Hc h) xs.length 0 1 [] 0 (by omega) (by decide) (by decide) h;cases hy:xs[(cnt xs xs.length 0).2]? with
 | none=>exact List.getElem?_eq_none_iff.1 hy
 | some y=>
  exfalso
  obtain⟨hp,ey⟩:=ils hy;rw[List.drop_eq_getElem_cons hp,ey] at a3;simp only[Bh] at a3
  have hi:Dn m 0 y=0:=by
   by_cases hi:Dn m 0 y=0
   ·exact hi
   ·rw[ijn hi] at a3;exact absurd a3 hi
  have:=Nv hi (a4 y hy);omega
theorem Ag6 {m:Mc}{xs:List Ins}(h:Bh m 0 xs=0)(ht:(Fp xs).sum<=40000000):(cnt xs xs.length 0).1<=40000000:=by
 have h1:¬40000000<sat (cnt xs xs.length 0).1:=fun h2=>by
  have:=(Tu h).2 h2;omega
 unfold sat at h1;omega
def Zt (f:Nat->Nat)(k v:Nat):Nat->Nat:=fun i=>if i=k then v else f i
def eSt (xs:List Ins):Nat->List Nat×(Nat->Nat)
 | 0=>([],fun _=>0)
 | k+1=>match xs[k]? with
  | none=>eSt xs k
  | some x=>if x.op=3 then(k :: (eSt xs k).1,(eSt xs k).2) else if x.op=4 then((eSt xs k).1.tail,Zt (eSt xs k).2 ((eSt xs k).1.headD 0) k) else eSt xs k
section
variable {xs:List Ins} {k:Nat} {x:Ins}
theorem Iw (hx:xs[k]? = some x)(h3:x.op=3):eSt xs (k+1)=(k :: (eSt xs k).1,(eSt xs k).2):=by simp only[eSt,hx,ijp h3]
theorem Mk (hx:xs[k]? = some x)(h4:x.op=4):eSt xs (k+1)=((eSt xs k).1.tail,Zt (eSt xs k).2 ((eSt xs k).1.headD 0) k):=by simp only[eSt,hx,ijn (show ¬x.op=3 by omega),ijp h4]
theorem Kf (hx:xs[k]? = some x)(h3:x.op≠3)(h4:x.op≠4):eSt xs (k+1)=eSt xs k:=by simp only[eSt,hx,ijn h3,ijn h4]
theorem Xa:∀d,eSt xs (xs.length+d)=eSt xs xs.length
 | 0=>rfl
 | d+1=>by
  rw[<-Nat.add_assoc];simp only[eSt,List.getElem?_eq_none_iff.2 (show xs.length<=xs.length+d by omega)];exact Xa d
theorem Tx {m:Mc}(h:Bh m 0 xs=0):∀k,k<=xs.length->Bh m (eSt xs k).1.length (xs.drop k)=0:=by
 intro k
 induction k with
 | zero=>intro _;simpa[eSt] using h
 | succ k ih=>
  intro hk;have hp:k<xs.length:=by omega
  have hx:=List.getElem?_eq_getElem hp;have h1:=ih (by omega);rw[List.drop_eq_getElem_cons hp] at h1;generalize xs[k]=x at *;simp only[Bh] at h1
  have hi:Dn m (eSt xs k).1.length x=0:=by
   by_cases hi:Dn m (eSt xs k).1.length x=0
   ·exact hi
   ·rw[ijn hi] at h1;exact absurd h1 hi
  rw[ijp hi] at h1;by_cases h3:x.op=3
  ·rw[Iw hx h3];simpa[Dk,h3] using h1
  by_cases h4:x.op=4
  ·rw[Mk hx h4];simpa[Dk,h4] using h1
  ·rw[Kf hx h3 h4];simpa[Dk,h3,h4] using h1
theorem Aev {m:Mc}(h:Bh m 0 xs=0)(hx:xs[k]? = some x)(h4:x.op=4):∃j l,(eSt xs k).1=j :: l:=by
 obtain⟨hp,ex⟩:=ils hx;have h1:=Tx h k (by omega);rw[List.drop_eq_getElem_cons hp,ex] at h1;simp only[Bh] at h1
 have hi:Dn m (eSt xs k).1.length x=0:=by
  by_cases hi:Dn m (eSt xs k).1.length x=0
  ·exact hi
  ·rw[ijn hi] at h1;exact absurd h1 hi
 have:=Nv hi h4;cases he:(eSt xs k).1 with
 | nil=>rw[he] at this;simp at this
 | cons j l=>exact⟨j,l,rfl⟩
theorem Ag7:∀k,∀i∈(eSt xs k).1,i<k:=by
 intro k
 induction k with
 | zero=>intro i hi;simp[eSt] at hi
 | succ k ih=>
  intro i hi;cases hx:xs[k]? with
  | none=>simp only[eSt,hx] at hi;have:=ih i hi;omega
  | some x=>
   by_cases h3:x.op=3
   ·rw[Iw hx h3] at hi;rcases List.mem_cons.1 hi with rfl|hi
    ·omega
    ·have:=ih i hi;omega
   by_cases h4:x.op=4
   ·rw[Mk hx h4] at hi;have:=ih i (List.mem_of_mem_tail hi);omega
   ·rw[Kf hx h3 h4] at hi;have:=ih i hi;omega
theorem Qz:∀k,(eSt xs k).1.length<=k:=by
 intro k
 induction k with
 | zero=>simp[eSt]
 | succ k ih=>
  cases hx:xs[k]? with
  | none=>simp only[eSt,hx];omega
  | some x=>
   by_cases h3:x.op=3
   ·rw[Iw hx h3];simp;omega
   by_cases h4:x.op=4
   ·rw[Mk hx h4];simp;omega
   ·rw[Kf hx h3 h4];omega
end
theorem Abm {m:Mc}{xs:List Ins}:∀(f p D:Nat),xs.length<=p+f->Bh m D (xs.drop p)=0->
  Bh m D (xs.drop (cnt xs f p).2)=0/\(∀y,xs[(cnt xs f p).2]? = some y->y.op=4)/\(eSt xs (cnt xs f p).2).1=(eSt xs p).1/\(∀i,i<p->(eSt xs (cnt xs f p).2).2 i=(eSt xs p).2 i)/\
   (∀i x,p<=i->i<(cnt xs f p).2->xs[i]? = some x->x.op=3->(eSt xs (cnt xs f p).2).2 i=(cnt xs xs.length (i+1)).2):=by
 intro f
 induction f with
 | zero=>
  intro p D hl hc;exact⟨hc,fun y hy=>(by have:=(ils hy).1;simp only[cnt] at this;omega),rfl,fun i _=>rfl,fun i x h1 h2=>absurd h2 (by simp only[cnt];omega)⟩
 | succ f ih=>
  intro p D hl hc;cases hx:xs[p]? with
  | none=>
   have e:cnt xs (f+1) p=(0,p):=by simp only[cnt,hx]
   rw[e];exact⟨hc,(fun y hy=>by rw[hx] at hy;cases hy),rfl,fun i _=>rfl,fun i x h1 h2=>absurd h2 (Nat.not_lt.2 h1)⟩
  | some x=>
   obtain⟨hp,ex⟩:=ils hx;have hd:xs.drop p=x :: xs.drop (p+1):=by rw[List.drop_eq_getElem_cons hp,ex]
   by_cases h4:x.op=4
   ·rw[Jj hx h4];exact⟨hc,(fun y hy=>by rw[hx] at hy;cases hy;exact h4),rfl,fun i _=>rfl,fun i x h1 h2=>absurd h2 (Nat.not_lt.2 h1)⟩
   rw[hd] at hc;simp only[Bh] at hc
   have hi:Dn m D x=0:=by
    by_cases hi:Dn m D x=0
    ·exact hi
    ·rw[ijn hi] at hc;exact absurd hc hi
   rw[ijp hi] at hc;by_cases h3:x.op=3
   ·have hD:Dk D x=D+1:=by simp[Dk,h3]
    rw[hD] at hc;obtain⟨a1,a2,a3,a4,a5⟩:=ih (p+1) (D+1) (by omega) hc;have hge:=Qx xs f (p+1);have hro:(cnt xs f (p+1)).2=(cnt xs xs.length (p+1)).2:=by rw[Ob (f:=f) (g:=xs.length) (by omega) (by omega)]
    rw[Hj hx h3];simp only;generalize (cnt xs f (p+1)).2=e1 at *;cases hy:xs[e1]? with
    | none=>
     have:xs.drop e1=[]:=List.drop_eq_nil_of_le (List.getElem?_eq_none_iff.1 hy);rw[this] at a1;simp[Bh] at a1
    | some y=>
     obtain⟨hp1,ey⟩:=ils hy;have hd1:xs.drop e1=y :: xs.drop (e1+1):=by rw[List.drop_eq_getElem_cons hp1,ey]
     have hy4:=a2 y hy;rw[hd1] at a1;simp only[Bh] at a1
     have hiy:Dn m (D+1) y=0:=by
      by_cases hi:Dn m (D+1) y=0
      ·exact hi
      ·rw[ijn hi] at a1;exact absurd a1 hi
     rw[ijp hiy,show Dk (D+1) y=D by simp[Dk,hy4]] at a1;obtain⟨c1,c2,c3,c4,c5⟩:=ih (e1+1) D (by omega) a1
     have hop:(eSt xs (e1+1))=((eSt xs p).1,Zt (eSt xs e1).2 p e1):=by
      rw[Mk hy hy4,a3,Iw hx h3];rfl
     rw[hop] at c3 c4;refine⟨c1,c2,c3,fun i hi=>?_,fun i z h1 h2 hz hz3=>?_⟩
     ·rw[c4 i (by omega)];simp only[Zt,ijn (show ¬i=p by omega)];rw[a4 i (by omega),Iw hx h3]
     ·rcases Nat.lt_or_ge i (e1+1) with hlt|hge2
      ·rw[c4 i hlt];by_cases hip:i=p
       ·subst hip;simp only[Zt,if_pos];exact hro
       ·simp only[Zt,ijn hip];by_cases hie:i=e1
        ·subst hie;rw[hy] at hz;cases hz
         omega
        ·exact a5 i z (by omega) (by omega) hz hz3
      ·exact c5 i z hge2 h2 hz hz3
   ·have hD:Dk D x=D:=by simp[Dk,h3,h4]
    rw[hD] at hc;obtain⟨a1,a2,a3,a4,a5⟩:=ih (p+1) D (by omega) hc;rw[Gg hx h3 h4];simp only;rw[Kf hx h3 h4] at a3 a4;refine⟨a1,a2,a3,fun i hi=>a4 i (by omega),fun i z h1 h2 hz hz3=>?_⟩
    by_cases hip:i=p
    ·subst hip;rw[hx] at hz;cases hz
     exact absurd hz3 h3
    ·exact a5 i z (by omega) h2 hz hz3
theorem Aew {m:Mc}{xs:List Ins}(h:Bh m 0 xs=0){i:Nat}{x:Ins}(hx:xs[i]? = some x)(h3:x.op=3){f:Nat}(hf:xs.length<=i+1+f):(eSt xs xs.length).2 i=(cnt xs f (i+1)).2:=by
 obtain⟨_,_,_,_,a5⟩:=Abm xs.length 0 0 (by omega) (show Bh m 0 (xs.drop 0)=0 by simpa using h);have hp:=(ils hx).1;have h1:=Abl h;have h2:=a5 i x (by omega) (by omega) hx h3;obtain⟨d,hd⟩:=Nat.exists_eq_add_of_le h1;rw[hd,Xa] at h2;rw[h2,Ob (f:=f) (g:=xs.length) hf (by omega)]
theorem Agk {m:Mc}{xs:List Ins}(h:Bh m 0 xs=0){i:Nat}{x:Ins}(hx:xs[i]? = some x)(h3:x.op=3){f:Nat}(hf:xs.length<=i+1+f):∃y,xs[(cnt xs f (i+1)).2]? = some y/\y.op=4:=by
 obtain⟨hp,ex⟩:=ils hx;have h1:=Tx h (i+1) (by omega);rw[Iw hx h3] at h1;obtain⟨a1,a2,_⟩:=Abm f (i+1) _ hf h1;cases hy:xs[(cnt xs f (i+1)).2]? with
 | none=>
  rw[List.drop_eq_nil_of_le (List.getElem?_eq_none_iff.1 hy)] at a1;simp[Bh] at a1
 | some y=>exact⟨y,rfl,a2 y hy⟩
end
section
def Bx (lanes:Int)(x:Ins):Int:=
 if x.op=2\/x.op=11 then(if x.k=6 then 3 else if x.k=14 then 8 else 1)
 else if x.op=4 then 0
 else if x.op=5\/x.op=6 then 20
 else if x.op=7\/x.op=8\/x.op=9\/x.op=10\/x.op=15\/x.op=18 then 2
 else if x.op=14 then lanes else 1
theorem Fh {lanes:Int}(h:0<=lanes/\lanes<=8)(x:Ins):0<=Bx lanes x/\Bx lanes x<=20:=by
 unfold Bx
 repeat' split
 all_goals omega
def Acl (f:Int->Int)(k v:Int):Int->Int:=fun j=>if j=k then v else f j
structure Ck where
 cyc:Int
 rd:Int->Int
def Aex (lanes:Int)(x:Ins)(s:Ck):Ck:=
 if x.op=18 then⟨max s.cyc (s.rd x.d)+Bx lanes x,Acl s.rd x.d (max s.cyc (s.rd x.d)+Bx lanes x+8+x.m)⟩
 else if x.op=19 then⟨max (s.cyc+Bx lanes x) (s.rd x.d),s.rd⟩
 else⟨s.cyc+Bx lanes x,s.rd⟩
def Aey (lanes:Int)(x:Ins)(s:Ck):Ck:=
 if x.op=18 then⟨max s.cyc (s.rd x.d)+Bx lanes x,Acl (Acl s.rd x.d 0) x.d (max s.cyc (s.rd x.d)+Bx lanes x+8+x.m)⟩
 else if x.op=19 then⟨max (s.cyc+Bx lanes x) (s.rd x.d),Acl s.rd x.d 0⟩
 else⟨s.cyc+Bx lanes x,s.rd⟩
def Hk (s:Ck):Ck:=⟨s.cyc+1,s.rd⟩
def CkB (c:Int)(s:Ck):Prop:=0<=s.cyc/\s.cyc<=c/\∀d,0<=s.rd d/\s.rd d<=c
section
variable {lanes:Int} {x:Ins} {c:Int} {s t:Ck}
theorem CkB.tick (h:CkB c s):CkB (c+5000) (Hk s):=by
 obtain⟨h1,h2,h3⟩:=h;exact⟨by simp only[Hk];omega,by simp only[Hk];omega,fun d=>by have:=h3 d;simp only[Hk];omega⟩
def CkR (s t:Ck):Prop:=s.cyc=t.cyc/\0<=s.cyc/\∀d,0<=s.rd d/\(s.rd d=t.rd d\/(t.rd d=0/\s.rd d<=s.cyc))
theorem CkR.tick (h:CkR s t):CkR (Hk s) (Hk t):=by
 obtain⟨h1,h2,h3⟩:=h;refine⟨by simp only[Hk];omega,by simp only[Hk];omega,fun d=>?_⟩
 have:=h3 d;simp only[Hk];omega
theorem CkR.step {m:Mc}(hl:0<=m.lanes/\m.lanes<=8)(hv:VI m x)(h:CkR s t):CkR (Aex m.lanes x s) (Aey m.lanes x t):=by
 obtain⟨h1,h2,h3⟩:=h;have hp:=Fh hl x;have hd:=h3 x.d;have hmax:max s.cyc (s.rd x.d)=max t.cyc (t.rd x.d):=by omega
 unfold Aex Aey;by_cases h18:x.op=18
 ·have hk:=hv.ks h18;rw[ijp h18,ijp h18,<-hmax];refine⟨rfl,by simp only;omega,fun d=>?_⟩
  have:=h3 d;simp only[Acl];by_cases hdd:d=x.d
  ·rw[ijp hdd,ijp hdd];omega
  ·rw[ijn hdd,ijn hdd,ijn hdd];omega
 rw[ijn h18,ijn h18];by_cases h19:x.op=19
 ·rw[ijp h19,ijp h19];refine⟨by simp only;omega,by simp only;omega,fun d=>?_⟩
  have:=h3 d;simp only[Acl];by_cases hdd:d=x.d
  ·subst hdd;rw[ijp rfl];omega
  ·rw[ijn hdd];omega
 ·rw[ijn h19,ijn h19];refine⟨by simp only;omega,by simp only;omega,fun d=>?_⟩
  have:=h3 d;simp only;omega
end
structure Mw (step:Ins->Ck->Ck)(xs:List Ins)(T:Ck)(f q:Nat)(s:Ck):Prop where
 fuel:xs.length<=q+f
 run:Kz step Hk xs f q s=T
 bound:∃c,CkB c s/\c+5000*(cnt xs f q).1<=1000000000000
section
variable {step:Ins->Ck->Ck} {xs:List Ins} {T:Ck} {f q:Nat} {s:Ck} {x:Ins}
theorem Mw.small (hm:Ep xs)(h:Mw step xs T f q s):CkB 1000000000000 s:=by
 obtain⟨c,⟨h1,h2,h3⟩,h4⟩:=h.bound;have:=(Gy hm f q).1;exact⟨h1,by omega,fun d=>by have:=h3 d;omega⟩
theorem Mw.end (h:Mw step xs T f q s)(hx:xs[q]? = some x)(h4:x.op=4):s=T:=by rw[<-h.run,Wz hx h4]
theorem Mw.plain (hs:∀x∈xs,∀c s,CkB c s->CkB (c+5000) (step x s))(h:Mw step xs T (f+1) q s)(hx:xs[q]? = some x)(h3:x.op≠3)(h4:x.op≠4):Mw step xs T f (q+1) (step x s):=by
 obtain⟨c,h1,h2⟩:=h.bound;refine⟨by have:=h.fuel;omega,by rw[<-h.run,Qy hx h3 h4],c+5000,hs x (ilm hx) c s h1,?_⟩
 rw[Gg hx h3 h4] at h2;simp only at h2;omega
theorem Mw.loop (hm:Ep xs)(hs:∀x∈xs,∀c s,CkB c s->CkB (c+5000) (step x s))(h:Mw step xs T (f+1) q s)(hx:xs[q]? = some x)(h3:x.op=3) :
  Mw step xs T f ((cnt xs f (q+1)).2+1) (Tv (fun s=>Kz step Hk xs f (q+1) (Hk s)) x.m.toNat (step x s)):=by
 obtain⟨c,h1,h2⟩:=h.bound
 have hb:=Lt (B:=CkB) (e:=5000*((cnt xs f (q+1)).1+1)) (f:=fun s=>Kz step Hk xs f (q+1) (Hk s)) (fun c s hb=>by
  have:=Zr (K:=5000) hm hs (fun c s hb=>hb.tick) f (q+1) _ _ (CkB.tick hb);rw[show c+5000*((cnt xs f (q+1)).1+1)=c+5000+5000*(cnt xs f (q+1)).1 by omega];exact this) x.m.toNat _ _ (hs x (ilm hx) c s h1)
 refine⟨by have:=h.fuel;have:=Qx xs f (q+1);omega,by rw[<-h.run,Tw hx h3],_,hb,?_⟩
 rw[Hj hx h3] at h2;simp only at h2;have h0:=(hm x (ilm hx) h3).1;rw[Int.toNat_of_nonneg h0,Int.mul_left_comm];generalize (cnt xs f ((cnt xs f (q+1)).2+1)).1=r at *;generalize x.m*((cnt xs f (q+1)).1+1)=v at *;omega
end
end
def w32 (n:Int):Int:=(n+2147483648) % 4294967296-2147483648
def isW (n:Int):Prop:=-2147483648<=n/\n<=2147483647
theorem Hl (n:Int):isW (w32 n):=by unfold isW w32;omega
def opS (k n m a b c:Int):Int:=
 if k=4 then w32 (a+b) else if k=5 then w32 (a-b) else if k=6 then w32 (a*b) else if k=7 then min a b else if k=8 then max a b
 else if k=9 then(if a<b then 1 else 0) else if k=10 then(if a=b then 1 else 0) else if k=11 then w32 (-a)
 else if k=12 then min (max a n) m else if k=13 then(a+2 ^ (n-1).toNat) / 2 ^ n.toNat else if k=14 then a / n
 else if a≠0 then b else c
structure Ar where
 bank:Int
 lo:Int
 size:Int
def Ar.meets (a b:Ar):Bool:=decide (a.bank=b.bank)&&(decide (a.lo<b.lo+b.size)&&decide (b.lo<a.lo+a.size))
structure Tr where
 src:Ar
 dst:Ar
 words:List Int
 ready:Int
structure MS where
 r:Int->Int
 v:Int->Int->Int
 wt:Int->Int->Int
 acc:Int->Int
 mem:Int->Int->Int
 set:Int->Int->Bool
 q:Int->Option Tr
 turns:List (Nat×Int)
 pc:Nat
 cyc:Int
 fault:Option (Nat×Int)
 over:Bool
def Be {α:Type}(f:Int->α)(k:Int)(v:α):Int->α:=fun j=>if j=k then v else f j
theorem Bt {α:Type}(f:Int->α)(k:Int)(v:α):Be f k v k=v:=ijp rfl
theorem Cw {α:Type}(f:Int->α){k j:Int}(v:α)(h:j≠k):Be f k v j=f j:=ijn h
def Bn (m:Mc)(bank:Int):Int:=if bank<0 then m.main else m.bank
def Hm (m:Mc)(a:Ar):Bool:=decide (a.lo<0)||decide (Bn m a.bank-a.size<a.lo)
def MS.words (S:MS)(a:Ar):List Int:=(List.range a.size.toNat).map fun i=>S.mem a.bank (a.lo+(i:Nat))
def MS.put (S:MS)(a:Ar)(l:List Int):MS:=
 {S with
  mem:=fun b i=>if b=a.bank/\a.lo<=i/\i<a.lo+a.size then l.getD (i-a.lo).toNat 0 else S.mem b i
  set:=fun b i=>if b=a.bank/\a.lo<=i/\i<a.lo+a.size then true else S.set b i }
def MS.wait (S:MS)(d:Int):MS:=
 match S.q d with
 | none=>S
 | some t=>{S.put t.dst t.words with cyc:=max S.cyc t.ready,q:=Be S.q d none }
def MS.waits (S:MS):Nat->MS
 | 0=>S
 | n+1=>(S.waits n).wait (n:Nat)
def Ae (m:Mc)(S:MS)(x:Ins):List Ar:=
 if x.op=5 then [⟨-1,S.r x.a+x.n,1⟩]
 else if x.op=7 then [⟨x.c,S.r x.a+x.n,1⟩]
 else if x.op=9 then [⟨x.c,S.r x.a+x.n,m.lanes⟩]
 else if x.op=14 then(List.range m.lanes.toNat).map fun i=>⟨x.c,S.r x.a+x.n+(i:Nat)*x.m,m.lanes⟩
 else if x.op=18 then(if x.k=2 then [⟨x.c,S.r x.b,x.m⟩] else [⟨-1,S.r x.a+x.n,x.m⟩])
 else []
def Ab (m:Mc)(S:MS)(x:Ins):List Ar:=
 if x.op=6 then [⟨-1,S.r x.a+x.n,1⟩]
 else if x.op=8 then [⟨x.c,S.r x.a+x.n,1⟩]
 else if x.op=10 then [⟨x.c,S.r x.a+x.n,m.lanes⟩]
 else if x.op=18 then(if x.k=2 then [⟨-1,S.r x.a+x.n,x.m⟩] else [⟨x.c,S.r x.b,x.m⟩])
 else []
def Jl (rs ws:List Ar)(t:Tr):Bool:=rs.any (fun a=>t.dst.meets a)||ws.any (fun a=>t.dst.meets a)||ws.any (fun a=>t.src.meets a)
def Gz (S:MS)(a:Ar):Bool:=decide (0<=a.bank)&&((List.range a.size.toNat).map fun i=>S.set a.bank (a.lo+(i:Nat))).contains false
def Cg (m:Mc)(S:MS)(rs ws:List Ar):Int:=
 if rs.any (Hm m)||ws.any (Hm m) then 1
 else if(List.range m.queues.toNat).any (fun i=>match S.q (i:Nat) with|none=>false|some t=>Jl rs ws t) then 3
 else if rs.any (Gz S) then 2 else 0
def Cr (S:MS)(x:Ins):Bool:=x.p != 0&&S.r (x.p-1)==0
def Hz (a w:Int->Int):Int->Nat->Int
 | s,0=>s
 | s,n+1=>w32 (Hz a w s n+w32 (a (n:Nat)*w (n:Nat)))
def Az (m:Mc)(S:MS)(x:Ins):MS:=
 let rd:=fun(k:Nat)=>S.words ((Ae m S x).getD k ⟨0,0,0⟩)
 let wr:=(Ab m S x).getD 0 ⟨0,0,0⟩
 if x.op=1 then {S with r:=Be S.r x.d x.n }
 else if x.op=2 then {S with r:=Be S.r x.d (opS x.k x.n x.m (S.r x.a) (S.r x.b) (S.r x.c)) }
 else if x.op=5\/x.op=7 then {S with r:=Be S.r x.d ((rd 0).getD 0 0) }
 else if x.op=6\/x.op=8 then S.put wr [S.r x.b]
 else if x.op=9 then {S with v:=Be S.v x.d fun k=>if 0<=k/\k<m.lanes then(rd 0).getD k.toNat 0 else S.v x.d k }
 else if x.op=10 then S.put wr ((List.range m.lanes.toNat).map fun k=>S.v x.b (k:Nat))
 else if x.op=11 then {S with v:=Be S.v x.d fun k=>if 0<=k/\k<m.lanes then opS x.k x.n x.m (S.v x.a k) (S.v x.b k) (S.v x.c k) else S.v x.d k }
 else if x.op=12 then {S with v:=Be S.v x.d fun k=>if 0<=k/\k<m.lanes then S.r x.a else S.v x.d k }
 else if x.op=13 then {S with r:=Be S.r x.d (S.v x.a x.n) }
 else if x.op=14 then {S with wt:=fun i k=>if 0<=i/\i<m.lanes/\0<=k/\k<m.lanes then(rd i.toNat).getD k.toNat 0 else S.wt i k }
 else if x.op=15 then {S with acc:=fun k=>if 0<=k/\k<m.lanes then Hz (S.v x.a) (fun j=>S.wt j k) (S.acc k) m.lanes.toNat else S.acc k }
 else if x.op=16 then {S with acc:=fun _=>0 }
 else if x.op=17 then {S with v:=Be S.v x.d S.acc }
 else if x.op=18 then {S with q:=Be S.q x.d (some ⟨(Ae m S x).getD 0 ⟨0,0,0⟩,wr,rd 0,S.cyc+Bx m.lanes x+8+x.m⟩) }
 else S
def Cz (xs:List Ins)(S:MS)(s:Nat)(i:Int)(st:List (Nat×Int))(l:Ins):MS:=
 if l.m<=i then {S with turns:=st,pc:=(cnt xs xs.length (s+1)).2+1 }
 else {S with turns:=(s,i+1) :: st,r:=Be S.r l.d (w32 (l.n+i*l.c)),cyc:=S.cyc+1,pc:=s+1 }
def De (xs:List Ins)(S:MS)(x:Ins):MS:=
 if x.op=3 then Cz xs S S.pc 0 S.turns x
 else if x.op=4 then(match S.turns with | []=>S|(s,i) :: st=>Cz xs S s i st (xs.getD s zI))
 else {S with pc:=S.pc+1 }
def Fq (m:Mc)(xs:List Ins)(S:MS):MS:=if S.pc=xs.length then {S.waits m.queues.toNat with over:=true } else S
def Gn (m:Mc)(xs:List Ins)(S:MS)(x:Ins):Bool×MS:=
 let S0:=if x.op=18 then S.wait x.d else S
 if Cr S0 x=false/\Cg m S0 (Ae m S0 x) (Ab m S0 x)≠0 then(false,{S0 with fault:=some (S.pc,Cg m S0 (Ae m S0 x) (Ab m S0 x)) })
 else
  let S1:=if Cr S0 x then S0 else Az m S0 x
  let S2:={S1 with cyc:=S1.cyc+Bx m.lanes x }
  let S3:=if x.op=19 then S2.wait x.d else S2
  (true,Fq m xs (De xs S3 x))
def Cf (m:Mc)(xs:List Ins)(S:MS):Bool×MS:=if S.over||S.fault.isSome then(false,S) else Gn m xs S (xs.getD S.pc zI)
def MS.new (main:List Int)(n:Nat):MS:=
 ⟨fun _=>0,fun _ _=>0,fun _ _=>0,fun _=>0,fun b i=>if b<0/\0<=i then main.getD i.toNat 0 else 0,fun _ _=>false,fun _=>none,[],0,0,none,n==0⟩
section
section
variable {xs:List Ins} {p:Nat} {x:Ins}
def Gh (xs:List Ins)(p:Nat):Nat:=(cnt xs xs.length p).2
theorem Is (xs:List Ins)(p f:Nat)(h:xs.length<=p+f):(cnt xs f p).2=Gh xs p:=by unfold Gh;rw[Ob (f:=f) (g:=xs.length) h (by omega)]
theorem Aez (hx:xs[p]? = some x)(h4:x.op=4):Gh xs p=p:=by unfold Gh;rw[Jj hx h4]
theorem Zu (hx:xs[p]? = some x)(h3:x.op≠3)(h4:x.op≠4):Gh xs p=Gh xs (p+1):=by
 have hp:=(ils hx).1;obtain⟨n,hn⟩:∃n,xs.length=n+1:=⟨xs.length-1,by omega⟩;rw[<-Is xs p (n+1) (by omega),Gg hx h3 h4,<-Is xs (p+1) n (by omega)]
theorem Acm (hx:xs[p]? = some x)(h3:x.op=3):Gh xs p=Gh xs (Gh xs (p+1)+1):=by
 have hp:=(ils hx).1;obtain⟨n,hn⟩:∃n,xs.length=n+1:=⟨xs.length-1,by omega⟩;have h1:=Qx xs n (p+1);rw[<-Is xs p (n+1) (by omega),Hj hx h3,<-Is xs (p+1) n (by omega),<-Is xs ((cnt xs n (p+1)).2+1) n (by omega)]
theorem Uy (xs:List Ins)(p:Nat):p<=Gh xs p:=Qx _ _ _
theorem Qh {m:Mc}(hc:Bh m 0 xs=0)(hx:xs[p]? = some x)(h3:x.op=3):∃y,xs[Gh xs (p+1)]? = some y/\y.op=4:=Agk hc hx h3 (by omega)
end
def Bz (xs:List Ins):List (Nat×Int)->Nat->Prop
 | [],p=>xs.length<=Gh xs p
 | (s,i) :: st,p=>(∃l,xs[s]? = some l/\l.op=3/\1<=i/\i<=l.m)/\s<p/\Gh xs p=Gh xs (s+1)/\Bz xs st (Gh xs (s+1)+1)
section
variable {xs:List Ins} {p:Nat} {x:Ins}
theorem Bz.moves {p':Nat}:∀{st:List (Nat×Int)},Bz xs st p->p<=p'->Gh xs p'=Gh xs p->Bz xs st p'
 | [],h,_,he=>by unfold Bz at *;rw[he];exact h
 | (s,i) :: st,h,hp,he=>by
  unfold Bz at *;obtain⟨h1,h2,h3,h4⟩:=h;exact⟨h1,by omega,by rw[he];exact h3,h4⟩
theorem Bz.start {m:Mc}(h:Bh m 0 xs=0):Bz xs [] 0:=Abl h
theorem Bz.top {st:List (Nat×Int)}(h:Bz xs st p)(hx:xs[p]? = some x)(h4:x.op=4):∃s i st' l,st=(s,i) :: st'/\xs[s]? = some l/\l.op=3/\1<=i/\i<=l.m/\s<p/\Gh xs (s+1)=p/\Bz xs st' (p+1):=by
 have he:=Aez hx h4;have hp:=(ils hx).1
 match st,h with
 | [],h=>unfold Bz at h;omega
 | (s,i) :: st',h=>
  unfold Bz at h;obtain⟨⟨l,a,b,c,d⟩,h2,h3,h5⟩:=h;rw[he] at h3;exact⟨s,i,st',l,rfl,a,b,c,d,h2,h3.symm,by rw[h3];exact h5⟩
end
theorem Zv {n a:Int}(h13:1<=n/\n<=31)(ha:isW a):isW ((a+2 ^ (n-1).toNat) / 2 ^ n.toNat):=by
 unfold isW at *;obtain⟨j,hj⟩:∃j:Nat,n=j+1:=⟨(n-1).toNat,by omega⟩;subst hj;have e1:((j:Int)+1-1).toNat=j:=by omega
 have e2:((j:Int)+1).toNat=j+1:=by omega
 rw[e1,e2,Int.pow_succ]
 have h1:(1:Int)<=2 ^ j:=by
  have:=Nat.pow_pos (n:=j) (show 0<2 by omega);have e:((2 ^ j:Nat):Int)=(2:Int) ^ j:=by simp
  omega
 generalize (2:Int) ^ j=u at *;constructor
 ·exact(Int.le_ediv_iff_mul_le (by omega)).2 (by omega)
 ·have:(a+u) / (u*2)<2147483648:=(Int.ediv_lt_iff_lt_mul (by omega)).2 (by omega);omega
theorem Xb {n a:Int}(h14:1<=n)(ha:isW a):isW (a / n):=by
 unfold isW at *;constructor
 ·exact(Int.le_ediv_iff_mul_le (by omega)).2 (by omega)
 ·have:a / n<2147483648:=(Int.ediv_lt_iff_lt_mul (by omega)).2 (by omega);omega
theorem Xc {k n m a b c:Int}(hk:4<=k/\k<=15)(hc:(k=12->n<=m)/\(k=13->1<=n/\n<=31)/\(k=14->1<=n))(hn:isW n)(hm:isW m)(ha:isW a)(hb:isW b)(hcc:isW c):isW (opS k n m a b c):=by
 have hk2:k=4\/k=5\/k=6\/k=7\/k=8\/k=9\/k=10\/k=11\/k=12\/k=13\/k=14\/k=15:=by omega
 rcases hk2 with rfl|rfl|rfl|rfl|rfl|rfl|rfl|rfl|rfl|rfl|rfl|rfl
 ·exact Hl _
 ·exact Hl _
 ·exact Hl _
 ·show isW (min a b);unfold isW at *;omega
 ·show isW (max a b);unfold isW at *;omega
 ·show isW (if a<b then 1 else 0);split<;>(unfold isW;omega)
 ·show isW (if a=b then 1 else 0);split<;>(unfold isW;omega)
 ·exact Hl _
 ·show isW (min (max a n) m);unfold isW at *;omega
 ·exact Zv (hc.2.1 rfl) ha
 ·exact Xb (hc.2.2 rfl) ha
 ·show isW (if a≠0 then b else c);split<;>assumption
theorem Oy (a w:Int->Int){s:Int}(h:isW s):∀n,isW (Hz a w s n)
 | 0=>h
 | n+1=>Hl _
def Su (m:Mc)(a:Ar):Prop:=(a.bank = -1\/(0<=a.bank/\a.bank<m.banks))/\1<=a.size/\0<=a.lo/\a.lo+a.size<=Bn m a.bank
structure TrOk (m:Mc)(t:Tr):Prop where
 src:Su m t.src
 dst:Su m t.dst
 len:(t.words.length:Int)=t.dst.size
 same:t.src.size=t.dst.size
 word:∀w∈t.words,isW w
structure WfM (m:Mc)(S:MS):Prop where
 r:∀i,isW (S.r i)
 v:∀d k,isW (S.v d k)
 wt:∀i k,isW (S.wt i k)
 acc:∀k,isW (S.acc k)
 mem:∀b i,isW (S.mem b i)
 q:∀d t,S.q d=some t->0<=d/\d<m.queues/\TrOk m t
theorem Iy:isW 0:=by unfold isW;omega
section
variable {m:Mc} {S:MS} {x:Ins}
theorem Iz (h:WfM m S)(a:Ar):∀w∈S.words a,isW w:=by
 intro w hw;unfold MS.words at hw;obtain⟨i,_,rfl⟩:=List.mem_map.1 hw;exact h.mem _ _
theorem It {l:List Int}(h:∀w∈l,isW w)(i:Nat):isW (l.getD i 0):=by
 rw[List.getD_eq_getElem?_getD];cases hl:l[i]? with
 | none=>exact Iy
 | some w=>exact h w (ilm hl)
theorem WfM.put (h:WfM m S)(a:Ar){l:List Int}(hl:∀w∈l,isW w):WfM m (S.put a l):=
 {h with mem:=fun b i=>by simp only[MS.put];split;exact It hl _;exact h.mem b i }
theorem MS.wait_none {d:Int}(h:S.q d=none):S.wait d=S:=by unfold MS.wait;rw[h]
theorem MS.wait_some {d:Int}{t:Tr}(h:S.q d=some t):S.wait d={S.put t.dst t.words with cyc:=max S.cyc t.ready,q:=Be S.q d none }:=by unfold MS.wait;rw[h]
theorem WfM.wait (h:WfM m S)(d:Int):WfM m (S.wait d):=by
 cases hq:S.q d with
 | none=>rw[MS.wait_none hq];exact h
 | some t=>
  have ht:=h.q d t hq;have h2:=h.put t.dst ht.2.2.word;rw[MS.wait_some hq];refine⟨h2.r,h2.v,h2.wt,h2.acc,h2.mem,fun d' t' hd=>?_⟩
  simp only[Be] at hd;split at hd
  ·cases hd
  ·exact h.q d' t' hd
theorem WfM.waits (h:WfM m S):∀n,WfM m (S.waits n)
 | 0=>h
 | n+1=>(WfM.waits h n).wait _
theorem WfM.frame (h:WfM m S){T:MS}(h1:T.r=S.r)(h2:T.v=S.v)(h3:T.wt=S.wt)(h4:T.acc=S.acc)(h5:T.mem=S.mem)(h6:T.q=S.q):WfM m T:=
 ⟨by rw[h1];exact h.r,by rw[h2];exact h.v,by rw[h3];exact h.wt,by rw[h4];exact h.acc,by rw[h5];exact h.mem,by rw[h6];exact h.q⟩
theorem WfM.setR (h:WfM m S){T:MS}(d:Int){w:Int}(hw:isW w)(h1:T.r=Be S.r d w)(h2:T.v=S.v)(h3:T.wt=S.wt)(h4:T.acc=S.acc)(h5:T.mem=S.mem)(h6:T.q=S.q):WfM m T:=
 ⟨fun i=>by rw[h1];unfold Be;split;exact hw;exact h.r i,by rw[h2];exact h.v,by rw[h3];exact h.wt,by rw[h4];exact h.acc,by rw[h5];exact h.mem,by rw[h6];exact h.q⟩
theorem WfM.setV (h:WfM m S){T:MS}(d:Int){f:Int->Int}(hw:∀k,isW (f k))(h1:T.r=S.r)(h2:T.v=Be S.v d f)(h3:T.wt=S.wt)(h4:T.acc=S.acc)(h5:T.mem=S.mem)(h6:T.q=S.q):WfM m T:=
 ⟨by rw[h1];exact h.r,fun i k=>by rw[h2];unfold Be;split;exact hw k;exact h.v i k,by rw[h3];exact h.wt,by rw[h4];exact h.acc,by rw[h5];exact h.mem,by rw[h6];exact h.q⟩
end
end
theorem Ae0 {x:Int}(h:1<=x/\x<=19):x=1\/x=2\/x=3\/x=4\/x=5\/x=6\/x=7\/x=8\/x=9\/x=10\/x=11\/x=12\/x=13\/x=14\/x=15\/x=16\/x=17\/x=18\/x=19:=by omega
theorem Acn (m:Mc)(x:Ins)(w:World)(h:1<=x.op/\x.op<=19) :
  Calls prog 46 #[.agg m.cells.toArray,.agg x.cells.toArray] w fun e w'=>e=.returned (.int .i64 (Bx m.lanes x))/\Ext [] w w':=by
 obtain⟨m0,m1,m2,m3,m4⟩:=m;obtain⟨o,k,d,a,b,c,p,n,mm⟩:=x;simp only[Mc.cells,Ins.cells];have hk:(k=6)\/(k=14)\/((k==6)=false/\(k==14)=false):=by simp;omega
 rcases Ae0 h with h|h|h|h|h|h|h|h|h|h|h|h|h|h|h|h|h|h|h
 all_goals
  simp only at h;subst h
 case inr.inl=>
  rcases hk with rfl|rfl|⟨h1,h2⟩
  all_goals
   go_enter func46,ntmps46
   go_wp2_with fail
   go_ret
  ·exact⟨Ai (by simp[Bx]),(er.alloc _).alloc _⟩
  ·exact⟨Ai (by simp[Bx]),(er.alloc _).alloc _⟩
  ·simp only[beq_eq_false_iff_ne] at h1 h2;exact⟨Ai (by simp[Bx,h1,h2]),(er.alloc _).alloc _⟩
 case inr.inr.inr.inr.inr.inr.inr.inr.inr.inr.inl=>
  rcases hk with rfl|rfl|⟨h1,h2⟩
  all_goals
   go_enter func46,ntmps46
   go_wp2_with fail
   go_ret
  ·exact⟨Ai (by simp[Bx]),(er.alloc _).alloc _⟩
  ·exact⟨Ai (by simp[Bx]),(er.alloc _).alloc _⟩
  ·simp only[beq_eq_false_iff_ne] at h1 h2;exact⟨Ai (by simp[Bx,h1,h2]),(er.alloc _).alloc _⟩
 all_goals
  clear hk;go_enter func46,ntmps46
  go_wp2_with fail
  go_ret
  exact⟨Ai (by simp[Bx]),(er.alloc _).alloc _⟩
theorem Nk (m:Mc)(x:Ins)(w:World)(h:1<=x.op/\x.op<=19) :
  Calls prog 52 #[.agg m.cells.toArray,.agg x.cells.toArray] w fun e w'=>e=.returned (.int .i64 (Bx m.lanes x))/\Ext [] w w':=by
 obtain⟨m0,m1,m2,m3,m4⟩:=m;obtain⟨o,k,d,a,b,c,p,n,mm⟩:=x;simp only[Mc.cells,Ins.cells];have hk:(k=6)\/(k=14)\/((k==6)=false/\(k==14)=false):=by simp;omega
 rcases Ae0 h with h|h|h|h|h|h|h|h|h|h|h|h|h|h|h|h|h|h|h
 all_goals
  simp only at h;subst h
 case inr.inl=>
  rcases hk with rfl|rfl|⟨h1,h2⟩
  all_goals
   go_enter func52,ntmps52
   go_wp2_with fail
   go_ret
  ·exact⟨Ai (by simp[Bx]),(er.alloc _).alloc _⟩
  ·exact⟨Ai (by simp[Bx]),(er.alloc _).alloc _⟩
  ·simp only[beq_eq_false_iff_ne] at h1 h2;exact⟨Ai (by simp[Bx,h1,h2]),(er.alloc _).alloc _⟩
 case inr.inr.inr.inr.inr.inr.inr.inr.inr.inr.inl=>
  rcases hk with rfl|rfl|⟨h1,h2⟩
  all_goals
   go_enter func52,ntmps52
   go_wp2_with fail
   go_ret
  ·exact⟨Ai (by simp[Bx]),(er.alloc _).alloc _⟩
  ·exact⟨Ai (by simp[Bx]),(er.alloc _).alloc _⟩
  ·simp only[beq_eq_false_iff_ne] at h1 h2;exact⟨Ai (by simp[Bx,h1,h2]),(er.alloc _).alloc _⟩
 all_goals
  clear hk;go_enter func52,ntmps52
  go_wp2_with fail
  go_ret
  exact⟨Ai (by simp[Bx]),(er.alloc _).alloc _⟩
end Go.Proofs.YtkgmhggliifkjaaGreat
