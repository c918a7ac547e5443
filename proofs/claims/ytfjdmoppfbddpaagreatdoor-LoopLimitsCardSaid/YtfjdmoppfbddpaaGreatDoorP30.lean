import Derived.Test.YtfjdmoppfbddpaaGreatDoorP29
namespace Go.Proofs.YtfjdmoppfbddpaaGreatDoor
open Go.RowKit Go.Proofs.Tryz
set_option linter.all false
def operN (op:Int):Int:=if op=15 then 3 else if 11<=op then 1 else 2
theorem operands_any (op:Int)(w:World):Calls Tryz.prog 233 #[.int .i64 op] w fun e w'=>e=.returned (.int .i64 (operN op))/\w=w':=by
 by_cases h1:op=15
 ·subst h1;go_enter Tryz.func233,Tryz.ntmps233
  go_wp2_with fail
  go_ret
  exact⟨rfl,rfl⟩
 ·have e1:(op==15)=false:=by simpa using h1
  have H1:=hd h1;clear h1;by_cases h2:11<=op
  ·have e2:decide (11<=op)=true:=by simpa using h2
   have H2:=hd h2;clear h2;go_enter Tryz.func233,Tryz.ntmps233
   go_wp2_with fail
   go_ret
   exact⟨ret_int (by unfold operN;rw[if_neg H1.o,if_pos H2.o]),rfl⟩
  ·have e2:decide (11<=op)=false:=by simpa using h2
   have H2:=hd h2;clear h2;go_enter Tryz.func233,Tryz.ntmps233
   go_wp2_with fail
   go_ret
   exact⟨ret_int (by unfold operN;rw[if_neg H1.o,if_neg (by have:=H2.o;omega)]),rfl⟩
theorem reads_any (k:Int)(w:World):Calls Tryz.prog 198 #[.int .i64 k] w fun e w'=>e=.returned (.bool (decide (k=3)||decide (k=4)))/\w=w':=by
 by_cases h1:k=3
 ·subst h1;go_enter Tryz.func198,Tryz.ntmps198
  go_wp2_with fail
  go_ret
  exact⟨rfl,rfl⟩
 ·have e1:(k==3)=false:=by simpa using h1
  go_enter Tryz.func198,Tryz.ntmps198
  go_wp2_with fail
  go_ret
  exact⟨ret_bool (by by_cases h2:k=4<;>simp[h1,h2]),rfl⟩
theorem alloc_sizeR (w:World)(o:Obj):(w.alloc o).heap.size=w.heap.size+1:=Array.size_push ..
set_option maxHeartbeats 8000000 in
set_option maxRecDepth 100000 in
theorem exprForm_1 (x1 x2 x3 x4 x5 x6 y0:Int)(y1:Option Addr)(l y2:Nat)(x8:Option Addr)(n x9:Nat)(w:World) :
  Calls Tryz.prog 192 #[.agg #[.int .i64 1,.int .i64 x1,.int .i64 x2,.int .i64 x3,.int .i64 x4,.int .i64 x5,.int .i64 x6,.int .i64 y0,.slice y1 l y2,.slice x8 n x9]] w fun e w'=>
   e=.returned (.bool (decide (x1=0)&&decide (x2=0)&&decide (x3=0)&&decide (x5=0)&&decide (x6=0)&&(decide (y0=0)&&decide (l=0))&&decide ((n:Int)=0)))/\Ext [] w w':=by
 have HE2:=hd (((Ext.refl [] w).alloc (.cells #[.int .i64 1,.int .i64 x1,.int .i64 x2,.int .i64 x3,.int .i64 x4,.int .i64 x5,.int .i64 x6,.int .i64 y0,.slice y1 l y2,.slice x8 n x9] 41)).alloc (.cells #[.int .i64 1,.int .i64 x1,.int .i64 x2,.int .i64 x3,.int .i64 x4,.int .i64 x5,.int .i64 x6,.int .i64 y0,.slice y1 l y2,.slice x8 n x9] 41));have HB1:=hd ((Blk.new w 41 #[.int .i64 1,.int .i64 x1,.int .i64 x2,.int .i64 x3,.int .i64 x4,.int .i64 x5,.int .i64 x6,.int .i64 y0,.slice y1 l y2,.slice x8 n x9]).ext ((Ext.refl [] _).alloc (.cells #[.int .i64 1,.int .i64 x1,.int .i64 x2,.int .i64 x3,.int .i64 x4,.int .i64 x5,.int .i64 x6,.int .i64 y0,.slice y1 l y2,.slice x8 n x9] 41)) (by simp));have HB3:=hd (Blk.new (w.alloc (.cells #[.int .i64 1,.int .i64 x1,.int .i64 x2,.int .i64 x3,.int .i64 x4,.int .i64 x5,.int .i64 x6,.int .i64 y0,.slice y1 l y2,.slice x8 n x9] 41)) 41 #[.int .i64 1,.int .i64 x1,.int .i64 x2,.int .i64 x3,.int .i64 x4,.int .i64 x5,.int .i64 x6,.int .i64 y0,.slice y1 l y2,.slice x8 n x9]);rw[alloc_sizeR] at HB3;go_enter Tryz.func192,Tryz.ntmps192
 go_upto_region 2 with fail
 generalize World.alloc (World.alloc w _) _=w2 at *;generalize hs:w.heap.size=s at *;have q1:=HB1.o.cell;have q1l:=HB1.o.lt;have q3:=HB3.o.cell;have q3f:=HB3.o.frozen;have q3l:=HB3.o.lt;go_upto_region 21 with fail
 have HB4:=hd (HB3.o.set_' 4 (.int .i64 0) #[.int .i64 1,.int .i64 x1,.int .i64 x2,.int .i64 x3,.int .i64 0,.int .i64 x5,.int .i64 x6,.int .i64 y0,.slice y1 l y2,.slice x8 n x9] rfl);have HE4:=hd (Ext.setAt (b:=s+1) (i:=4) (u:=.int .i64 0) (.inl (by simp)) (Ext.refl [s+1] w2));have HEW:=hd (HE2.o.nil.step HE4.o fun x hx=>.inr (by rw[List.mem_singleton.1 hx];omega):Ext [] w _);have HB5:=hd (HB1.o.ext HE4.o (fun hm=>by rw[List.mem_singleton] at hm;omega));generalize (w2.setCell ⟨s+1,4,none⟩ (.int .i64 0))=w4 at *;clear q1 q1l q3 q3f q3l HB1 HB3 HE2 HE4;have q3:=HB4.o.cell;have q3l:=HB4.o.lt;have q1:=HB5.o.cell;have q1l:=HB5.o.lt;by_cases h_x1:x1=0
 case neg=>
  have e_x1:(x1==0)=false:=by simpa using h_x1
  have H_x1:=hd h_x1;clear h_x1;go_wp2_with fail
  go_ret
  exact⟨ret_bool (by have:=H_x1.o;simp[this]),HEW.o⟩
 have e_x1:(x1==0)=true:=by simpa using h_x1
 have H_x1:=hd h_x1;clear h_x1;by_cases h_x2:x2=0
 case neg=>
  have e_x2:(x2==0)=false:=by simpa using h_x2
  have H_x2:=hd h_x2;clear h_x2;go_wp2_with fail
  go_ret
  exact⟨ret_bool (by have:=H_x2.o;simp[this]),HEW.o⟩
 have e_x2:(x2==0)=true:=by simpa using h_x2
 have H_x2:=hd h_x2;clear h_x2;by_cases h_x3:x3=0
 case neg=>
  have e_x3:(x3==0)=false:=by simpa using h_x3
  have H_x3:=hd h_x3;clear h_x3;go_wp2_with fail
  go_ret
  exact⟨ret_bool (by have:=H_x3.o;simp[this]),HEW.o⟩
 have e_x3:(x3==0)=true:=by simpa using h_x3
 have H_x3:=hd h_x3;clear h_x3;by_cases h_x5:x5=0
 case neg=>
  have e_x5:(x5==0)=false:=by simpa using h_x5
  have H_x5:=hd h_x5;clear h_x5;go_wp2_with fail
  go_ret
  exact⟨ret_bool (by have:=H_x5.o;simp[this]),HEW.o⟩
 have e_x5:(x5==0)=true:=by simpa using h_x5
 have H_x5:=hd h_x5;clear h_x5;by_cases h_x6:x6=0
 case neg=>
  have e_x6:(x6==0)=false:=by simpa using h_x6
  have H_x6:=hd h_x6;clear h_x6;go_wp2_with fail
  go_ret
  exact⟨ret_bool (by have:=H_x6.o;simp[this]),HEW.o⟩
 have e_x6:(x6==0)=true:=by simpa using h_x6
 have H_x6:=hd h_x6;clear h_x6;go_wp2_with fail
 refine(zeroAffineR_any _ _ _ _ _).mono ?_
 rintro e w5 ⟨rfl,hE⟩;have HE5:=hd (HEW.o.trans hE);have q5:=(HB5.o.ext hE (by simp)).cell;have q5l:=(HB5.o.ext hE (by simp)).lt;clear hE;have e9:((n:Int)==0)=decide ((n:Int)=0):=by rw[Bool.eq_iff_iff];simp
 cases hz:(decide (y0=0)&&decide (l=0))
 ·have HZ:=hd hz;clear hz;go_wp2_with fail
  go_ret
  exact⟨ret_bool (by have hz:=HZ.o;simp at hz⊢;try simp_all),HE5.o⟩
 ·have HZ:=hd hz;clear hz;go_wp2_with fail
  go_ret
  exact⟨ret_bool (by have hz:=HZ.o;simp[H_x1.o,H_x2.o,H_x3.o,H_x5.o,H_x6.o] at hz⊢;try simp_all),HE5.o⟩
set_option maxHeartbeats 8000000 in
set_option maxRecDepth 100000 in
theorem exprForm_2 (x1 x2 x3 x4 x5 x6 y0:Int)(y1:Option Addr)(l y2:Nat)(x8:Option Addr)(n x9:Nat)(w:World) :
  Calls Tryz.prog 192 #[.agg #[.int .i64 2,.int .i64 x1,.int .i64 x2,.int .i64 x3,.int .i64 x4,.int .i64 x5,.int .i64 x6,.int .i64 y0,.slice y1 l y2,.slice x8 n x9]] w fun e w'=>
   e=.returned (.bool (decide (x1=0)&&decide (x2=0)&&decide (x3=0)&&decide (x4=0)&&decide (x5=0)&&decide (x6=0)&&(decide (0=0)&&decide (0=0))&&decide ((n:Int)=0)))/\Ext [] w w':=by
 have HE2:=hd (((Ext.refl [] w).alloc (.cells #[.int .i64 2,.int .i64 x1,.int .i64 x2,.int .i64 x3,.int .i64 x4,.int .i64 x5,.int .i64 x6,.int .i64 y0,.slice y1 l y2,.slice x8 n x9] 41)).alloc (.cells #[.int .i64 2,.int .i64 x1,.int .i64 x2,.int .i64 x3,.int .i64 x4,.int .i64 x5,.int .i64 x6,.int .i64 y0,.slice y1 l y2,.slice x8 n x9] 41));have HB1:=hd ((Blk.new w 41 #[.int .i64 2,.int .i64 x1,.int .i64 x2,.int .i64 x3,.int .i64 x4,.int .i64 x5,.int .i64 x6,.int .i64 y0,.slice y1 l y2,.slice x8 n x9]).ext ((Ext.refl [] _).alloc (.cells #[.int .i64 2,.int .i64 x1,.int .i64 x2,.int .i64 x3,.int .i64 x4,.int .i64 x5,.int .i64 x6,.int .i64 y0,.slice y1 l y2,.slice x8 n x9] 41)) (by simp));have HB3:=hd (Blk.new (w.alloc (.cells #[.int .i64 2,.int .i64 x1,.int .i64 x2,.int .i64 x3,.int .i64 x4,.int .i64 x5,.int .i64 x6,.int .i64 y0,.slice y1 l y2,.slice x8 n x9] 41)) 41 #[.int .i64 2,.int .i64 x1,.int .i64 x2,.int .i64 x3,.int .i64 x4,.int .i64 x5,.int .i64 x6,.int .i64 y0,.slice y1 l y2,.slice x8 n x9]);rw[alloc_sizeR] at HB3;go_enter Tryz.func192,Tryz.ntmps192
 go_upto_region 2 with fail
 generalize World.alloc (World.alloc w _) _=w2 at *;generalize hs:w.heap.size=s at *;have q1:=HB1.o.cell;have q1l:=HB1.o.lt;have q3:=HB3.o.cell;have q3f:=HB3.o.frozen;have q3l:=HB3.o.lt;go_upto_region 21 with fail
 have HB4:=hd ((HB3.o.set_' 7 (.int .i64 0) #[.int .i64 2,.int .i64 x1,.int .i64 x2,.int .i64 x3,.int .i64 x4,.int .i64 x5,.int .i64 x6,.int .i64 0,.slice y1 l y2,.slice x8 n x9] rfl).set_' 8 (.slice none 0 0) #[.int .i64 2,.int .i64 x1,.int .i64 x2,.int .i64 x3,.int .i64 x4,.int .i64 x5,.int .i64 x6,.int .i64 0,.slice none 0 0,.slice x8 n x9] rfl);have HE4:=hd (Ext.setAt (b:=s+1) (i:=8) (u:=.slice none 0 0) (.inl (by simp)) (Ext.setAt (b:=s+1) (i:=7) (u:=.int .i64 0) (.inl (by simp)) (Ext.refl [s+1] w2)));have HEW:=hd (HE2.o.nil.step HE4.o fun x hx=>.inr (by rw[List.mem_singleton.1 hx];omega):Ext [] w _);have HB5:=hd (HB1.o.ext HE4.o (fun hm=>by rw[List.mem_singleton] at hm;omega));generalize ((w2.setCell ⟨s+1,7,none⟩ (.int .i64 0)).setCell ⟨s+1,8,none⟩ (.slice none 0 0))=w4 at *;clear q1 q1l q3 q3f q3l HB1 HB3 HE2 HE4;have q3:=HB4.o.cell;have q3l:=HB4.o.lt;have q1:=HB5.o.cell;have q1l:=HB5.o.lt;by_cases h_x1:x1=0
 case neg=>
  have e_x1:(x1==0)=false:=by simpa using h_x1
  have H_x1:=hd h_x1;clear h_x1;go_wp2_with fail
  go_ret
  exact⟨ret_bool (by have:=H_x1.o;simp[this]),HEW.o⟩
 have e_x1:(x1==0)=true:=by simpa using h_x1
 have H_x1:=hd h_x1;clear h_x1;by_cases h_x2:x2=0
 case neg=>
  have e_x2:(x2==0)=false:=by simpa using h_x2
  have H_x2:=hd h_x2;clear h_x2;go_wp2_with fail
  go_ret
  exact⟨ret_bool (by have:=H_x2.o;simp[this]),HEW.o⟩
 have e_x2:(x2==0)=true:=by simpa using h_x2
 have H_x2:=hd h_x2;clear h_x2;by_cases h_x3:x3=0
 case neg=>
  have e_x3:(x3==0)=false:=by simpa using h_x3
  have H_x3:=hd h_x3;clear h_x3;go_wp2_with fail
  go_ret
  exact⟨ret_bool (by have:=H_x3.o;simp[this]),HEW.o⟩
 have e_x3:(x3==0)=true:=by simpa using h_x3
 have H_x3:=hd h_x3;clear h_x3;by_cases h_x4:x4=0
 case neg=>
  have e_x4:(x4==0)=false:=by simpa using h_x4
  have H_x4:=hd h_x4;clear h_x4;go_wp2_with fail
  go_ret
  exact⟨ret_bool (by have:=H_x4.o;simp[this]),HEW.o⟩
 have e_x4:(x4==0)=true:=by simpa using h_x4
 have H_x4:=hd h_x4;clear h_x4;by_cases h_x5:x5=0
 case neg=>
  have e_x5:(x5==0)=false:=by simpa using h_x5
  have H_x5:=hd h_x5;clear h_x5;go_wp2_with fail
  go_ret
  exact⟨ret_bool (by have:=H_x5.o;simp[this]),HEW.o⟩
 have e_x5:(x5==0)=true:=by simpa using h_x5
 have H_x5:=hd h_x5;clear h_x5;by_cases h_x6:x6=0
 case neg=>
  have e_x6:(x6==0)=false:=by simpa using h_x6
  have H_x6:=hd h_x6;clear h_x6;go_wp2_with fail
  go_ret
  exact⟨ret_bool (by have:=H_x6.o;simp[this]),HEW.o⟩
 have e_x6:(x6==0)=true:=by simpa using h_x6
 have H_x6:=hd h_x6;clear h_x6;go_wp2_with fail
 refine(zeroAffineR_any _ _ _ _ _).mono ?_
 rintro e w5 ⟨rfl,hE⟩;have HE5:=hd (HEW.o.trans hE);have q5:=(HB5.o.ext hE (by simp)).cell;have q5l:=(HB5.o.ext hE (by simp)).lt;clear hE;have e9:((n:Int)==0)=decide ((n:Int)=0):=by rw[Bool.eq_iff_iff];simp
 cases hz:(decide (0=0)&&decide ((0:Nat)=0))
 ·have HZ:=hd hz;clear hz;go_wp2_with fail
  go_ret
  exact⟨ret_bool (by have hz:=HZ.o;simp at hz⊢;try simp_all),HE5.o⟩
 ·have HZ:=hd hz;clear hz;go_wp2_with fail
  go_ret
  exact⟨ret_bool (by have hz:=HZ.o;simp[H_x1.o,H_x2.o,H_x3.o,H_x4.o,H_x5.o,H_x6.o] at hz⊢;try simp_all),HE5.o⟩
set_option maxHeartbeats 8000000 in
set_option maxRecDepth 100000 in
theorem exprForm_3 (x1 x2 x3 x4 x5 x6 y0:Int)(y1:Option Addr)(l y2:Nat)(x8:Option Addr)(n x9:Nat)(w:World) :
  Calls Tryz.prog 192 #[.agg #[.int .i64 3,.int .i64 x1,.int .i64 x2,.int .i64 x3,.int .i64 x4,.int .i64 x5,.int .i64 x6,.int .i64 y0,.slice y1 l y2,.slice x8 n x9]] w fun e w'=>
   e=.returned (.bool (decide (x1=0)&&decide (x2=0)&&decide (x3=0)&&decide (x4=0)&&decide (x5=0)&&(decide (0=0)&&decide (0=0))&&decide ((n:Int)=0)))/\Ext [] w w':=by
 have HE2:=hd (((Ext.refl [] w).alloc (.cells #[.int .i64 3,.int .i64 x1,.int .i64 x2,.int .i64 x3,.int .i64 x4,.int .i64 x5,.int .i64 x6,.int .i64 y0,.slice y1 l y2,.slice x8 n x9] 41)).alloc (.cells #[.int .i64 3,.int .i64 x1,.int .i64 x2,.int .i64 x3,.int .i64 x4,.int .i64 x5,.int .i64 x6,.int .i64 y0,.slice y1 l y2,.slice x8 n x9] 41));have HB1:=hd ((Blk.new w 41 #[.int .i64 3,.int .i64 x1,.int .i64 x2,.int .i64 x3,.int .i64 x4,.int .i64 x5,.int .i64 x6,.int .i64 y0,.slice y1 l y2,.slice x8 n x9]).ext ((Ext.refl [] _).alloc (.cells #[.int .i64 3,.int .i64 x1,.int .i64 x2,.int .i64 x3,.int .i64 x4,.int .i64 x5,.int .i64 x6,.int .i64 y0,.slice y1 l y2,.slice x8 n x9] 41)) (by simp));have HB3:=hd (Blk.new (w.alloc (.cells #[.int .i64 3,.int .i64 x1,.int .i64 x2,.int .i64 x3,.int .i64 x4,.int .i64 x5,.int .i64 x6,.int .i64 y0,.slice y1 l y2,.slice x8 n x9] 41)) 41 #[.int .i64 3,.int .i64 x1,.int .i64 x2,.int .i64 x3,.int .i64 x4,.int .i64 x5,.int .i64 x6,.int .i64 y0,.slice y1 l y2,.slice x8 n x9]);rw[alloc_sizeR] at HB3;go_enter Tryz.func192,Tryz.ntmps192
 go_upto_region 2 with fail
 generalize World.alloc (World.alloc w _) _=w2 at *;generalize hs:w.heap.size=s at *;have q1:=HB1.o.cell;have q1l:=HB1.o.lt;have q3:=HB3.o.cell;have q3f:=HB3.o.frozen;have q3l:=HB3.o.lt;go_upto_region 21 with fail
 have HB4:=hd (((HB3.o.set_' 7 (.int .i64 0) #[.int .i64 3,.int .i64 x1,.int .i64 x2,.int .i64 x3,.int .i64 x4,.int .i64 x5,.int .i64 x6,.int .i64 0,.slice y1 l y2,.slice x8 n x9] rfl).set_' 8 (.slice none 0 0) #[.int .i64 3,.int .i64 x1,.int .i64 x2,.int .i64 x3,.int .i64 x4,.int .i64 x5,.int .i64 x6,.int .i64 0,.slice none 0 0,.slice x8 n x9] rfl).set_' 6 (.int .i64 0) #[.int .i64 3,.int .i64 x1,.int .i64 x2,.int .i64 x3,.int .i64 x4,.int .i64 x5,.int .i64 0,.int .i64 0,.slice none 0 0,.slice x8 n x9] rfl);have HE4:=hd (Ext.setAt (b:=s+1) (i:=6) (u:=.int .i64 0) (.inl (by simp)) (Ext.setAt (b:=s+1) (i:=8) (u:=.slice none 0 0) (.inl (by simp)) (Ext.setAt (b:=s+1) (i:=7) (u:=.int .i64 0) (.inl (by simp)) (Ext.refl [s+1] w2))));have HEW:=hd (HE2.o.nil.step HE4.o fun x hx=>.inr (by rw[List.mem_singleton.1 hx];omega):Ext [] w _);have HB5:=hd (HB1.o.ext HE4.o (fun hm=>by rw[List.mem_singleton] at hm;omega));generalize (((w2.setCell ⟨s+1,7,none⟩ (.int .i64 0)).setCell ⟨s+1,8,none⟩ (.slice none 0 0)).setCell ⟨s+1,6,none⟩ (.int .i64 0))=w4 at *;clear q1 q1l q3 q3f q3l HB1 HB3 HE2 HE4;have q3:=HB4.o.cell;have q3l:=HB4.o.lt;have q1:=HB5.o.cell;have q1l:=HB5.o.lt;by_cases h_x1:x1=0
 case neg=>
  have e_x1:(x1==0)=false:=by simpa using h_x1
  have H_x1:=hd h_x1;clear h_x1;go_wp2_with fail
  go_ret
  exact⟨ret_bool (by have:=H_x1.o;simp[this]),HEW.o⟩
 have e_x1:(x1==0)=true:=by simpa using h_x1
 have H_x1:=hd h_x1;clear h_x1;by_cases h_x2:x2=0
 case neg=>
  have e_x2:(x2==0)=false:=by simpa using h_x2
  have H_x2:=hd h_x2;clear h_x2;go_wp2_with fail
  go_ret
  exact⟨ret_bool (by have:=H_x2.o;simp[this]),HEW.o⟩
 have e_x2:(x2==0)=true:=by simpa using h_x2
 have H_x2:=hd h_x2;clear h_x2;by_cases h_x3:x3=0
 case neg=>
  have e_x3:(x3==0)=false:=by simpa using h_x3
  have H_x3:=hd h_x3;clear h_x3;go_wp2_with fail
  go_ret
  exact⟨ret_bool (by have:=H_x3.o;simp[this]),HEW.o⟩
 have e_x3:(x3==0)=true:=by simpa using h_x3
 have H_x3:=hd h_x3;clear h_x3;by_cases h_x4:x4=0
 case neg=>
  have e_x4:(x4==0)=false:=by simpa using h_x4
  have H_x4:=hd h_x4;clear h_x4;go_wp2_with fail
  go_ret
  exact⟨ret_bool (by have:=H_x4.o;simp[this]),HEW.o⟩
 have e_x4:(x4==0)=true:=by simpa using h_x4
 have H_x4:=hd h_x4;clear h_x4;by_cases h_x5:x5=0
 case neg=>
  have e_x5:(x5==0)=false:=by simpa using h_x5
  have H_x5:=hd h_x5;clear h_x5;go_wp2_with fail
  go_ret
  exact⟨ret_bool (by have:=H_x5.o;simp[this]),HEW.o⟩
 have e_x5:(x5==0)=true:=by simpa using h_x5
 have H_x5:=hd h_x5;clear h_x5;go_wp2_with fail
 refine(zeroAffineR_any _ _ _ _ _).mono ?_
 rintro e w5 ⟨rfl,hE⟩;have HE5:=hd (HEW.o.trans hE);have q5:=(HB5.o.ext hE (by simp)).cell;have q5l:=(HB5.o.ext hE (by simp)).lt;clear hE;have e9:((n:Int)==0)=decide ((n:Int)=0):=by rw[Bool.eq_iff_iff];simp
 cases hz:(decide (0=0)&&decide ((0:Nat)=0))
 ·have HZ:=hd hz;clear hz;go_wp2_with fail
  go_ret
  exact⟨ret_bool (by have hz:=HZ.o;simp at hz⊢;try simp_all),HE5.o⟩
 ·have HZ:=hd hz;clear hz;go_wp2_with fail
  go_ret
  exact⟨ret_bool (by have hz:=HZ.o;simp[H_x1.o,H_x2.o,H_x3.o,H_x4.o,H_x5.o] at hz⊢;try simp_all),HE5.o⟩
set_option maxHeartbeats 8000000 in
set_option maxRecDepth 100000 in
theorem exprForm_4 (x1 x2 x3 x4 x5 x6 y0:Int)(y1:Option Addr)(l y2:Nat)(x8:Option Addr)(n x9:Nat)(w:World) :
  Calls Tryz.prog 192 #[.agg #[.int .i64 4,.int .i64 x1,.int .i64 x2,.int .i64 x3,.int .i64 x4,.int .i64 x5,.int .i64 x6,.int .i64 y0,.slice y1 l y2,.slice x8 n x9]] w fun e w'=>
   e=.returned (.bool (decide (x1=0)&&decide (x3=0)&&(decide (0=0)&&decide (0=0))&&decide ((n:Int)=1)))/\Ext [] w w':=by
 have HE2:=hd (((Ext.refl [] w).alloc (.cells #[.int .i64 4,.int .i64 x1,.int .i64 x2,.int .i64 x3,.int .i64 x4,.int .i64 x5,.int .i64 x6,.int .i64 y0,.slice y1 l y2,.slice x8 n x9] 41)).alloc (.cells #[.int .i64 4,.int .i64 x1,.int .i64 x2,.int .i64 x3,.int .i64 x4,.int .i64 x5,.int .i64 x6,.int .i64 y0,.slice y1 l y2,.slice x8 n x9] 41));have HB1:=hd ((Blk.new w 41 #[.int .i64 4,.int .i64 x1,.int .i64 x2,.int .i64 x3,.int .i64 x4,.int .i64 x5,.int .i64 x6,.int .i64 y0,.slice y1 l y2,.slice x8 n x9]).ext ((Ext.refl [] _).alloc (.cells #[.int .i64 4,.int .i64 x1,.int .i64 x2,.int .i64 x3,.int .i64 x4,.int .i64 x5,.int .i64 x6,.int .i64 y0,.slice y1 l y2,.slice x8 n x9] 41)) (by simp));have HB3:=hd (Blk.new (w.alloc (.cells #[.int .i64 4,.int .i64 x1,.int .i64 x2,.int .i64 x3,.int .i64 x4,.int .i64 x5,.int .i64 x6,.int .i64 y0,.slice y1 l y2,.slice x8 n x9] 41)) 41 #[.int .i64 4,.int .i64 x1,.int .i64 x2,.int .i64 x3,.int .i64 x4,.int .i64 x5,.int .i64 x6,.int .i64 y0,.slice y1 l y2,.slice x8 n x9]);rw[alloc_sizeR] at HB3;go_enter Tryz.func192,Tryz.ntmps192
 go_upto_region 2 with fail
 generalize World.alloc (World.alloc w _) _=w2 at *;generalize hs:w.heap.size=s at *;have q1:=HB1.o.cell;have q1l:=HB1.o.lt;have q3:=HB3.o.cell;have q3f:=HB3.o.frozen;have q3l:=HB3.o.lt;go_upto_region 21 with fail
 have HB4:=hd ((((((HB3.o.set_' 7 (.int .i64 0) #[.int .i64 4,.int .i64 x1,.int .i64 x2,.int .i64 x3,.int .i64 x4,.int .i64 x5,.int .i64 x6,.int .i64 0,.slice y1 l y2,.slice x8 n x9] rfl).set_' 8 (.slice none 0 0) #[.int .i64 4,.int .i64 x1,.int .i64 x2,.int .i64 x3,.int .i64 x4,.int .i64 x5,.int .i64 x6,.int .i64 0,.slice none 0 0,.slice x8 n x9] rfl).set_' 6 (.int .i64 0) #[.int .i64 4,.int .i64 x1,.int .i64 x2,.int .i64 x3,.int .i64 x4,.int .i64 x5,.int .i64 0,.int .i64 0,.slice none 0 0,.slice x8 n x9] rfl).set_' 2 (.int .i64 0) #[.int .i64 4,.int .i64 x1,.int .i64 0,.int .i64 x3,.int .i64 x4,.int .i64 x5,.int .i64 0,.int .i64 0,.slice none 0 0,.slice x8 n x9] rfl).set_' 4 (.int .i64 0) #[.int .i64 4,.int .i64 x1,.int .i64 0,.int .i64 x3,.int .i64 0,.int .i64 x5,.int .i64 0,.int .i64 0,.slice none 0 0,.slice x8 n x9] rfl).set_' 5 (.int .i64 0) #[.int .i64 4,.int .i64 x1,.int .i64 0,.int .i64 x3,.int .i64 0,.int .i64 0,.int .i64 0,.int .i64 0,.slice none 0 0,.slice x8 n x9] rfl);have HE4:=hd (Ext.setAt (b:=s+1) (i:=5) (u:=.int .i64 0) (.inl (by simp)) (Ext.setAt (b:=s+1) (i:=4) (u:=.int .i64 0) (.inl (by simp)) (Ext.setAt (b:=s+1) (i:=2) (u:=.int .i64 0) (.inl (by simp)) (Ext.setAt (b:=s+1) (i:=6) (u:=.int .i64 0) (.inl (by simp)) (Ext.setAt (b:=s+1) (i:=8) (u:=.slice none 0 0) (.inl (by simp)) (Ext.setAt (b:=s+1) (i:=7) (u:=.int .i64 0) (.inl (by simp)) (Ext.refl [s+1] w2)))))));have HEW:=hd (HE2.o.nil.step HE4.o fun x hx=>.inr (by rw[List.mem_singleton.1 hx];omega):Ext [] w _);have HB5:=hd (HB1.o.ext HE4.o (fun hm=>by rw[List.mem_singleton] at hm;omega));generalize ((((((w2.setCell ⟨s+1,7,none⟩ (.int .i64 0)).setCell ⟨s+1,8,none⟩ (.slice none 0 0)).setCell ⟨s+1,6,none⟩ (.int .i64 0)).setCell ⟨s+1,2,none⟩ (.int .i64 0)).setCell ⟨s+1,4,none⟩ (.int .i64 0)).setCell ⟨s+1,5,none⟩ (.int .i64 0))=w4 at *;clear q1 q1l q3 q3f q3l HB1 HB3 HE2 HE4;have q3:=HB4.o.cell;have q3l:=HB4.o.lt;have q1:=HB5.o.cell;have q1l:=HB5.o.lt;by_cases h_x1:x1=0
 case neg=>
  have e_x1:(x1==0)=false:=by simpa using h_x1
  have H_x1:=hd h_x1;clear h_x1;go_wp2_with fail
  go_ret
  exact⟨ret_bool (by have:=H_x1.o;simp[this]),HEW.o⟩
 have e_x1:(x1==0)=true:=by simpa using h_x1
 have H_x1:=hd h_x1;clear h_x1;by_cases h_x3:x3=0
 case neg=>
  have e_x3:(x3==0)=false:=by simpa using h_x3
  have H_x3:=hd h_x3;clear h_x3;go_wp2_with fail
  go_ret
  exact⟨ret_bool (by have:=H_x3.o;simp[this]),HEW.o⟩
 have e_x3:(x3==0)=true:=by simpa using h_x3
 have H_x3:=hd h_x3;clear h_x3;go_wp2_with fail
 refine(zeroAffineR_any _ _ _ _ _).mono ?_
 rintro e w5 ⟨rfl,hE⟩;have HE5:=hd (HEW.o.trans hE);have q5:=(HB5.o.ext hE (by simp)).cell;have q5l:=(HB5.o.ext hE (by simp)).lt;clear hE;have e9:((n:Int)==1)=decide ((n:Int)=1):=by rw[Bool.eq_iff_iff];simp
 cases hz:(decide (0=0)&&decide ((0:Nat)=0))
 ·have HZ:=hd hz;clear hz;go_wp2_with fail
  go_ret
  exact⟨ret_bool (by have hz:=HZ.o;simp at hz⊢;try simp_all),HE5.o⟩
 ·have HZ:=hd hz;clear hz;go_wp2_with fail
  go_ret
  exact⟨ret_bool (by have hz:=HZ.o;simp[H_x1.o,H_x3.o] at hz⊢;try simp_all),HE5.o⟩
set_option maxHeartbeats 8000000 in
set_option maxRecDepth 100000 in
theorem exprForm_512 (x2 x3 x4 x5 x6 y0:Int)(y1:Option Addr)(l y2:Nat)(x8:Option Addr)(n x9:Nat)(w:World) :
  Calls Tryz.prog 192 #[.agg #[.int .i64 5,.int .i64 12,.int .i64 x2,.int .i64 x3,.int .i64 x4,.int .i64 x5,.int .i64 x6,.int .i64 y0,.slice y1 l y2,.slice x8 n x9]] w fun e w'=>
   e=.returned (.bool (decide (x4=0)&&decide (x5=0)&&decide (x6=0)&&(decide (y0=0)&&decide (l=0))&&decide ((n:Int)=1)))/\Ext [] w w':=by
 have HE2:=hd (((Ext.refl [] w).alloc (.cells #[.int .i64 5,.int .i64 12,.int .i64 x2,.int .i64 x3,.int .i64 x4,.int .i64 x5,.int .i64 x6,.int .i64 y0,.slice y1 l y2,.slice x8 n x9] 41)).alloc (.cells #[.int .i64 5,.int .i64 12,.int .i64 x2,.int .i64 x3,.int .i64 x4,.int .i64 x5,.int .i64 x6,.int .i64 y0,.slice y1 l y2,.slice x8 n x9] 41));have HB1:=hd ((Blk.new w 41 #[.int .i64 5,.int .i64 12,.int .i64 x2,.int .i64 x3,.int .i64 x4,.int .i64 x5,.int .i64 x6,.int .i64 y0,.slice y1 l y2,.slice x8 n x9]).ext ((Ext.refl [] _).alloc (.cells #[.int .i64 5,.int .i64 12,.int .i64 x2,.int .i64 x3,.int .i64 x4,.int .i64 x5,.int .i64 x6,.int .i64 y0,.slice y1 l y2,.slice x8 n x9] 41)) (by simp));have HB3:=hd (Blk.new (w.alloc (.cells #[.int .i64 5,.int .i64 12,.int .i64 x2,.int .i64 x3,.int .i64 x4,.int .i64 x5,.int .i64 x6,.int .i64 y0,.slice y1 l y2,.slice x8 n x9] 41)) 41 #[.int .i64 5,.int .i64 12,.int .i64 x2,.int .i64 x3,.int .i64 x4,.int .i64 x5,.int .i64 x6,.int .i64 y0,.slice y1 l y2,.slice x8 n x9]);rw[alloc_sizeR] at HB3;go_enter Tryz.func192,Tryz.ntmps192
 go_upto_region 2 with fail
 generalize World.alloc (World.alloc w _) _=w2 at *;generalize hs:w.heap.size=s at *;have q1:=HB1.o.cell;have q1l:=HB1.o.lt;have q3:=HB3.o.cell;have q3f:=HB3.o.frozen;have q3l:=HB3.o.lt;go_upto_region 4 with fail
 go_wp2_with fail
 refine(operands_any (12) w2).mono ?_
 rintro e w' ⟨rfl,rfl⟩;rw[show operN 12=1 from rfl];go_upto_region 21 with fail
 have HB4:=hd (((HB3.o.set_' 2 (.int .i64 0) #[.int .i64 5,.int .i64 12,.int .i64 0,.int .i64 x3,.int .i64 x4,.int .i64 x5,.int .i64 x6,.int .i64 y0,.slice y1 l y2,.slice x8 n x9] rfl).set_' 3 (.int .i64 0) #[.int .i64 5,.int .i64 12,.int .i64 0,.int .i64 0,.int .i64 x4,.int .i64 x5,.int .i64 x6,.int .i64 y0,.slice y1 l y2,.slice x8 n x9] rfl).set_' 1 (.int .i64 0) #[.int .i64 5,.int .i64 0,.int .i64 0,.int .i64 0,.int .i64 x4,.int .i64 x5,.int .i64 x6,.int .i64 y0,.slice y1 l y2,.slice x8 n x9] rfl);have HE4:=hd (Ext.setAt (b:=s+1) (i:=1) (u:=.int .i64 0) (.inl (by simp)) (Ext.setAt (b:=s+1) (i:=3) (u:=.int .i64 0) (.inl (by simp)) (Ext.setAt (b:=s+1) (i:=2) (u:=.int .i64 0) (.inl (by simp)) (Ext.refl [s+1] w2))));have HEW:=hd (HE2.o.nil.step HE4.o fun x hx=>.inr (by rw[List.mem_singleton.1 hx];omega):Ext [] w _);have HB5:=hd (HB1.o.ext HE4.o (fun hm=>by rw[List.mem_singleton] at hm;omega));generalize (((w2.setCell ⟨s+1,2,none⟩ (.int .i64 0)).setCell ⟨s+1,3,none⟩ (.int .i64 0)).setCell ⟨s+1,1,none⟩ (.int .i64 0))=w4 at *;clear q1 q1l q3 q3f q3l HB1 HB3 HE2 HE4;have q3:=HB4.o.cell;have q3l:=HB4.o.lt;have q1:=HB5.o.cell;have q1l:=HB5.o.lt;by_cases h_x4:x4=0
 case neg=>
  have e_x4:(x4==0)=false:=by simpa using h_x4
  have H_x4:=hd h_x4;clear h_x4;go_wp2_with fail
  go_ret
  exact⟨ret_bool (by have:=H_x4.o;simp[this]),HEW.o⟩
 have e_x4:(x4==0)=true:=by simpa using h_x4
 have H_x4:=hd h_x4;clear h_x4;by_cases h_x5:x5=0
 case neg=>
  have e_x5:(x5==0)=false:=by simpa using h_x5
  have H_x5:=hd h_x5;clear h_x5;go_wp2_with fail
  go_ret
  exact⟨ret_bool (by have:=H_x5.o;simp[this]),HEW.o⟩
 have e_x5:(x5==0)=true:=by simpa using h_x5
 have H_x5:=hd h_x5;clear h_x5;by_cases h_x6:x6=0
 case neg=>
  have e_x6:(x6==0)=false:=by simpa using h_x6
  have H_x6:=hd h_x6;clear h_x6;go_wp2_with fail
  go_ret
  exact⟨ret_bool (by have:=H_x6.o;simp[this]),HEW.o⟩
 have e_x6:(x6==0)=true:=by simpa using h_x6
 have H_x6:=hd h_x6;clear h_x6;go_wp2_with fail
 refine(zeroAffineR_any _ _ _ _ _).mono ?_
 rintro e w5 ⟨rfl,hE⟩;have HE5:=hd (HEW.o.trans hE);have q5:=(HB5.o.ext hE (by simp)).cell;have q5l:=(HB5.o.ext hE (by simp)).lt;clear hE;have e9:((n:Int)==1)=decide ((n:Int)=1):=by rw[Bool.eq_iff_iff];simp
 cases hz:(decide (y0=0)&&decide (l=0))
 ·have HZ:=hd hz;clear hz;go_wp2_with fail
  go_ret
  exact⟨ret_bool (by have hz:=HZ.o;simp at hz⊢;try simp_all),HE5.o⟩
 ·have HZ:=hd hz;clear hz;go_wp2_with fail
  go_ret
  exact⟨ret_bool (by have hz:=HZ.o;simp[H_x4.o,H_x5.o,H_x6.o] at hz⊢;try simp_all),HE5.o⟩
set_option maxHeartbeats 8000000 in
set_option maxRecDepth 100000 in
theorem exprForm_513 (x2 x3 x4 x5 x6 y0:Int)(y1:Option Addr)(l y2:Nat)(x8:Option Addr)(n x9:Nat)(w:World) :
  Calls Tryz.prog 192 #[.agg #[.int .i64 5,.int .i64 13,.int .i64 x2,.int .i64 x3,.int .i64 x4,.int .i64 x5,.int .i64 x6,.int .i64 y0,.slice y1 l y2,.slice x8 n x9]] w fun e w'=>
   e=.returned (.bool (decide (x2=0)&&decide (x3=0)&&decide (x5=0)&&decide (x6=0)&&(decide (y0=0)&&decide (l=0))&&decide ((n:Int)=1)))/\Ext [] w w':=by
 have HE2:=hd (((Ext.refl [] w).alloc (.cells #[.int .i64 5,.int .i64 13,.int .i64 x2,.int .i64 x3,.int .i64 x4,.int .i64 x5,.int .i64 x6,.int .i64 y0,.slice y1 l y2,.slice x8 n x9] 41)).alloc (.cells #[.int .i64 5,.int .i64 13,.int .i64 x2,.int .i64 x3,.int .i64 x4,.int .i64 x5,.int .i64 x6,.int .i64 y0,.slice y1 l y2,.slice x8 n x9] 41));have HB1:=hd ((Blk.new w 41 #[.int .i64 5,.int .i64 13,.int .i64 x2,.int .i64 x3,.int .i64 x4,.int .i64 x5,.int .i64 x6,.int .i64 y0,.slice y1 l y2,.slice x8 n x9]).ext ((Ext.refl [] _).alloc (.cells #[.int .i64 5,.int .i64 13,.int .i64 x2,.int .i64 x3,.int .i64 x4,.int .i64 x5,.int .i64 x6,.int .i64 y0,.slice y1 l y2,.slice x8 n x9] 41)) (by simp));have HB3:=hd (Blk.new (w.alloc (.cells #[.int .i64 5,.int .i64 13,.int .i64 x2,.int .i64 x3,.int .i64 x4,.int .i64 x5,.int .i64 x6,.int .i64 y0,.slice y1 l y2,.slice x8 n x9] 41)) 41 #[.int .i64 5,.int .i64 13,.int .i64 x2,.int .i64 x3,.int .i64 x4,.int .i64 x5,.int .i64 x6,.int .i64 y0,.slice y1 l y2,.slice x8 n x9]);rw[alloc_sizeR] at HB3;go_enter Tryz.func192,Tryz.ntmps192
 go_upto_region 2 with fail
 generalize World.alloc (World.alloc w _) _=w2 at *;generalize hs:w.heap.size=s at *;have q1:=HB1.o.cell;have q1l:=HB1.o.lt;have q3:=HB3.o.cell;have q3f:=HB3.o.frozen;have q3l:=HB3.o.lt;go_upto_region 4 with fail
 go_wp2_with fail
 refine(operands_any (13) w2).mono ?_
 rintro e w' ⟨rfl,rfl⟩;rw[show operN 13=1 from rfl];go_upto_region 21 with fail
 have HB4:=hd ((HB3.o.set_' 4 (.int .i64 0) #[.int .i64 5,.int .i64 13,.int .i64 x2,.int .i64 x3,.int .i64 0,.int .i64 x5,.int .i64 x6,.int .i64 y0,.slice y1 l y2,.slice x8 n x9] rfl).set_' 1 (.int .i64 0) #[.int .i64 5,.int .i64 0,.int .i64 x2,.int .i64 x3,.int .i64 0,.int .i64 x5,.int .i64 x6,.int .i64 y0,.slice y1 l y2,.slice x8 n x9] rfl);have HE4:=hd (Ext.setAt (b:=s+1) (i:=1) (u:=.int .i64 0) (.inl (by simp)) (Ext.setAt (b:=s+1) (i:=4) (u:=.int .i64 0) (.inl (by simp)) (Ext.refl [s+1] w2)));have HEW:=hd (HE2.o.nil.step HE4.o fun x hx=>.inr (by rw[List.mem_singleton.1 hx];omega):Ext [] w _);have HB5:=hd (HB1.o.ext HE4.o (fun hm=>by rw[List.mem_singleton] at hm;omega));generalize ((w2.setCell ⟨s+1,4,none⟩ (.int .i64 0)).setCell ⟨s+1,1,none⟩ (.int .i64 0))=w4 at *;clear q1 q1l q3 q3f q3l HB1 HB3 HE2 HE4;have q3:=HB4.o.cell;have q3l:=HB4.o.lt;have q1:=HB5.o.cell;have q1l:=HB5.o.lt;by_cases h_x2:x2=0
 case neg=>
  have e_x2:(x2==0)=false:=by simpa using h_x2
  have H_x2:=hd h_x2;clear h_x2;go_wp2_with fail
  go_ret
  exact⟨ret_bool (by have:=H_x2.o;simp[this]),HEW.o⟩
 have e_x2:(x2==0)=true:=by simpa using h_x2
 have H_x2:=hd h_x2;clear h_x2;by_cases h_x3:x3=0
 case neg=>
  have e_x3:(x3==0)=false:=by simpa using h_x3
  have H_x3:=hd h_x3;clear h_x3;go_wp2_with fail
  go_ret
  exact⟨ret_bool (by have:=H_x3.o;simp[this]),HEW.o⟩
 have e_x3:(x3==0)=true:=by simpa using h_x3
 have H_x3:=hd h_x3;clear h_x3;by_cases h_x5:x5=0
 case neg=>
  have e_x5:(x5==0)=false:=by simpa using h_x5
  have H_x5:=hd h_x5;clear h_x5;go_wp2_with fail
  go_ret
  exact⟨ret_bool (by have:=H_x5.o;simp[this]),HEW.o⟩
 have e_x5:(x5==0)=true:=by simpa using h_x5
 have H_x5:=hd h_x5;clear h_x5;by_cases h_x6:x6=0
 case neg=>
  have e_x6:(x6==0)=false:=by simpa using h_x6
  have H_x6:=hd h_x6;clear h_x6;go_wp2_with fail
  go_ret
  exact⟨ret_bool (by have:=H_x6.o;simp[this]),HEW.o⟩
 have e_x6:(x6==0)=true:=by simpa using h_x6
 have H_x6:=hd h_x6;clear h_x6;go_wp2_with fail
 refine(zeroAffineR_any _ _ _ _ _).mono ?_
 rintro e w5 ⟨rfl,hE⟩;have HE5:=hd (HEW.o.trans hE);have q5:=(HB5.o.ext hE (by simp)).cell;have q5l:=(HB5.o.ext hE (by simp)).lt;clear hE;have e9:((n:Int)==1)=decide ((n:Int)=1):=by rw[Bool.eq_iff_iff];simp
 cases hz:(decide (y0=0)&&decide (l=0))
 ·have HZ:=hd hz;clear hz;go_wp2_with fail
  go_ret
  exact⟨ret_bool (by have hz:=HZ.o;simp at hz⊢;try simp_all),HE5.o⟩
 ·have HZ:=hd hz;clear hz;go_wp2_with fail
  go_ret
  exact⟨ret_bool (by have hz:=HZ.o;simp[H_x2.o,H_x3.o,H_x5.o,H_x6.o] at hz⊢;try simp_all),HE5.o⟩
set_option maxHeartbeats 8000000 in
set_option maxRecDepth 100000 in
theorem exprForm_514 (x2 x3 x4 x5 x6 y0:Int)(y1:Option Addr)(l y2:Nat)(x8:Option Addr)(n x9:Nat)(w:World) :
  Calls Tryz.prog 192 #[.agg #[.int .i64 5,.int .i64 14,.int .i64 x2,.int .i64 x3,.int .i64 x4,.int .i64 x5,.int .i64 x6,.int .i64 y0,.slice y1 l y2,.slice x8 n x9]] w fun e w'=>
   e=.returned (.bool (decide (x2=0)&&decide (x3=0)&&decide (x5=0)&&decide (x6=0)&&(decide (y0=0)&&decide (l=0))&&decide ((n:Int)=1)))/\Ext [] w w':=by
 have HE2:=hd (((Ext.refl [] w).alloc (.cells #[.int .i64 5,.int .i64 14,.int .i64 x2,.int .i64 x3,.int .i64 x4,.int .i64 x5,.int .i64 x6,.int .i64 y0,.slice y1 l y2,.slice x8 n x9] 41)).alloc (.cells #[.int .i64 5,.int .i64 14,.int .i64 x2,.int .i64 x3,.int .i64 x4,.int .i64 x5,.int .i64 x6,.int .i64 y0,.slice y1 l y2,.slice x8 n x9] 41));have HB1:=hd ((Blk.new w 41 #[.int .i64 5,.int .i64 14,.int .i64 x2,.int .i64 x3,.int .i64 x4,.int .i64 x5,.int .i64 x6,.int .i64 y0,.slice y1 l y2,.slice x8 n x9]).ext ((Ext.refl [] _).alloc (.cells #[.int .i64 5,.int .i64 14,.int .i64 x2,.int .i64 x3,.int .i64 x4,.int .i64 x5,.int .i64 x6,.int .i64 y0,.slice y1 l y2,.slice x8 n x9] 41)) (by simp));have HB3:=hd (Blk.new (w.alloc (.cells #[.int .i64 5,.int .i64 14,.int .i64 x2,.int .i64 x3,.int .i64 x4,.int .i64 x5,.int .i64 x6,.int .i64 y0,.slice y1 l y2,.slice x8 n x9] 41)) 41 #[.int .i64 5,.int .i64 14,.int .i64 x2,.int .i64 x3,.int .i64 x4,.int .i64 x5,.int .i64 x6,.int .i64 y0,.slice y1 l y2,.slice x8 n x9]);rw[alloc_sizeR] at HB3;go_enter Tryz.func192,Tryz.ntmps192
 go_upto_region 2 with fail
 generalize World.alloc (World.alloc w _) _=w2 at *;generalize hs:w.heap.size=s at *;have q1:=HB1.o.cell;have q1l:=HB1.o.lt;have q3:=HB3.o.cell;have q3f:=HB3.o.frozen;have q3l:=HB3.o.lt;go_upto_region 4 with fail
 go_wp2_with fail
 refine(operands_any (14) w2).mono ?_
 rintro e w' ⟨rfl,rfl⟩;rw[show operN 14=1 from rfl];go_upto_region 21 with fail
 have HB4:=hd ((HB3.o.set_' 4 (.int .i64 0) #[.int .i64 5,.int .i64 14,.int .i64 x2,.int .i64 x3,.int .i64 0,.int .i64 x5,.int .i64 x6,.int .i64 y0,.slice y1 l y2,.slice x8 n x9] rfl).set_' 1 (.int .i64 0) #[.int .i64 5,.int .i64 0,.int .i64 x2,.int .i64 x3,.int .i64 0,.int .i64 x5,.int .i64 x6,.int .i64 y0,.slice y1 l y2,.slice x8 n x9] rfl);have HE4:=hd (Ext.setAt (b:=s+1) (i:=1) (u:=.int .i64 0) (.inl (by simp)) (Ext.setAt (b:=s+1) (i:=4) (u:=.int .i64 0) (.inl (by simp)) (Ext.refl [s+1] w2)));have HEW:=hd (HE2.o.nil.step HE4.o fun x hx=>.inr (by rw[List.mem_singleton.1 hx];omega):Ext [] w _);have HB5:=hd (HB1.o.ext HE4.o (fun hm=>by rw[List.mem_singleton] at hm;omega));generalize ((w2.setCell ⟨s+1,4,none⟩ (.int .i64 0)).setCell ⟨s+1,1,none⟩ (.int .i64 0))=w4 at *;clear q1 q1l q3 q3f q3l HB1 HB3 HE2 HE4;have q3:=HB4.o.cell;have q3l:=HB4.o.lt;have q1:=HB5.o.cell;have q1l:=HB5.o.lt;by_cases h_x2:x2=0
 case neg=>
  have e_x2:(x2==0)=false:=by simpa using h_x2
  have H_x2:=hd h_x2;clear h_x2;go_wp2_with fail
  go_ret
  exact⟨ret_bool (by have:=H_x2.o;simp[this]),HEW.o⟩
 have e_x2:(x2==0)=true:=by simpa using h_x2
 have H_x2:=hd h_x2;clear h_x2;by_cases h_x3:x3=0
 case neg=>
  have e_x3:(x3==0)=false:=by simpa using h_x3
  have H_x3:=hd h_x3;clear h_x3;go_wp2_with fail
  go_ret
  exact⟨ret_bool (by have:=H_x3.o;simp[this]),HEW.o⟩
 have e_x3:(x3==0)=true:=by simpa using h_x3
 have H_x3:=hd h_x3;clear h_x3;by_cases h_x5:x5=0
 case neg=>
  have e_x5:(x5==0)=false:=by simpa using h_x5
  have H_x5:=hd h_x5;clear h_x5;go_wp2_with fail
  go_ret
  exact⟨ret_bool (by have:=H_x5.o;simp[this]),HEW.o⟩
 have e_x5:(x5==0)=true:=by simpa using h_x5
 have H_x5:=hd h_x5;clear h_x5;by_cases h_x6:x6=0
 case neg=>
  have e_x6:(x6==0)=false:=by simpa using h_x6
  have H_x6:=hd h_x6;clear h_x6;go_wp2_with fail
  go_ret
  exact⟨ret_bool (by have:=H_x6.o;simp[this]),HEW.o⟩
 have e_x6:(x6==0)=true:=by simpa using h_x6
 have H_x6:=hd h_x6;clear h_x6;go_wp2_with fail
 refine(zeroAffineR_any _ _ _ _ _).mono ?_
 rintro e w5 ⟨rfl,hE⟩;have HE5:=hd (HEW.o.trans hE);have q5:=(HB5.o.ext hE (by simp)).cell;have q5l:=(HB5.o.ext hE (by simp)).lt;clear hE;have e9:((n:Int)==1)=decide ((n:Int)=1):=by rw[Bool.eq_iff_iff];simp
 cases hz:(decide (y0=0)&&decide (l=0))
 ·have HZ:=hd hz;clear hz;go_wp2_with fail
  go_ret
  exact⟨ret_bool (by have hz:=HZ.o;simp at hz⊢;try simp_all),HE5.o⟩
 ·have HZ:=hd hz;clear hz;go_wp2_with fail
  go_ret
  exact⟨ret_bool (by have hz:=HZ.o;simp[H_x2.o,H_x3.o,H_x5.o,H_x6.o] at hz⊢;try simp_all),HE5.o⟩
set_option maxHeartbeats 8000000 in
set_option maxRecDepth 100000 in
theorem exprForm_5 (x1 x2 x3 x4 x5 x6 y0:Int)(y1:Option Addr)(l y2:Nat)(x8:Option Addr)(n x9:Nat)(w:World)(h12:(x1==12)=false)(h13:(x1==13)=false)(h14:(x1==14)=false) :
  Calls Tryz.prog 192 #[.agg #[.int .i64 5,.int .i64 x1,.int .i64 x2,.int .i64 x3,.int .i64 x4,.int .i64 x5,.int .i64 x6,.int .i64 y0,.slice y1 l y2,.slice x8 n x9]] w fun e w'=>
   e=.returned (.bool (decide (x2=0)&&decide (x3=0)&&decide (x4=0)&&decide (x5=0)&&decide (x6=0)&&(decide (y0=0)&&decide (l=0))&&decide ((n:Int)=operN x1)))/\Ext [] w w':=by
 have HE2:=hd (((Ext.refl [] w).alloc (.cells #[.int .i64 5,.int .i64 x1,.int .i64 x2,.int .i64 x3,.int .i64 x4,.int .i64 x5,.int .i64 x6,.int .i64 y0,.slice y1 l y2,.slice x8 n x9] 41)).alloc (.cells #[.int .i64 5,.int .i64 x1,.int .i64 x2,.int .i64 x3,.int .i64 x4,.int .i64 x5,.int .i64 x6,.int .i64 y0,.slice y1 l y2,.slice x8 n x9] 41));have HB1:=hd ((Blk.new w 41 #[.int .i64 5,.int .i64 x1,.int .i64 x2,.int .i64 x3,.int .i64 x4,.int .i64 x5,.int .i64 x6,.int .i64 y0,.slice y1 l y2,.slice x8 n x9]).ext ((Ext.refl [] _).alloc (.cells #[.int .i64 5,.int .i64 x1,.int .i64 x2,.int .i64 x3,.int .i64 x4,.int .i64 x5,.int .i64 x6,.int .i64 y0,.slice y1 l y2,.slice x8 n x9] 41)) (by simp));have HB3:=hd (Blk.new (w.alloc (.cells #[.int .i64 5,.int .i64 x1,.int .i64 x2,.int .i64 x3,.int .i64 x4,.int .i64 x5,.int .i64 x6,.int .i64 y0,.slice y1 l y2,.slice x8 n x9] 41)) 41 #[.int .i64 5,.int .i64 x1,.int .i64 x2,.int .i64 x3,.int .i64 x4,.int .i64 x5,.int .i64 x6,.int .i64 y0,.slice y1 l y2,.slice x8 n x9]);rw[alloc_sizeR] at HB3;go_enter Tryz.func192,Tryz.ntmps192
 go_upto_region 2 with fail
 generalize World.alloc (World.alloc w _) _=w2 at *;generalize hs:w.heap.size=s at *;have q1:=HB1.o.cell;have q1l:=HB1.o.lt;have q3:=HB3.o.cell;have q3f:=HB3.o.frozen;have q3l:=HB3.o.lt;go_upto_region 4 with fail
 go_wp2_with fail
 refine(operands_any (x1) w2).mono ?_
 rintro e w' ⟨rfl,rfl⟩;go_upto_region 21 with fail
 have HB4:=hd (HB3.o.set_' 1 (.int .i64 0) #[.int .i64 5,.int .i64 0,.int .i64 x2,.int .i64 x3,.int .i64 x4,.int .i64 x5,.int .i64 x6,.int .i64 y0,.slice y1 l y2,.slice x8 n x9] rfl);have HE4:=hd (Ext.setAt (b:=s+1) (i:=1) (u:=.int .i64 0) (.inl (by simp)) (Ext.refl [s+1] w2));have HEW:=hd (HE2.o.nil.step HE4.o fun x hx=>.inr (by rw[List.mem_singleton.1 hx];omega):Ext [] w _);have HB5:=hd (HB1.o.ext HE4.o (fun hm=>by rw[List.mem_singleton] at hm;omega));generalize (w2.setCell ⟨s+1,1,none⟩ (.int .i64 0))=w4 at *;clear q1 q1l q3 q3f q3l HB1 HB3 HE2 HE4;have q3:=HB4.o.cell;have q3l:=HB4.o.lt;have q1:=HB5.o.cell;have q1l:=HB5.o.lt;by_cases h_x2:x2=0
 case neg=>
  have e_x2:(x2==0)=false:=by simpa using h_x2
  have H_x2:=hd h_x2;clear h_x2;go_wp2_with fail
  go_ret
  exact⟨ret_bool (by have:=H_x2.o;simp[this]),HEW.o⟩
 have e_x2:(x2==0)=true:=by simpa using h_x2
 have H_x2:=hd h_x2;clear h_x2;by_cases h_x3:x3=0
 case neg=>
  have e_x3:(x3==0)=false:=by simpa using h_x3
  have H_x3:=hd h_x3;clear h_x3;go_wp2_with fail
  go_ret
  exact⟨ret_bool (by have:=H_x3.o;simp[this]),HEW.o⟩
 have e_x3:(x3==0)=true:=by simpa using h_x3
 have H_x3:=hd h_x3;clear h_x3;by_cases h_x4:x4=0
 case neg=>
  have e_x4:(x4==0)=false:=by simpa using h_x4
  have H_x4:=hd h_x4;clear h_x4;go_wp2_with fail
  go_ret
  exact⟨ret_bool (by have:=H_x4.o;simp[this]),HEW.o⟩
 have e_x4:(x4==0)=true:=by simpa using h_x4
 have H_x4:=hd h_x4;clear h_x4;by_cases h_x5:x5=0
 case neg=>
  have e_x5:(x5==0)=false:=by simpa using h_x5
  have H_x5:=hd h_x5;clear h_x5;go_wp2_with fail
  go_ret
  exact⟨ret_bool (by have:=H_x5.o;simp[this]),HEW.o⟩
 have e_x5:(x5==0)=true:=by simpa using h_x5
 have H_x5:=hd h_x5;clear h_x5;by_cases h_x6:x6=0
 case neg=>
  have e_x6:(x6==0)=false:=by simpa using h_x6
  have H_x6:=hd h_x6;clear h_x6;go_wp2_with fail
  go_ret
  exact⟨ret_bool (by have:=H_x6.o;simp[this]),HEW.o⟩
 have e_x6:(x6==0)=true:=by simpa using h_x6
 have H_x6:=hd h_x6;clear h_x6;go_wp2_with fail
 refine(zeroAffineR_any _ _ _ _ _).mono ?_
 rintro e w5 ⟨rfl,hE⟩;have HE5:=hd (HEW.o.trans hE);have q5:=(HB5.o.ext hE (by simp)).cell;have q5l:=(HB5.o.ext hE (by simp)).lt;clear hE;have e9:((n:Int)==operN x1)=decide ((n:Int)=operN x1):=by rw[Bool.eq_iff_iff];simp
 cases hz:(decide (y0=0)&&decide (l=0))
 ·have HZ:=hd hz;clear hz;go_wp2_with fail
  go_ret
  exact⟨ret_bool (by have hz:=HZ.o;simp at hz⊢;try simp_all),HE5.o⟩
 ·have HZ:=hd hz;clear hz;go_wp2_with fail
  go_ret
  exact⟨ret_bool (by have hz:=HZ.o;simp[H_x2.o,H_x3.o,H_x4.o,H_x5.o,H_x6.o] at hz⊢;try simp_all),HE5.o⟩
theorem exprForm_any (h:EH)(n:Nat)(w:World)(hk:0<=kidsN h.k h.op):Calls Tryz.prog 192 #[exHV h n] w fun e w'=>e=.returned (.bool (formX h n))/\Ext [] w w':=by
 have HK:=kidsN_kind hk;obtain⟨x0,x1,x2,x3,x4,x5,x6,⟨y0,y1,y2,y3⟩,x8,x9⟩:=h;simp only at HK hk;simp only[exHV];rcases HK with h|h|h|h|h<;>subst h
 ·refine(exprForm_1 x1 x2 x3 x4 x5 x6 y0 y1 y3.length y2 x8 n x9 w).mono ?_
  rintro e w' ⟨rfl,hE⟩;exact⟨ret_bool (by simp[formX,plainX,kidsN,zeroA]),hE⟩
 ·refine(exprForm_2 x1 x2 x3 x4 x5 x6 y0 y1 y3.length y2 x8 n x9 w).mono ?_
  rintro e w' ⟨rfl,hE⟩;exact⟨ret_bool (by simp[formX,plainX,kidsN,zeroA]),hE⟩
 ·refine(exprForm_3 x1 x2 x3 x4 x5 x6 y0 y1 y3.length y2 x8 n x9 w).mono ?_
  rintro e w' ⟨rfl,hE⟩;exact⟨ret_bool (by simp[formX,plainX,kidsN,zeroA]),hE⟩
 ·refine(exprForm_4 x1 x2 x3 x4 x5 x6 y0 y1 y3.length y2 x8 n x9 w).mono ?_
  rintro e w' ⟨rfl,hE⟩;exact⟨ret_bool (by simp[formX,plainX,kidsN,zeroA]),hE⟩
 ·have h1:opN x1=operN x1/\kidsN 5 x1=opN x1:=by
   have e5:kidsN 5 x1=opN x1:=by simp[kidsN]
   rw[e5] at hk;refine⟨?_,e5⟩
   unfold opN operN at *;by_cases a:x1=15
   ·rw[if_pos a,if_pos a]
   ·rw[if_neg a] at hk⊢;rw[if_neg a];by_cases b:btw x1 4 10=true
    ·rw[if_pos b];have:=btw_iff.1 b;rw[if_neg (by omega)]
    ·rw[if_neg b] at hk⊢;by_cases c:btw x1 11 14=true
     ·rw[if_pos c];have:=btw_iff.1 c;rw[if_pos (by omega)]
     ·rw[if_neg c] at hk;omega
  by_cases a12:x1=12
  ·subst a12;refine(exprForm_512 x2 x3 x4 x5 x6 y0 y1 y3.length y2 x8 n x9 w).mono ?_
   rintro e w' ⟨rfl,hE⟩;exact⟨ret_bool (by simp[formX,plainX,h1,operN,zeroA]),hE⟩
  ·by_cases a13:x1=13
   ·subst a13;refine(exprForm_513 x2 x3 x4 x5 x6 y0 y1 y3.length y2 x8 n x9 w).mono ?_
    rintro e w' ⟨rfl,hE⟩;exact⟨ret_bool (by simp[formX,plainX,h1,operN,zeroA]),hE⟩
   ·by_cases a14:x1=14
    ·subst a14;refine(exprForm_514 x2 x3 x4 x5 x6 y0 y1 y3.length y2 x8 n x9 w).mono ?_
     rintro e w' ⟨rfl,hE⟩;exact⟨ret_bool (by simp[formX,plainX,h1,operN,zeroA]),hE⟩
    ·refine(exprForm_5 x1 x2 x3 x4 x5 x6 y0 y1 y3.length y2 x8 n x9 w (by simpa using a12) (by simpa using a13) (by simpa using a14)).mono ?_
     rintro e w' ⟨rfl,hE⟩;exact⟨ret_bool (by simp[formX,plainX,h1,a12,a13,a14,zeroA]),hE⟩
def okKind (h:EH):Prop:=h.k=1\/h.k=2\/h.k=3\/h.k=4\/h.k=5
set_option maxHeartbeats 8000000 in
set_option maxRecDepth 100000 in
theorem exprRangeR_any (h:EH)(n:Nat)(w:World)(hk:okKind h):Calls Tryz.prog 197 #[exHV h n] w fun e w'=>e=.returned (.bool (rangeX h))/\Ext [] w w':=by
 have HK:=hk;unfold okKind at HK;obtain⟨x0,x1,x2,x3,x4,x5,x6,⟨y0,y1,y2,y3⟩,x8,x9⟩:=h;simp only at HK;simp only[exHV];clear hk;have HE0:=hd ((Ext.refl [] w).alloc (.cells #[.int .i64 x0,.int .i64 x1,.int .i64 x2,.int .i64 x3,.int .i64 x4,.int .i64 x5,.int .i64 x6,.int .i64 y0,.slice y1 y3.length y2,.slice x8 n x9] 41));have HB0:=hd (Blk.new w 41 #[.int .i64 x0,.int .i64 x1,.int .i64 x2,.int .i64 x3,.int .i64 x4,.int .i64 x5,.int .i64 x6,.int .i64 y0,.slice y1 y3.length y2,.slice x8 n x9]);generalize hR:rangeX ⟨x0,x1,x2,x3,x4,x5,x6,⟨y0,y1,y2,y3⟩,x8,x9⟩=R;have HR:Hd (R=if x0=1 then isWd x4 else if x0=4 then isWd x2&&btw x4 1 100000&&btw x5 1 262144 else if x0=5 then(if x1=12 then isWd x2&&isWd x3&&decide (x2<=x3) else if x1=13 then btw x4 1 31 else if x1=14 then btw x4 1 2147483647 else true) else true):=hd (hR.symm.trans rfl);clear hR;rcases HK with h|h|h|h|h<;>subst h
 ·have HV:Hd (R=isWd x4):=hd HR.o;clear HR;go_enter Tryz.func197,Tryz.ntmps197
  go_wp2_with fail
  generalize World.alloc w _=w1 at *;generalize w.heap.size=s at *;have q:=HB0.o.cell;have ql:=HB0.o.lt;refine(wordR_any _ _).mono ?_
  rintro e w' ⟨rfl,rfl⟩;go_wp2_with fail
  go_ret
  exact⟨ret_bool HV.o.symm,HE0.o⟩
 ·have HV:Hd (R=true):=hd HR.o;clear HR;go_enter Tryz.func197,Tryz.ntmps197
  go_wp2_with fail
  go_ret
  exact⟨ret_bool HV.o.symm,HE0.o⟩
 ·have HV:Hd (R=true):=hd HR.o;clear HR;go_enter Tryz.func197,Tryz.ntmps197
  go_wp2_with fail
  go_ret
  exact⟨ret_bool HV.o.symm,HE0.o⟩
 ·have HV:Hd (R=(isWd x2&&btw x4 1 100000&&btw x5 1 262144)):=hd HR.o;clear HR;go_enter Tryz.func197,Tryz.ntmps197
  go_wp2_with fail
  generalize World.alloc w _=w1 at *;generalize w.heap.size=s at *;have q:=HB0.o.cell;have ql:=HB0.o.lt;refine(wordR_any _ _).mono ?_
  rintro e w' ⟨rfl,rfl⟩;cases h1:isWd x2
  ·have H1:=hd h1;clear h1;go_wp2_with fail
   go_ret
   exact⟨ret_bool (by rw[HV.o,H1.o];rfl),HE0.o⟩
  ·have H1:=hd h1;clear h1;go_wp2_with fail
   refine(within_any _ _ _ _).mono ?_
   rintro e w' ⟨rfl,rfl⟩;cases h2:btw x4 1 100000
   ·have H2:=hd h2;clear h2;go_wp2_with fail
    go_ret
    exact⟨ret_bool (by rw[HV.o,H1.o,H2.o];rfl),HE0.o⟩
   ·have H2:=hd h2;clear h2;go_wp2_with fail
    refine(within_any _ _ _ _).mono ?_
    rintro e w' ⟨rfl,rfl⟩;go_wp2_with fail
    go_ret
    exact⟨ret_bool (by rw[HV.o,H1.o,H2.o];rfl),HE0.o⟩
 ·have HR5:Hd (R=if x1=12 then isWd x2&&isWd x3&&decide (x2<=x3) else if x1=13 then btw x4 1 31 else if x1=14 then btw x4 1 2147483647 else true):=hd HR.o;clear HR;by_cases a12:x1=12
  ·have HR:=hd (HR5.o.trans (if_pos a12));subst a12;have HV:Hd (R=(isWd x2&&isWd x3&&decide (x2<=x3))):=hd HR.o;clear HR;go_enter Tryz.func197,Tryz.ntmps197
   go_wp2_with fail
   generalize World.alloc w _=w1 at *;generalize w.heap.size=s at *;have q:=HB0.o.cell;have ql:=HB0.o.lt;refine(wordR_any _ _).mono ?_
   rintro e w' ⟨rfl,rfl⟩;cases h1:isWd x2
   ·have H1:=hd h1;clear h1;go_wp2_with fail
    go_ret
    exact⟨ret_bool (by rw[HV.o,H1.o];rfl),HE0.o⟩
   ·have H1:=hd h1;clear h1;go_wp2_with fail
    refine(wordR_any _ _).mono ?_
    rintro e w' ⟨rfl,rfl⟩;cases h2:isWd x3
    ·have H2:=hd h2;clear h2;go_wp2_with fail
     go_ret
     exact⟨ret_bool (by rw[HV.o,H1.o,H2.o];rfl),HE0.o⟩
    ·have H2:=hd h2;clear h2;go_wp2_with fail
     go_ret
     exact⟨ret_bool (by rw[HV.o,H1.o,H2.o];rfl),HE0.o⟩
  ·have e12:(x1==12)=false:=by simpa using a12
   have HR6:=hd (HR5.o.trans (if_neg a12));clear a12;by_cases a13:x1=13
   ·have HR:=hd (HR6.o.trans (if_pos a13));subst a13;have HV:Hd (R=btw x4 1 31):=hd HR.o;clear HR;go_enter Tryz.func197,Tryz.ntmps197
    go_wp2_with fail
    generalize World.alloc w _=w1 at *;generalize w.heap.size=s at *;have q:=HB0.o.cell;have ql:=HB0.o.lt;refine(within_any _ _ _ _).mono ?_
    rintro e w' ⟨rfl,rfl⟩;go_wp2_with fail
    go_ret
    exact⟨ret_bool HV.o.symm,HE0.o⟩
   ·have e13:(x1==13)=false:=by simpa using a13
    have HR7:=hd (HR6.o.trans (if_neg a13));clear a13;by_cases a14:x1=14
    ·have HR:=hd (HR7.o.trans (if_pos a14));subst a14;have HV:Hd (R=btw x4 1 2147483647):=hd HR.o;clear HR;go_enter Tryz.func197,Tryz.ntmps197
     go_wp2_with fail
     generalize World.alloc w _=w1 at *;generalize w.heap.size=s at *;have q:=HB0.o.cell;have ql:=HB0.o.lt;refine(within_any _ _ _ _).mono ?_
     rintro e w' ⟨rfl,rfl⟩;go_wp2_with fail
     go_ret
     exact⟨ret_bool HV.o.symm,HE0.o⟩
    ·have e14:(x1==14)=false:=by simpa using a14
     have HR:=hd (HR7.o.trans (if_neg a14));clear a14;have HV:Hd (R=true):=hd HR.o;clear HR;go_enter Tryz.func197,Tryz.ntmps197
     go_wp2_with fail
     go_ret
     exact⟨ret_bool HV.o.symm,HE0.o⟩
end Go.Proofs.YtfjdmoppfbddpaaGreatDoor
