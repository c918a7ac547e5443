import Derived.Test.YtfppibmloloakaaGreatDoorP03
import Derived.Shelf.Strings.SlTrimAscii
namespace Go.Proofs.YtfppibmloloakaaGreatDoor
open Go.RowKit Go.Proofs.Tryz
set_option linter.all false
open Go.RowKit Go.Shelf
def lays160_ren:Go.Shelf.Ren:=⟨fun|160=>228|232=>243|231=>242|227=>244|234=>246|233=>245|236=>248|235=>247|228=>252|271=>255|151=>254|197=>253|120=>259|152=>258|260=>257|137=>260|119=>261|224=>262|225=>263|217=>264|266=>265|n=>n,fun|9=>9|4=>4|3=>3|5=>5|117=>317|116=>316|0=>0|124=>320|21=>21|105=>324|46=>216|119=>329|139=>332|138=>331|n=>n,fun|3=>0|4=>1|n=>n⟩
theorem lays160:Go.Proofs.Lays.n160 Tryz.prog lays160_ren:={
 mixed:=by kernel_rfl
 f119:=Tryz.func261.trans (congrArg some (by kernel_rfl))
 f120:=Tryz.func259.trans (congrArg some (by kernel_rfl))
 f137:=Tryz.func260.trans (congrArg some (by kernel_rfl))
 f151:=Tryz.func254.trans (congrArg some (by kernel_rfl))
 f152:=Tryz.func258.trans (congrArg some (by kernel_rfl))
 f160:=Tryz.func228.trans (congrArg some (by kernel_rfl))
 f197:=Tryz.func253.trans (congrArg some (by kernel_rfl))
 f217:=Tryz.func264.trans (congrArg some (by kernel_rfl))
 f224:=Tryz.func262.trans (congrArg some (by kernel_rfl))
 f225:=Tryz.func263.trans (congrArg some (by kernel_rfl))
 f227:=Tryz.func244.trans (congrArg some (by kernel_rfl))
 f228:=Tryz.func252.trans (congrArg some (by kernel_rfl))
 f231:=Tryz.func242.trans (congrArg some (by kernel_rfl))
 f232:=Tryz.func243.trans (congrArg some (by kernel_rfl))
 f233:=Tryz.func245.trans (congrArg some (by kernel_rfl))
 f234:=Tryz.func246.trans (congrArg some (by kernel_rfl))
 f235:=Tryz.func247.trans (congrArg some (by kernel_rfl))
 f236:=Tryz.func248.trans (congrArg some (by kernel_rfl))
 f260:=Tryz.func257.trans (congrArg some (by kernel_rfl))
 f266:=Tryz.func265.trans (congrArg some (by kernel_rfl))
 f271:=Tryz.func255.trans (congrArg some (by kernel_rfl))
 t0:=Tryz.underlying0
 a0:=Tryz.isAgg0
 z0:=Tryz.sizeOf0
 v0:=Tryz.zeroValue0
 t3:=Tryz.underlying3
 a3:=Tryz.isAgg3
 z3:=Tryz.sizeOf3
 v3:=Tryz.zeroValue3
 t4:=Tryz.underlying4
 a4:=Tryz.isAgg4
 z4:=Tryz.sizeOf4
 v4:=Tryz.zeroValue4
 t5:=Tryz.underlying5
 a5:=Tryz.isAgg5
 z5:=Tryz.sizeOf5
 v5:=Tryz.zeroValue5
 t9:=Tryz.underlying9
 a9:=Tryz.isAgg9
 z9:=Tryz.sizeOf9
 v9:=Tryz.zeroValue9
 t21:=Tryz.underlying21
 a21:=Tryz.isAgg21
 z21:=Tryz.sizeOf21
 v21:=Tryz.zeroValue21
 t46:=Tryz.underlying216
 a46:=Tryz.isAgg216
 z46:=Tryz.sizeOf216
 v46:=Tryz.zeroValue216
 t105:=Tryz.underlying324
 a105:=Tryz.isAgg324
 z105:=Tryz.sizeOf324
 v105:=Tryz.zeroValue324
 t116:=Tryz.underlying316
 a116:=Tryz.isAgg316
 z116:=Tryz.sizeOf316
 t117:=Tryz.underlying317
 a117:=Tryz.isAgg317
 z117:=Tryz.sizeOf317
 v117:=Tryz.zeroValue317
 t119:=Tryz.underlying329
 a119:=Tryz.isAgg329
 z119:=Tryz.sizeOf329
 t124:=Tryz.underlying320
 a124:=Tryz.isAgg320
 z124:=Tryz.sizeOf320
 v124:=Tryz.zeroValue320
 t138:=Tryz.underlying331
 a138:=Tryz.isAgg331
 z138:=Tryz.sizeOf331
 v138:=Tryz.zeroValue331
 t139:=Tryz.underlying332
 a139:=Tryz.isAgg332
 z139:=Tryz.sizeOf332
 v139:=Tryz.zeroValue332
 g3:=by kernel_rfl
 g4:=by kernel_rfl }
def alnum:List UInt8:=[97,98,99,100,101,102,103,104,105,106,107,108,109,110,111,112,113,114,115,116,117,118,119,120,121,122,48,49,50,51,52,53,54,55,56,57]
theorem alnum_fin:∀n:Fin 256,alnum.contains (UInt8.ofNat n.val)=(small1 (UInt8.ofNat n.val)||digit1 (UInt8.ofNat n.val)):=by decide +kernel
theorem alnum_iff (b:UInt8):alnum.contains b=(small1 b||digit1 b):=by
 have h:=alnum_fin ⟨b.toNat,b.toNat_lt⟩;simpa using h
theorem dropWhile_all (p:UInt8->Bool)(l:List UInt8):(l.dropWhile p).all p=l.all p:=by
 induction l with
 | nil=>rfl
 | cons a l ih=>
  rw[List.dropWhile_cons];cases h:p a
  ·simp[h]
  ·simp[h,ih]
theorem dropWhile_nil (p:UInt8->Bool)(l:List UInt8):(l.dropWhile p).isEmpty=l.all p:=by
 induction l with
 | nil=>rfl
 | cons a l ih=>
  rw[List.dropWhile_cons];cases h:p a
  ·simp[h]
  ·simp[h,ih]
theorem trimS_nil (l cs:List UInt8):(Lib.trimS l cs).isEmpty=l.all (cs.contains ·):=by
 unfold Lib.trimS Lib.trimLeftS Lib.trimRightS;rw[dropWhile_nil,List.all_reverse,dropWhile_all,List.all_reverse]
theorem all_alnum (l:List UInt8):l.all (alnum.contains ·)=l.all fun c=>small1 c||digit1 c:=by
 congr 1;funext c;exact alnum_iff c
theorem trim_any (s:ByteArray)(w:World)(hs:s.size<=9223372036854775807):Calls Tryz.prog 228 #[.string s,.string ⟨#[97,98,99,100,101,102,103,104,105,106,107,108,109,110,111,112,113,114,115,116,117,118,119,120,121,122,48,49,50,51,52,53,54,55,56,57]⟩] w fun e w'=>∃t:ByteArray,e=.returned (.string t)/\t.toList.isEmpty=(s.data.toList.all fun c=>small1 c||digit1 c)/\Ext [] w w':=by
 refine(Any.strings_Trim_laid lays160 (by kernel_rfl) s ⟨alnum.toArray⟩ w hs (by decide) (ascii_of_all (by decide))).mono ?_
 rintro e w' ⟨rfl,h⟩;refine⟨_,rfl,?_,Ext.of_below h _⟩
 rw[ByteArray.toList_eq];show(Lib.trimS s.data.toList alnum).isEmpty=_
 rw[trimS_nil,all_alnum]
def letB (s:ByteArray):Bool:=!s.data.toList.isEmpty&&s.data.toList.all fun c=>small1 c||digit1 c
theorem isLetters_any (s:ByteArray)(w:World)(hs:s.size<=9223372036854775807):Calls Tryz.prog 215 #[.string s] w fun e w'=>e=.returned (.bool (letB s))/\Ext [] w w':=by
 have HT:=hd (trim_any s w hs);have HL:Hd (s.toList=s.data.toList):=hd (ByteArray.toList_eq s);by_cases h0:s.toList=[]
 ·have HF:Hd (letB s=false):=hd (by unfold letB;rw[<-HL.o,h0];rfl);go_enter Tryz.func215,Tryz.ntmps215
  go_wp2_with fail
  go_ret
  exact⟨ret_bool HF.o.symm,Ext.refl _ _⟩
 ·have HF:Hd (letB s=s.data.toList.all fun c=>small1 c||digit1 c):=hd (by unfold letB;rw[<-HL.o];cases h:s.toList with|nil=>exact absurd h h0|cons a l=>rfl);go_enter Tryz.func215,Tryz.ntmps215
  go_wp2_with fail
  refine HT.o.mono ?_
  rintro e w' ⟨t,rfl,ht,hE⟩;have HTT:=hd ht;have HE:=hd hE;clear ht hE;cases hz:t.toList.isEmpty
  ·have HZ:=hd hz;have hz':¬t.toList=[]:=by intro e;rw[e] at hz;cases hz
   clear hz;go_wp2_with fail
   go_ret
   exact⟨ret_bool (by rw[HF.o,<-HTT.o,HZ.o];simp[h0]),HE.o⟩
  ·have HZ:=hd hz;have hz':t.toList=[]:=List.isEmpty_iff.1 hz;clear hz;go_wp2_with fail
   go_ret
   exact⟨ret_bool (by rw[HF.o,<-HTT.o,HZ.o];simp[h0]),HE.o⟩
theorem nameB_nil {s:ByteArray}(h:s.size=0):nameB s=false:=by
 unfold nameB;have:s.data.toList=[]:=List.length_eq_zero_iff.1 (by simpa using h);rw[this]
theorem nameB_cons {s:ByteArray}(h:0<s.size):nameB s=(decide (s.size<=8)&&(small1 (s[0]'h)&&letB s)):=by
 have hl:s.data.toList.length=s.size:=by simp
 obtain⟨b,r,hb⟩:∃b r,s.data.toList=b :: r:=by
  cases hd:s.data.toList with
  | nil=>rw[hd] at hl;simp at hl;omega
  | cons b r=>exact⟨b,r,rfl⟩
 have h0:s[0]'h=b:=by
  have:s.data.toList[0]? = some b:=by rw[hb];rfl
  have h2:s.data.toList[0]? = some (s.data[0]'(by simpa using h)):=by simp
  rw[this] at h2;injection h2 with h2;exact h2.symm
 have hsz:s.size=r.length+1:=by rw[<-hl,hb];rfl
 unfold nameB letB;rw[hb,h0,hsz];simp only[List.isEmpty_cons,Bool.not_false,Bool.true_and,List.all_cons];by_cases h7:r.length<=7
 ·have h8:r.length+1<=8:=by omega
  cases h9:small1 b<;>simp[h7,h8]
 ·have h8:¬(r.length+1<=8):=by omega
  simp[h7,h8]
theorem isName_any (s:ByteArray)(w:World)(hs:s.size<=9223372036854775807):Calls Tryz.prog 185 #[.string s] w fun e w'=>e=.returned (.bool (nameB s))/\Ext [] w w':=by
 have HT:=hd (fun W=>isLetters_any s W hs);by_cases h0:s.size=0
 ·have HN:=hd (nameB_nil h0);go_enter Tryz.func185,Tryz.ntmps185
  go_wp2_with fail
  go_ret
  exact⟨ret_bool HN.o.symm,Ext.refl _ _⟩
 ·have hpos:0<s.size:=by omega
  have HN:=hd (nameB_cons hpos);by_cases h8:s.size<=8
  ·cases h1:small1 (s[0]'hpos)
   ·have HF:Hd (nameB s=false):=hd (by rw[HN.o,h1];simp);have h2:¬(97<=(s[0]'hpos).toNat/\(s[0]'hpos).toNat<=122):=by simpa[small1] using h1
    clear HN h1;go_enter Tryz.func185,Tryz.ntmps185
    go_wp2_with fail
    all_goals first|(go_ret;exact⟨ret_bool HF.o.symm,Ext.refl _ _⟩)|(exfalso;omega)
   ·have HF:Hd (nameB s=letB s):=hd (by rw[HN.o,h1];simp[h8]);have h2:97<=(s[0]'hpos).toNat/\(s[0]'hpos).toNat<=122:=by simpa[small1] using h1
    clear HN h1;go_enter Tryz.func185,Tryz.ntmps185
    go_wp2_with fail
    all_goals try (exfalso;omega)
    refine(HT.o _).mono ?_
    rintro e w' ⟨rfl,hE⟩;have HE:=hd hE;clear hE;go_wp2_with fail
    go_ret
    exact⟨ret_bool HF.o.symm,HE.o⟩
  ·have HF:Hd (nameB s=false):=hd (by rw[HN.o];simp[h8]);clear HN;go_enter Tryz.func185,Tryz.ntmps185
   go_wp2_with fail
   go_ret
   exact⟨ret_bool HF.o.symm,Ext.refl _ _⟩
end Go.Proofs.YtfppibmloloakaaGreatDoor
