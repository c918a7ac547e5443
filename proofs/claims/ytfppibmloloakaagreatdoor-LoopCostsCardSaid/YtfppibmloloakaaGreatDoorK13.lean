import Derived.Test.YtfppibmloloakaaGreatDoorK03
import Derived.Shelf.Strings.SlTrimAscii
import Derived.Deep.DeepCutAuto
import Derived.Deep.CutBlock
namespace Go.Proofs.YtfppibmloloakaaGreatDoor
open Go.RowKit Go.Proofs.Tryz
set_option linter.all false
set_option maxHeartbeats 64000000
open Go.RowKit Go.Shelf
def Yi:Go.Shelf.Ren:=⟨fun|160=>228|232=>243|231=>242|227=>244|234=>246|233=>245|236=>248|235=>247|228=>252|271=>255|151=>254|197=>253|120=>259|152=>258|260=>257|137=>260|119=>261|224=>262|225=>263|217=>264|266=>265|n=>n,fun|9=>9|4=>4|3=>3|5=>5|117=>317|116=>316|0=>0|124=>320|21=>21|105=>324|46=>216|119=>329|139=>332|138=>331|n=>n,fun|3=>0|4=>1|n=>n⟩
theorem Ais:Go.Proofs.Lays.n160 prog Yi:={
 mixed:=by kernel_rfl
 f119:=func261.trans (congrArg some (by kernel_rfl))
 f120:=func259.trans (congrArg some (by kernel_rfl))
 f137:=func260.trans (congrArg some (by kernel_rfl))
 f151:=func254.trans (congrArg some (by kernel_rfl))
 f152:=func258.trans (congrArg some (by kernel_rfl))
 f160:=func228.trans (congrArg some (by kernel_rfl))
 f197:=func253.trans (congrArg some (by kernel_rfl))
 f217:=func264.trans (congrArg some (by kernel_rfl))
 f224:=func262.trans (congrArg some (by kernel_rfl))
 f225:=func263.trans (congrArg some (by kernel_rfl))
 f227:=func244.trans (congrArg some (by kernel_rfl))
 f228:=func252.trans (congrArg some (by kernel_rfl))
 f231:=func242.trans (congrArg some (by kernel_rfl))
 f232:=func243.trans (congrArg some (by kernel_rfl))
 f233:=func245.trans (congrArg some (by kernel_rfl))
 f234:=func246.trans (congrArg some (by kernel_rfl))
 f235:=func247.trans (congrArg some (by kernel_rfl))
 f236:=func248.trans (congrArg some (by kernel_rfl))
 f260:=func257.trans (congrArg some (by kernel_rfl))
 f266:=func265.trans (congrArg some (by kernel_rfl))
 f271:=func255.trans (congrArg some (by kernel_rfl))
 t0:=underlying0
 a0:=Tryz.isAgg0
 z0:=Tryz.sizeOf0
 v0:=Tryz.zeroValue0
 t3:=underlying3
 a3:=Tryz.isAgg3
 z3:=Tryz.sizeOf3
 v3:=Tryz.zeroValue3
 t4:=underlying4
 a4:=Tryz.isAgg4
 z4:=Tryz.sizeOf4
 v4:=Tryz.zeroValue4
 t5:=underlying5
 a5:=Tryz.isAgg5
 z5:=Tryz.sizeOf5
 v5:=Tryz.zeroValue5
 t9:=underlying9
 a9:=Tryz.isAgg9
 z9:=Tryz.sizeOf9
 v9:=Tryz.zeroValue9
 t21:=underlying21
 a21:=Tryz.isAgg21
 z21:=Tryz.sizeOf21
 v21:=Tryz.zeroValue21
 t46:=underlying216
 a46:=Tryz.isAgg216
 z46:=Tryz.sizeOf216
 v46:=Tryz.zeroValue216
 t105:=underlying324
 a105:=Tryz.isAgg324
 z105:=Tryz.sizeOf324
 v105:=Tryz.zeroValue324
 t116:=underlying316
 a116:=Tryz.isAgg316
 z116:=Tryz.sizeOf316
 t117:=underlying317
 a117:=Tryz.isAgg317
 z117:=Tryz.sizeOf317
 v117:=Tryz.zeroValue317
 t119:=underlying329
 a119:=Tryz.isAgg329
 z119:=Tryz.sizeOf329
 t124:=underlying320
 a124:=Tryz.isAgg320
 z124:=Tryz.sizeOf320
 v124:=Tryz.zeroValue320
 t138:=underlying331
 a138:=Tryz.isAgg331
 z138:=Tryz.sizeOf331
 v138:=Tryz.zeroValue331
 t139:=underlying332
 a139:=Tryz.isAgg332
 z139:=Tryz.sizeOf332
 v139:=Tryz.zeroValue332
 g3:=by kernel_rfl
 g4:=by kernel_rfl }
def Yj:List UInt8:=[97,98,99,100,101,102,103,104,105,106,107,108,109,110,111,112,113,114,115,116,117,118,119,120,121,122,48,49,50,51,52,53,54,55,56,57]
theorem Adu:∀n:Fin 256,Yj.contains (UInt8.ofNat n.val)=(Fg (UInt8.ofNat n.val)||Jc (UInt8.ofNat n.val)):=by decide +kernel
theorem Adv (b:UInt8):Yj.contains b=(Fg b||Jc b):=by
 have h:=Adu ⟨b.toNat,b.toNat_lt⟩;simpa using h
theorem Ty (p:UInt8->Bool)(l:List UInt8):(l.dropWhile p).all p=l.all p:=by
 induction l with
 | nil=>rfl
 | cons a l ih=>
  rw[List.dropWhile_cons];cases h:p a
  ·simp[h]
  ·simp[h,ih]
theorem Tz (p:UInt8->Bool)(l:List UInt8):(l.dropWhile p).isEmpty=l.all p:=by
 induction l with
 | nil=>rfl
 | cons a l ih=>
  rw[List.dropWhile_cons];cases h:p a
  ·simp[h]
  ·simp[h,ih]
theorem Adw (l cs:List UInt8):(Lib.trimS l cs).isEmpty=l.all (cs.contains ·):=by
 unfold Lib.trimS Lib.trimLeftS Lib.trimRightS;rw[Tz,List.all_reverse,Ty,List.all_reverse]
theorem Adx (l:List UInt8):l.all (Yj.contains ·)=l.all fun c=>Fg c||Jc c:=by
 congr 1;funext c;exact Adv c
theorem Aga (s:ByteArray)(w:World)(hs:s.size<=9223372036854775807):Calls prog 228 #[.string s,.string ⟨#[97,98,99,100,101,102,103,104,105,106,107,108,109,110,111,112,113,114,115,116,117,118,119,120,121,122,48,49,50,51,52,53,54,55,56,57]⟩] w fun e w'=>∃t:ByteArray,e=.returned (.string t)/\t.toList.isEmpty=(s.data.toList.all fun c=>Fg c||Jc c)/\Ext [] w w':=by
 refine(Any.strings_Trim_laid Ais (by kernel_rfl) s ⟨Yj.toArray⟩ w hs (by decide) (ascii_of_all (by decide))).mono ?_
 rintro e w' ⟨rfl,h⟩;refine⟨_,rfl,?_,Ext.of_below h _⟩
 rw[ByteArray.toList_eq];show(Lib.trimS s.data.toList Yj).isEmpty=_
 rw[Adw,Adx]
def Yk (s:ByteArray):Bool:=!s.data.toList.isEmpty&&s.data.toList.all fun c=>Fg c||Jc c
theorem Ua (s:ByteArray)(w:World)(hs:s.size<=9223372036854775807):Calls prog 215 #[.string s] w fun e w'=>e=.returned (.bool (Yk s))/\Ext [] w w':=by
 have HT:=hd (Aga s w hs);have HL:Hd (s.toList=s.data.toList):=hd (ByteArray.toList_eq s);by_cases h0:s.toList=[]
 ·have HF:Hd (Yk s=false):=hd (by unfold Yk;rw[<-HL.o,h0];rfl);go_enter func215,ntmps215
  go_wp2_with fail
  go_ret
  exact⟨Aa HF.o.symm,jF _ _⟩
 ·have HF:Hd (Yk s=s.data.toList.all fun c=>Fg c||Jc c):=hd (by unfold Yk;rw[<-HL.o];cases h:s.toList with|nil=>exact absurd h h0|cons a l=>rfl);go_enter func215,ntmps215
  go_wp2_with fail
  refine HT.o.mono ?_
  rintro e w' ⟨t,rfl,ht,hE⟩;have a1:=hd ht;have HE:=hd hE;clear ht hE;cases hz:t.toList.isEmpty
  ·have HZ:=hd hz;have hz':¬t.toList=[]:=by intro e;rw[e] at hz;cases hz
   clear hz;go_wp2_with fail
   go_ret
   exact⟨Aa (by rw[HF.o,<-a1.o,HZ.o];simp[h0]),HE.o⟩
  ·have HZ:=hd hz;have hz':t.toList=[]:=List.isEmpty_iff.1 hz;clear hz;go_wp2_with fail
   go_ret
   exact⟨Aa (by rw[HF.o,<-a1.o,HZ.o];simp[h0]),HE.o⟩
theorem Ady {s:ByteArray}(h:s.size=0):Cy s=false:=by
 unfold Cy;have:s.data.toList=[]:=List.length_eq_zero_iff.1 (by simpa using h);rw[this]
theorem Aav {s:ByteArray}(h:0<s.size):Cy s=(decide (s.size<=8)&&(Fg (s[0]'h)&&Yk s)):=by
 have hl:s.data.toList.length=s.size:=by simp
 obtain⟨b,r,hb⟩:∃b r,s.data.toList=b :: r:=by
  cases hd:s.data.toList with
  | nil=>rw[hd] at hl;simp at hl;omega
  | cons b r=>exact⟨b,r,rfl⟩
 have h0:s[0]'h=b:=by
  have:s.data.toList[0]? = some b:=by rw[hb];rfl
  have h2:s.data.toList[0]? = some (s.data[0]'(by simpa using h)):=by simp
  rw[this] at h2;injection h2 with h2;exact h2.symm
 have a1:s.size=r.length+1:=by rw[<-hl,hb];rfl
 unfold Cy Yk;rw[hb,h0,a1];simp only[List.isEmpty_cons,Bool.not_false,Bool.true_and,List.all_cons];by_cases h7:r.length<=7
 ·have h8:r.length+1<=8:=by omega
  cases h9:Fg b<;>simp[h7,h8]
 ·have h8:¬(r.length+1<=8):=by omega
  simp[h7,h8]
theorem Sb (s:ByteArray)(w:World)(hs:s.size<=9223372036854775807):Calls prog 185 #[.string s] w fun e w'=>e=.returned (.bool (Cy s))/\Ext [] w w':=by
 have HT:=hd (fun W=>Ua s W hs);by_cases h0:s.size=0
 ·have HN:=hd (Ady h0);go_enter func185,ntmps185
  go_wp2_with fail
  go_ret
  exact⟨Aa HN.o.symm,jF _ _⟩
 ·have a1:0<s.size:=by omega
  have HN:=hd (Aav a1);by_cases h8:s.size<=8
  ·cases h1:Fg (s[0]'a1)
   ·have HF:Hd (Cy s=false):=hd (by rw[HN.o,h1];simp);have h2:¬(97<=(s[0]'a1).toNat/\(s[0]'a1).toNat<=122):=by simpa[Fg] using h1
    clear HN h1;go_enter func185,ntmps185
    go_wp2_with fail
    all_goals first|(go_ret;exact⟨Aa HF.o.symm,jF _ _⟩)|(exfalso;omega)
   ·have HF:Hd (Cy s=Yk s):=hd (by rw[HN.o,h1];simp[h8]);have h2:97<=(s[0]'a1).toNat/\(s[0]'a1).toNat<=122:=by simpa[Fg] using h1
    clear HN h1;go_enter func185,ntmps185
    go_wp2_with fail
    all_goals try (exfalso;omega)
    refine(HT.o _).mono ?_
    rintro e w' ⟨rfl,hE⟩;have HE:=hd hE;clear hE;go_wp2_with fail
    go_ret
    exact⟨Aa HF.o.symm,HE.o⟩
  ·have HF:Hd (Cy s=false):=hd (by rw[HN.o];simp[h8]);clear HN;go_enter func185,ntmps185
   go_wp2_with fail
   go_ret
   exact⟨Aa HF.o.symm,jF _ _⟩
theorem Ay (x lo hi:Int)(w:World):Calls prog 77 #[x,lo,hi] w fun e w'=>e=.returned (.bool (btw x lo hi))/\w=w':=by
 by_cases h1:lo<=x
 ·have h2:decide (lo<=x)=true:=by simpa using h1
  go_enter func77,ntmps77
  go_wp2
  go_ret
  exact⟨Aa (by unfold btw;rw[h2,Bool.true_and]),rfl⟩
 ·have h2:decide (lo<=x)=false:=by simpa using h1
  go_enter func77,ntmps77
  go_wp2
  go_ret
  exact⟨Aa (by unfold btw;rw[h2,Bool.false_and]),rfl⟩
theorem Ic (x:Int)(w:World):Calls prog 80 #[x] w fun e w'=>e=.returned (.bool (Dt x))/\w=w':=by
 go_enter func80,ntmps80
 go_wp2_with fail
 refine(Ay _ _ _ _).mono ?_
 rintro e w' ⟨rfl,rfl⟩;go_wp2_with fail
 go_ret
 exact⟨rfl,rfl⟩
theorem Cg (b:Int)(A:Option Addr)(l c:Nat)(w:World):Calls prog 122 #[.agg #[b,.slice A l c]] w fun e w'=>e=.returned (.bool (decide (b=0)&&decide (l=0)))/\Ext [] w w':=by
 by_cases h:b=0
 ·have h2:(b==0)=true:=by simpa using h
  go_enter func122,ntmps122
  go_wp2_with fail
  go_ret
  exact⟨Aa (by simp[h,Adl]),by first|exact jF _ _|exact(jF _ _).alloc _⟩
 ·have h2:(b==0)=false:=by simpa using h
  go_enter func122,ntmps122
  go_wp2_with fail
  go_ret
  exact⟨Aa (by simp[h,Adl]),by first|exact jF _ _|exact(jF _ _).alloc _⟩
def Nj (s:ByteArray)(j:Nat):Bool:=match s.data.toList[j]? with|none=>true|some c=>Fg c||(decide (j≠0)&&Jc c)
theorem Kf (s:ByteArray):Cy s=true ↔ (1<=s.size/\s.size<=8)/\∀j,j<s.size->Nj s j=true:=by
 have hl:s.data.toList.length=s.size:=by simp
 unfold Cy;cases hd:s.data.toList with
 | nil=>rw[hd] at hl;simp at hl;simp;omega
 | cons b r=>
  rw[hd] at hl;simp only[List.length_cons] at hl;simp only[Bool.and_eq_true,decide_eq_true_eq,List.all_eq_true];constructor
  ·rintro⟨⟨h1,h2⟩,h3⟩;refine⟨by omega,fun j hj=>?_⟩
   unfold Nj;rw[hd];cases j with
   | zero=>simp[h2]
   | succ j=>
    have a1:j<r.length:=by omega
    have:=h3 _ (List.getElem_mem a1);simp only[List.getElem?_cons_succ,jJ a1];simpa using this
  ·rintro⟨h1,h2⟩;refine⟨⟨by omega,?_⟩,fun c hc=>?_⟩
   ·have:=h2 0 (by omega);unfold Nj at this;rw[hd] at this;simpa using this
   ·obtain⟨j,hj,rfl⟩:=List.getElem_of_mem hc;have:=h2 (j+1) (by omega);unfold Nj at this;rw[hd] at this;simp only[List.getElem?_cons_succ,jJ hj] at this;simpa using this
theorem Ad2 {s:ByteArray}{j:Nat}(hj:j<s.size)(h:Nj s j=false):Cy s=false:=by
 rw[<-Bool.not_eq_true];intro hn;rw[((Kf s).1 hn).2 j hj] at h;cases h
theorem Agh {s:ByteArray}{j:Nat}(hj:j<s.size):Nj s j=(Fg (s[j]'hj)||(decide (j≠0)&&Jc (s[j]'hj))):=by
 unfold Nj
 have:s.data.toList[j]? = some (s[j]'hj):=by
  have h2:s.data.toList[j]? = some (s.data[j]'(by simpa using hj)):=by simp
  rw[h2];rfl
 rw[this]
set_option maxRecDepth 100000 in
theorem Vb (s:ByteArray)(w:World)(hs:s.size<=9223372036854775807):Calls prog 74 #[.string s] w fun e w'=>e=.returned (.bool (Cy s))/\Ext [] w w':=by
 go_enter func74,ntmps74
 go_wp2_with fail
 go_loopw [8] (fun i wr=>∃k:Nat,i=.int .i64 k/\k<=s.size/\Hd (Ext [] w wr)/\Hd (∀j,j<k->Nj s j=true)) (fun i _=>(s.size-intOf i).toNat)
 case atStart=>exact⟨0,rfl,jQ _,hd (jF _ _),hd fun j hj=>absurd hj (by omega)⟩
 case round=>
  obtain⟨k,rfl,hk,HE,HN⟩:=hrel;rename World=>wq
  by_cases af:k<s.size
  ·have aj:(k:Int)<(s.size:Int):=by omega
   have HC:=hd (Agh af)
   have ag:∀W:World,(Instr.index 9 (.string s) (.int .i64 k)).run prog W=.ok (.int .u8 (s[k]'af).toNat) W:=fun W=>by
    rw[run_index_string _ _ _ _ _ underlying9];simp[af]
   generalize ah:(s[k]'af)=c at HC ag;have a6:∃a,decide ((97:Int)<=(c.toNat:Int))=a:=⟨_,rfl⟩;have a1:∃a,decide ((c.toNat:Int)<=122)=a:=⟨_,rfl⟩;have a7:∃a,decide ((48:Int)<=(c.toNat:Int))=a:=⟨_,rfl⟩;have a8:∃a,decide ((c.toNat:Int)<=57)=a:=⟨_,rfl⟩;obtain⟨ac,a6⟩:=a6;obtain⟨a2,a1⟩:=a1;obtain⟨ad,a7⟩:=a7;obtain⟨ae,a8⟩:=a8
   have HV:Hd (Nj s k=((ac&&a2)||(decide (k≠0)&&(ad&&ae)))):=hd (by
    rw[HC.o,<-a6,<-a1,<-a7,<-a8];unfold Fg Jc;have e1:decide ((97:Int)<=(c.toNat:Int))=decide (97<=c.toNat):=by rw[decide_eq_decide];omega
    have e2:decide ((c.toNat:Int)<=122)=decide (c.toNat<=122):=by rw[decide_eq_decide];omega
    have e3:decide ((48:Int)<=(c.toNat:Int))=decide (48<=c.toNat):=by rw[decide_eq_decide];omega
    have e4:decide ((c.toNat:Int)<=57)=decide (c.toNat<=57):=by rw[decide_eq_decide];omega
    rw[e1,e2,e3,e4])
   generalize ai:(c.toNat:Int)=ci at *;clear HC ah ai;go_upto_region 4 with fail
   have e0:((k:Int)==0)=decide (k=0):=by
    by_cases h:k=0
    ·simp[h]
    ·have:¬(k:Int)=0:=by omega
     simp[h,this]
   have aa:Hd (Nj s k=((ac&&a2)||(!decide (k=0)&&(ad&&ae)))):=hd (by rw[HV.o];simp);generalize decide (k=0)=bz at e0 aa;clear HV;cases bz
   all_goals
    cases ac<;>cases a2<;>cases ad<;>cases ae
    all_goals
     go_quiet (fail)
     go_wp2_with fail
     first
      | (
        go_roundw
        case rel=>exact⟨k+1,by go_num,by omega,hd (HE.o.drewN _),hd fun j hj=>by
         rcases Nat.lt_or_ge j k with h1|h1
         ·exact HN.o j h1
         ·have:j=k:=by omega
          rw[this];exact aa.o⟩
        case measure=>simp[intOf];omega)
      | (
        go_ret
        exact⟨Aa (Ad2 af aa.o).symm,HE.o.drewN _⟩)
  ·have ak:k=s.size:=by omega
   have ab:=hd (fun j (hj:j<s.size)=>HN.o j (by omega));by_cases h1:1<=s.size
   ·have e1:decide ((1:Int)<=(s.size:Int))=true:=by simp;omega
    by_cases h8:s.size<=8
    ·have e8:decide ((s.size:Int)<=8)=true:=by simp;omega
     have HF:=hd ((Kf s).2 ⟨⟨h1,h8⟩,ab.o⟩);go_wp2_with fail
     go_ret
     exact⟨Aa HF.o.symm,HE.o⟩
    ·have e8:decide ((s.size:Int)<=8)=false:=by simp;omega
     have HF:Hd (Cy s=false):=hd (by rw[<-Bool.not_eq_true];intro h;have:=((Kf s).1 h).1;omega);go_wp2_with fail
     go_ret
     exact⟨Aa HF.o.symm,HE.o⟩
   ·have e1:decide ((1:Int)<=(s.size:Int))=false:=by simp;omega
    have HF:Hd (Cy s=false):=hd (by rw[<-Bool.not_eq_true];intro h;have:=((Kf s).1 h).1;omega);go_wp2_with fail
    go_ret
    exact⟨Aa HF.o.symm,HE.o⟩
theorem Ud:∀args w,(callFunc 174 args).run prog w=.ok (.enter 174 args) w:=by
 obtain⟨c,hc⟩:∃c,Tryz.f174.body=some c:=⟨_,rfl⟩;exact fun args w=>enters_of func174 (by kernel_rfl) hc args w
theorem Aa0 (t:ByteArray×Int)(b:Nat)(VA:Option Addr)(vn vc:Nat)(vars:List ByteArray)(w:World)(hb:w.cell? ⟨b,0,none⟩=some (.slice VA vn vc))(hv:Ak w VA 1 sC vars)(hvn:vars.length=vn) :
  Calls prog 174 (#[tmV t] ++ #[.pointer (some b)]) w (Fk (Fh vars t) w):=by
 obtain⟨x0,x1⟩:=t;have a2:=jB w _ hb;simp only at a2;have HV:=hd hv;have a6:=hd hvn;clear hv hvn;unfold tmV;simp only;have a1:=hd ((jF [] w).alloc (.cells #[.string x0,x1] 178));go_enter func174,ntmps174
 go_wp2_with fail
 refine(Of VA vn vc vars x0 _ (HV.o.keep a1.o) a6.o).mono ?_
 rintro e w' ⟨rfl,hE⟩;have a7:=hd (a1.o.trans hE);clear hE;go_wp2_with fail
 go_ret
 exact⟨Aa rfl,a7.o⟩
set_option maxRecDepth 100000 in
theorem Ja (a:Af)(VA:Option Addr)(vn vc:Nat)(vars:List ByteArray)(w:World)(ha:Jn w a)(hv:Ak w VA 1 sC vars)(hvn:vars.length=vn) :
  Calls prog 127 #[afV a,.slice VA vn vc] w (My (Cn vars a) w):=by
 obtain⟨base,tA,tc,ts⟩:=a;generalize ht:ts.length=n;have al:n<=1000000:=by have:=ha.1;simp only at this;omega
 have HA:Hd (Ak w tA 2 tmC ts):=hd ha;have HV:=hd hv;have HT:=hd ht;have af:=hd hvn;clear ha hv hvn;unfold afV;simp only[ht];clear ht;have a2:=hd (((jF [] w).alloc (.cells #[base,.slice tA n tc] 38)).alloc (.cells #[.slice VA vn vc] 133));have a6:=hd ((jK w 38 #[base,.slice tA n tc]).ext ((jF [] _).alloc (.cells #[.slice VA vn vc] 133)) (by simp));have a8:=hd (jK (w.alloc (.cells #[base,.slice tA n tc] 38)) 133 #[.slice VA vn vc]);have alloc_size':∀(w:World) (o:Obj),(w.alloc o).heap.size=w.heap.size+1:=fun w o=>Array.size_push ..
 rw[alloc_size'] at a8;clear alloc_size';by_cases h0:10<n
 ·have HR:=hd (Rh (vars:=vars) (a:=⟨base,tA,tc,ts⟩) (by rw[HT.o];exact h0));go_enter func127,ntmps127
  go_wp2_with fail
  go_ret
  exact⟨Ae HR.o.symm,a2.o⟩
 ·have H0:Hd (¬10<(⟨base,tA,tc,ts⟩:Af).ts.length):=hd (by rw[HT.o];exact h0);cases hb:bdd base
  ·have HR:=hd (Uk (vars:=vars) H0.o hb);have HB:=hd hb;clear hb;go_enter func127,ntmps127
   go_wp2_with fail
   refine(Ay _ _ _ _).mono ?_
   rintro e w' ⟨rfl,rfl⟩;rw[show btw base (-100000) 100000=false from HB.o];go_wp2_with fail
   go_ret
   exact⟨Ae HR.o.symm,a2.o⟩
  ·have HB:=hd hb;clear hb;go_enter func127,ntmps127
   go_wp2_with fail
   refine(Ay _ _ _ _).mono ?_
   rintro e w' ⟨rfl,rfl⟩;rw[show btw base (-100000) 100000=true from HB.o];go_wp2_with fail
   generalize World.alloc (World.alloc w _) _=w0 at *;generalize w.heap.size=s at *;go_loopw [19] (fun i wr=>∃k:Nat,i=.int .i64 k/\k<=n/\Hd (Ext [] w0 wr)/\Hd (∀(j:Nat) (x:ByteArray×Int),j<k->ts[j]? = some x->Lg x=false)) (fun i _=>(n-intOf i).toNat)
   case atStart=>exact⟨0,rfl,jQ _,hd (jF _ _),hd fun j x hj=>absurd hj (by omega)⟩
   case round=>
    obtain⟨k,rfl,hk,HE,HN⟩:=hrel;rename World=>wq
    by_cases ak:k<n
    ·obtain⟨b,⟨x0,x1⟩,rfl,hx,hc⟩:=((HA.o.keep a2.o).keep HE.o).at (i:=k) (by have:=HT.o;omega);have g0:=hc 0 _ rfl;have g1:=hc 1 _ rfl;rw[Nat.add_zero] at g0;have HX:=hd hx;clear hx hc;have aa:=hd (HE.o.alloc (.cells #[.string x0,x1] 178));go_wp2_with fail
     refine(Ay _ _ _ _).mono ?_
     rintro e w' ⟨rfl,rfl⟩;cases hp:Lg (x0,x1)
     ·have ab:bdd x1=true:=by
       simp[Lg] at hp;exact hp.1
      have am:(x1==0)=false:=by
       simp[Lg] at hp;simpa using hp.2
      have HQ:=hd hp;rw[show btw x1 (-100000) 100000=true from ab];clear hp ab;go_wp2_with fail
      go_roundw
      case rel=>
       refine⟨k+1,by go_num,by omega,aa,hd fun j x hj hx=>?_⟩
       rcases Nat.lt_or_ge j k with h1|h1
       ·exact HN.o j x h1 hx
       ·have:j=k:=by omega
        subst this;have:=HX.o.symm.trans hx;cases this
        exact HQ.o
      case measure=>simp[intOf];omega
     ·have HR:Hd (Cn vars ⟨base,some b,tc,ts⟩=9):=hd (Xq (vars:=vars) H0.o HB.o (Ii HX.o hp))
      have hq:bdd x1=false\/bdd x1=true/\x1=0:=by
       cases hb:bdd x1
       ·exact .inl rfl
       ·simp[Lg,hb] at hp;exact .inr ⟨rfl,hp⟩
      clear hp;rcases hq with hq|⟨hq,rfl⟩
      all_goals
       unfold bdd at hq;rw[hq];clear hq;go_wp2_with fail
       go_ret
       exact⟨Ae HR.o.symm,a2.o.trans aa.o⟩
    ·have H2:=hd (Ep HT.o (fun j x hj hx=>HN.o j x (by omega) hx));have ac:=HE;have qb:=(a6.o.ext HE.o (by simp)).cell;have ql:=(a6.o.ext HE.o (by simp)).lt;clear HN;go_wp2_with fail
     clear qb ql;go_loopw [7] (fun i wr=>∃k:Nat,i=.int .i64 k/\1<=k/\(k<=n\/k=1)/\Hd (Ext [] w0 wr)/\Hd (∀(j:Nat) (x y:ByteArray×Int),j+1<k->ts[j]? = some x->ts[j+1]? = some y->ltS x.1 y.1=true)) (fun i _=>(n-intOf i).toNat)
     case atStart=>exact⟨1,rfl,jD _,.inr rfl,ac,hd fun j x y hj=>absurd hj (by omega)⟩
     case round=>
      obtain⟨k,rfl,aq,hk,HE,HN⟩:=hrel;clear ac;rename World=>wz
      have qb:=(a6.o.ext HE.o (by simp)).cell;have ql:=(a6.o.ext HE.o (by simp)).lt;by_cases ak:k<n
      ·obtain⟨q,rfl⟩:∃q,k=q+1:=⟨k-1,by omega⟩;obtain⟨b,⟨x0,x1⟩,rfl,hx,hc⟩:=((HA.o.keep a2.o).keep HE.o).at (i:=q+1) (by have:=HT.o;omega);obtain⟨b',⟨y0,y1⟩,aj,hy,ae⟩:=((HA.o.keep a2.o).keep HE.o).at (i:=q) (by have:=HT.o;omega);cases aj
       have g0:=hc 0 _ rfl;have e0:=ae 0 _ rfl;rw[Nat.add_zero] at g0 e0;have HX:=hd hx;have HY:=hd hy;have ag:=jB wz _ g0;simp only at ag;have an:(q:Int)+1<(n:Int):=by omega
       have ao:(q:Int)<(n:Int):=by omega
       have ap:IntKind.i64.wrap (q:Int)=q:=by rw[IntKind.wrap_i64];omega
       clear hx hc hy ae;go_wp2_with fail
       cases hp:ltS y0 x0
       ·have HR:Hd (Cn vars ⟨base,some b,tc,ts⟩=7):=hd (Ri H0.o HB.o H2.o (Rf HY.o HX.o hp));have a1:=Afk x0 y0;rw[hp] at a1;cases h1:ltS x0 y0
        ·rw[h1] at a1;have h1':Op.bytesLess x0.toList y0.toList=false:=h1;have h2':(x0.toList==y0.toList)=true:=by simpa[eqS] using a1
         clear hp h1 a1;go_quiet (fail)
         go_wp2_with fail
         go_ret
         exact⟨Ae HR.o.symm,a2.o.trans (HE.o.drewN _)⟩
        ·have h1':Op.bytesLess x0.toList y0.toList=true:=h1;clear hp h1 a1;go_quiet (fail)
         go_wp2_with fail
         go_ret
         exact⟨Ae HR.o.symm,a2.o.trans (HE.o.drewN _)⟩
       ·have HQ:=hd hp;have a1:=Afk x0 y0;rw[hp] at a1;simp only[Bool.not_true,Bool.or_eq_false_iff] at a1;have h1':Op.bytesLess x0.toList y0.toList=false:=a1.1;have h2':(x0.toList==y0.toList)=false:=a1.2;clear hp a1;go_quiet (fail)
        go_wp2_with fail
        go_roundw
        case rel=>
         refine⟨q+1+1,by go_num,by omega,by omega,hd (HE.o.drewN _),hd fun j x y hj hx hy=>?_⟩
         rcases Nat.lt_or_ge j q with h1|h1
         ·exact HN.o j x y (by omega) hx hy
         ·have:j=q:=by omega
          subst this;have h3:=HY.o.symm.trans hx;have h4:=HX.o.symm.trans hy;cases h3;cases h4
          exact HQ.o
        case measure=>simp[intOf];omega
      ·have H3:Hd (unord ts=false):=hd (Nm fun j x y hx hy=>HN.o j x y (by have:=(ils hy).1;have:=HT.o;omega) hx hy);clear HN;have a7:=a2.o.trans HE.o;have ah:=hd (Aj3 tA n tc ts 174 #[.pointer (some ⟨s+1,0,none⟩)] (Fh vars) wz (HA.o.keep a7) HT.o ⟨Ud,fun i x hx w' hE=>Aa0 x (s+1) VA vn vc vars w' ((a8.o.ext (HE.o.trans hE) (by simp)).cell 0) ((HV.o.keep a7).keep hE) af.o⟩);have ai:=hd a7;clear a7;go_wp2_with fail
       refine ah.o.mono ?_
       rintro e w' ⟨rfl,hE⟩;have ad:=hd (ai.o.trans hE);clear hE;cases hst:ts.any (Fh vars)
       ·have HR:Hd (Cn vars ⟨base,tA,tc,ts⟩=0):=hd (Acd H0.o HB.o H2.o H3.o hst);clear hst;go_wp2_with fail
        go_ret
        exact⟨Ae HR.o.symm,ad.o⟩
       ·have HR:Hd (Cn vars ⟨base,tA,tc,ts⟩=5):=hd (Ul H0.o HB.o H2.o H3.o hst);clear hst;go_wp2_with fail
        go_ret
        exact⟨Ae HR.o.symm,ad.o⟩
def Hq (op:Int):Int:=if op=15 then 3 else if 11<=op then 1 else 2
theorem Gl (op:Int)(w:World):Calls prog 208 #[op] w fun e w'=>e=.returned (.int .i64 (Hq op))/\w=w':=by
 by_cases h1:op=15
 ·subst h1;go_enter func208,ntmps208
  go_wp2_with fail
  go_ret
  exact⟨rfl,rfl⟩
 ·have e1:(op==15)=false:=by simpa using h1
  have H1:=hd h1;clear h1;by_cases h2:11<=op
  ·have e2:decide (11<=op)=true:=by simpa using h2
   have H2:=hd h2;clear h2;go_enter func208,ntmps208
   go_wp2_with fail
   go_ret
   exact⟨Ae (by unfold Hq;rw[ijn H1.o,ijp H2.o]),rfl⟩
  ·have e2:decide (11<=op)=false:=by simpa using h2
   have H2:=hd h2;clear h2;go_enter func208,ntmps208
   go_wp2_with fail
   go_ret
   exact⟨Ae (by unfold Hq;rw[ijn H1.o,ijn (by have:=H2.o;omega)]),rfl⟩
theorem Pd (k:Int)(w:World):Calls prog 176 #[k] w fun e w'=>e=.returned (.bool (decide (k=3)||decide (k=4)))/\w=w':=by
 by_cases h1:k=3
 ·subst h1;go_enter func176,ntmps176
  go_wp2_with fail
  go_ret
  exact⟨rfl,rfl⟩
 ·have e1:(k==3)=false:=by simpa using h1
  go_enter func176,ntmps176
  go_wp2_with fail
  go_ret
  exact⟨Aa (by by_cases h2:k=4<;>simp[h1,h2]),rfl⟩
theorem Bm (w:World)(o:Obj):(w.alloc o).heap.size=w.heap.size+1:=Array.size_push ..
set_option maxRecDepth 100000 in
theorem Sg (x1 x2 x3 x4 x5 x6 y0:Int)(y1:Option Addr)(l y2:Nat)(x8:Option Addr)(n x9:Nat)(w:World) :
  Calls prog 170 #[.agg #[(1:Int),x1,x2,x3,x4,x5,x6,y0,.slice y1 l y2,.slice x8 n x9]] w fun e w'=>
   e=.returned (.bool (decide (x1=0)&&decide (x2=0)&&decide (x3=0)&&decide (x5=0)&&decide (x6=0)&&(decide (y0=0)&&decide (l=0))&&decide ((n:Int)=0)))/\Ext [] w w':=by
 have ap:=hd (((jF [] w).alloc (.cells #[(1:Int),x1,x2,x3,x4,x5,x6,y0,.slice y1 l y2,.slice x8 n x9] 41)).alloc (.cells #[(1:Int),x1,x2,x3,x4,x5,x6,y0,.slice y1 l y2,.slice x8 n x9] 41));have ah:=hd ((jK w 41 #[(1:Int),x1,x2,x3,x4,x5,x6,y0,.slice y1 l y2,.slice x8 n x9]).ext ((jF [] _).alloc (.cells #[(1:Int),x1,x2,x3,x4,x5,x6,y0,.slice y1 l y2,.slice x8 n x9] 41)) (by simp));have af:=hd (jK (w.alloc (.cells #[(1:Int),x1,x2,x3,x4,x5,x6,y0,.slice y1 l y2,.slice x8 n x9] 41)) 41 #[(1:Int),x1,x2,x3,x4,x5,x6,y0,.slice y1 l y2,.slice x8 n x9]);rw[Bm] at af;go_enter func170,ntmps170
 go_upto_region 2 with fail
 generalize World.alloc (World.alloc w _) _=w2 at *;generalize hs:w.heap.size=s at *;have q1:=ah.o.cell;have aq:=ah.o.lt;have q3:=af.o.cell;have ay:=af.o.frozen;have au:=af.o.lt;go_upto_region 21 with fail
 have aw:=hd (af.o.set_' 4 (.int .i64 0) #[(1:Int),x1,x2,x3,(0:Int),x5,x6,y0,.slice y1 l y2,.slice x8 n x9] rfl);have aj:=hd (jL (b:=s+1) (i:=4) (u:=.int .i64 0) (.inl (by simp)) (jF [s+1] w2));have ag:=hd (ap.o.nil.step aj.o fun x hx=>.inr (by rw[jA.1 hx];omega):Ext [] w _);have ai:=hd (ah.o.ext aj.o (fun hm=>by rw[jA] at hm;omega));generalize (w2.setCell ⟨s+1,4,none⟩ (.int .i64 0))=w4 at *;clear q1 aq q3 ay au ah af ap aj;have q3:=aw.o.cell;have au:=aw.o.lt;have q1:=ai.o.cell;have aq:=ai.o.lt;by_cases a1:x1=0
 case neg=>
  have ak:(x1==0)=false:=by simpa using a1
  have aa:=hd a1;clear a1;go_wp2_with fail
  go_ret
  exact⟨Aa (by have:=aa.o;simp[this]),ag.o⟩
 have ak:(x1==0)=true:=by simpa using a1
 have aa:=hd a1;clear a1;by_cases a2:x2=0
 case neg=>
  have al:(x2==0)=false:=by simpa using a2
  have ab:=hd a2;clear a2;go_wp2_with fail
  go_ret
  exact⟨Aa (by have:=ab.o;simp[this]),ag.o⟩
 have al:(x2==0)=true:=by simpa using a2
 have ab:=hd a2;clear a2;by_cases a6:x3=0
 case neg=>
  have am:(x3==0)=false:=by simpa using a6
  have ac:=hd a6;clear a6;go_wp2_with fail
  go_ret
  exact⟨Aa (by have:=ac.o;simp[this]),ag.o⟩
 have am:(x3==0)=true:=by simpa using a6
 have ac:=hd a6;clear a6;by_cases a7:x5=0
 case neg=>
  have an:(x5==0)=false:=by simpa using a7
  have ad:=hd a7;clear a7;go_wp2_with fail
  go_ret
  exact⟨Aa (by have:=ad.o;simp[this]),ag.o⟩
 have an:(x5==0)=true:=by simpa using a7
 have ad:=hd a7;clear a7;by_cases a8:x6=0
 case neg=>
  have ao:(x6==0)=false:=by simpa using a8
  have ae:=hd a8;clear a8;go_wp2_with fail
  go_ret
  exact⟨Aa (by have:=ae.o;simp[this]),ag.o⟩
 have ao:(x6==0)=true:=by simpa using a8
 have ae:=hd a8;clear a8;go_wp2_with fail
 refine(Cg _ _ _ _ _).mono ?_
 rintro e w5 ⟨rfl,hE⟩;have ax:=hd (ag.o.trans hE);have q5:=(ai.o.ext hE (by simp)).cell;have az:=(ai.o.ext hE (by simp)).lt;clear hE;have e9:((n:Int)==0)=decide ((n:Int)=0):=by rw[Bool.eq_iff_iff];simp
 cases hz:(decide (y0=0)&&decide (l=0))
 ·have HZ:=hd hz;clear hz;go_wp2_with fail
  go_ret
  exact⟨Aa (by have hz:=HZ.o;simp at hz⊢;try simp_all),ax.o⟩
 ·have HZ:=hd hz;clear hz;go_wp2_with fail
  go_ret
  exact⟨Aa (by have hz:=HZ.o;simp[aa.o,ab.o,ac.o,ad.o,ae.o] at hz⊢;try simp_all),ax.o⟩
set_option maxRecDepth 100000 in
theorem Aa1 (x1 x2 x3 x4 x5 x6 y0:Int)(y1:Option Addr)(l y2:Nat)(x8:Option Addr)(n x9:Nat)(w:World) :
  Calls prog 170 #[.agg #[(2:Int),x1,x2,x3,x4,x5,x6,y0,.slice y1 l y2,.slice x8 n x9]] w fun e w'=>
   e=.returned (.bool (decide (x1=0)&&decide (x2=0)&&decide (x3=0)&&decide (x4=0)&&decide (x5=0)&&decide (x6=0)&&(decide (0=0)&&decide (0=0))&&decide ((n:Int)=0)))/\Ext [] w w':=by
 have aw:=hd (((jF [] w).alloc (.cells #[(2:Int),x1,x2,x3,x4,x5,x6,y0,.slice y1 l y2,.slice x8 n x9] 41)).alloc (.cells #[(2:Int),x1,x2,x3,x4,x5,x6,y0,.slice y1 l y2,.slice x8 n x9] 41));have aj:=hd ((jK w 41 #[(2:Int),x1,x2,x3,x4,x5,x6,y0,.slice y1 l y2,.slice x8 n x9]).ext ((jF [] _).alloc (.cells #[(2:Int),x1,x2,x3,x4,x5,x6,y0,.slice y1 l y2,.slice x8 n x9] 41)) (by simp));have ai:=hd (jK (w.alloc (.cells #[(2:Int),x1,x2,x3,x4,x5,x6,y0,.slice y1 l y2,.slice x8 n x9] 41)) 41 #[(2:Int),x1,x2,x3,x4,x5,x6,y0,.slice y1 l y2,.slice x8 n x9]);rw[Bm] at ai;go_enter func170,ntmps170
 go_upto_region 2 with fail
 generalize World.alloc (World.alloc w _) _=w2 at *;generalize hs:w.heap.size=s at *;have q1:=aj.o.cell;have ax:=aj.o.lt;have q3:=ai.o.cell;have aB:=ai.o.frozen;have ay:=ai.o.lt;go_upto_region 21 with fail
 have az:=hd ((ai.o.set_' 7 (.int .i64 0) #[(2:Int),x1,x2,x3,x4,x5,x6,(0:Int),.slice y1 l y2,.slice x8 n x9] rfl).set_' 8 (.slice none 0 0) #[(2:Int),x1,x2,x3,x4,x5,x6,(0:Int),.slice none 0 0,.slice x8 n x9] rfl);have al:=hd (jL (b:=s+1) (i:=8) (u:=.slice none 0 0) (.inl (by simp)) (jL (b:=s+1) (i:=7) (u:=.int .i64 0) (.inl (by simp)) (jF [s+1] w2)));have ab:=hd (aw.o.nil.step al.o fun x hx=>.inr (by rw[jA.1 hx];omega):Ext [] w _);have ak:=hd (aj.o.ext al.o (fun hm=>by rw[jA] at hm;omega));generalize ((w2.setCell ⟨s+1,7,none⟩ (.int .i64 0)).setCell ⟨s+1,8,none⟩ (.slice none 0 0))=w4 at *;clear q1 ax q3 aB ay aj ai aw al;have q3:=az.o.cell;have ay:=az.o.lt;have q1:=ak.o.cell;have ax:=ak.o.lt;by_cases a1:x1=0
 case neg=>
  have am:(x1==0)=false:=by simpa using a1
  have ac:=hd a1;clear a1;go_wp2_with fail
  go_ret
  exact⟨Aa (by have:=ac.o;simp[this]),ab.o⟩
 have am:(x1==0)=true:=by simpa using a1
 have ac:=hd a1;clear a1;by_cases a2:x2=0
 case neg=>
  have an:(x2==0)=false:=by simpa using a2
  have ad:=hd a2;clear a2;go_wp2_with fail
  go_ret
  exact⟨Aa (by have:=ad.o;simp[this]),ab.o⟩
 have an:(x2==0)=true:=by simpa using a2
 have ad:=hd a2;clear a2;by_cases a6:x3=0
 case neg=>
  have ao:(x3==0)=false:=by simpa using a6
  have ae:=hd a6;clear a6;go_wp2_with fail
  go_ret
  exact⟨Aa (by have:=ae.o;simp[this]),ab.o⟩
 have ao:(x3==0)=true:=by simpa using a6
 have ae:=hd a6;clear a6;by_cases a7:x4=0
 case neg=>
  have ap:(x4==0)=false:=by simpa using a7
  have af:=hd a7;clear a7;go_wp2_with fail
  go_ret
  exact⟨Aa (by have:=af.o;simp[this]),ab.o⟩
 have ap:(x4==0)=true:=by simpa using a7
 have af:=hd a7;clear a7;by_cases a8:x5=0
 case neg=>
  have aq:(x5==0)=false:=by simpa using a8
  have ag:=hd a8;clear a8;go_wp2_with fail
  go_ret
  exact⟨Aa (by have:=ag.o;simp[this]),ab.o⟩
 have aq:(x5==0)=true:=by simpa using a8
 have ag:=hd a8;clear a8;by_cases aa:x6=0
 case neg=>
  have au:(x6==0)=false:=by simpa using aa
  have ah:=hd aa;clear aa;go_wp2_with fail
  go_ret
  exact⟨Aa (by have:=ah.o;simp[this]),ab.o⟩
 have au:(x6==0)=true:=by simpa using aa
 have ah:=hd aa;clear aa;go_wp2_with fail
 refine(Cg _ _ _ _ _).mono ?_
 rintro e w5 ⟨rfl,hE⟩;have aA:=hd (ab.o.trans hE);have q5:=(ak.o.ext hE (by simp)).cell;have aC:=(ak.o.ext hE (by simp)).lt;clear hE;have e9:((n:Int)==0)=decide ((n:Int)=0):=by rw[Bool.eq_iff_iff];simp
 cases hz:(decide (0=0)&&decide ((0:Nat)=0))
 ·have HZ:=hd hz;clear hz;go_wp2_with fail
  go_ret
  exact⟨Aa (by have hz:=HZ.o;simp at hz⊢;try simp_all),aA.o⟩
 ·have HZ:=hd hz;clear hz;go_wp2_with fail
  go_ret
  exact⟨Aa (by have hz:=HZ.o;simp[ac.o,ad.o,ae.o,af.o,ag.o,ah.o] at hz⊢;try simp_all),aA.o⟩
set_option maxRecDepth 100000 in
theorem Aa2 (x1 x2 x3 x4 x5 x6 y0:Int)(y1:Option Addr)(l y2:Nat)(x8:Option Addr)(n x9:Nat)(w:World) :
  Calls prog 170 #[.agg #[(3:Int),x1,x2,x3,x4,x5,x6,y0,.slice y1 l y2,.slice x8 n x9]] w fun e w'=>
   e=.returned (.bool (decide (x1=0)&&decide (x2=0)&&decide (x3=0)&&decide (x4=0)&&decide (x5=0)&&(decide (0=0)&&decide (0=0))&&decide ((n:Int)=0)))/\Ext [] w w':=by
 have ap:=hd (((jF [] w).alloc (.cells #[(3:Int),x1,x2,x3,x4,x5,x6,y0,.slice y1 l y2,.slice x8 n x9] 41)).alloc (.cells #[(3:Int),x1,x2,x3,x4,x5,x6,y0,.slice y1 l y2,.slice x8 n x9] 41));have ah:=hd ((jK w 41 #[(3:Int),x1,x2,x3,x4,x5,x6,y0,.slice y1 l y2,.slice x8 n x9]).ext ((jF [] _).alloc (.cells #[(3:Int),x1,x2,x3,x4,x5,x6,y0,.slice y1 l y2,.slice x8 n x9] 41)) (by simp));have af:=hd (jK (w.alloc (.cells #[(3:Int),x1,x2,x3,x4,x5,x6,y0,.slice y1 l y2,.slice x8 n x9] 41)) 41 #[(3:Int),x1,x2,x3,x4,x5,x6,y0,.slice y1 l y2,.slice x8 n x9]);rw[Bm] at af;go_enter func170,ntmps170
 go_upto_region 2 with fail
 generalize World.alloc (World.alloc w _) _=w2 at *;generalize hs:w.heap.size=s at *;have q1:=ah.o.cell;have aq:=ah.o.lt;have q3:=af.o.cell;have ay:=af.o.frozen;have au:=af.o.lt;go_upto_region 21 with fail
 have aw:=hd (((af.o.set_' 7 (.int .i64 0) #[(3:Int),x1,x2,x3,x4,x5,x6,(0:Int),.slice y1 l y2,.slice x8 n x9] rfl).set_' 8 (.slice none 0 0) #[(3:Int),x1,x2,x3,x4,x5,x6,(0:Int),.slice none 0 0,.slice x8 n x9] rfl).set_' 6 (.int .i64 0) #[(3:Int),x1,x2,x3,x4,x5,(0:Int),(0:Int),.slice none 0 0,.slice x8 n x9] rfl);have aj:=hd (jL (b:=s+1) (i:=6) (u:=.int .i64 0) (.inl (by simp)) (jL (b:=s+1) (i:=8) (u:=.slice none 0 0) (.inl (by simp)) (jL (b:=s+1) (i:=7) (u:=.int .i64 0) (.inl (by simp)) (jF [s+1] w2))));have ag:=hd (ap.o.nil.step aj.o fun x hx=>.inr (by rw[jA.1 hx];omega):Ext [] w _);have ai:=hd (ah.o.ext aj.o (fun hm=>by rw[jA] at hm;omega));generalize (((w2.setCell ⟨s+1,7,none⟩ (.int .i64 0)).setCell ⟨s+1,8,none⟩ (.slice none 0 0)).setCell ⟨s+1,6,none⟩ (.int .i64 0))=w4 at *;clear q1 aq q3 ay au ah af ap aj;have q3:=aw.o.cell;have au:=aw.o.lt;have q1:=ai.o.cell;have aq:=ai.o.lt;by_cases a1:x1=0
 case neg=>
  have ak:(x1==0)=false:=by simpa using a1
  have aa:=hd a1;clear a1;go_wp2_with fail
  go_ret
  exact⟨Aa (by have:=aa.o;simp[this]),ag.o⟩
 have ak:(x1==0)=true:=by simpa using a1
 have aa:=hd a1;clear a1;by_cases a2:x2=0
 case neg=>
  have al:(x2==0)=false:=by simpa using a2
  have ab:=hd a2;clear a2;go_wp2_with fail
  go_ret
  exact⟨Aa (by have:=ab.o;simp[this]),ag.o⟩
 have al:(x2==0)=true:=by simpa using a2
 have ab:=hd a2;clear a2;by_cases a6:x3=0
 case neg=>
  have am:(x3==0)=false:=by simpa using a6
  have ac:=hd a6;clear a6;go_wp2_with fail
  go_ret
  exact⟨Aa (by have:=ac.o;simp[this]),ag.o⟩
 have am:(x3==0)=true:=by simpa using a6
 have ac:=hd a6;clear a6;by_cases a7:x4=0
 case neg=>
  have an:(x4==0)=false:=by simpa using a7
  have ad:=hd a7;clear a7;go_wp2_with fail
  go_ret
  exact⟨Aa (by have:=ad.o;simp[this]),ag.o⟩
 have an:(x4==0)=true:=by simpa using a7
 have ad:=hd a7;clear a7;by_cases a8:x5=0
 case neg=>
  have ao:(x5==0)=false:=by simpa using a8
  have ae:=hd a8;clear a8;go_wp2_with fail
  go_ret
  exact⟨Aa (by have:=ae.o;simp[this]),ag.o⟩
 have ao:(x5==0)=true:=by simpa using a8
 have ae:=hd a8;clear a8;go_wp2_with fail
 refine(Cg _ _ _ _ _).mono ?_
 rintro e w5 ⟨rfl,hE⟩;have ax:=hd (ag.o.trans hE);have q5:=(ai.o.ext hE (by simp)).cell;have az:=(ai.o.ext hE (by simp)).lt;clear hE;have e9:((n:Int)==0)=decide ((n:Int)=0):=by rw[Bool.eq_iff_iff];simp
 cases hz:(decide (0=0)&&decide ((0:Nat)=0))
 ·have HZ:=hd hz;clear hz;go_wp2_with fail
  go_ret
  exact⟨Aa (by have hz:=HZ.o;simp at hz⊢;try simp_all),ax.o⟩
 ·have HZ:=hd hz;clear hz;go_wp2_with fail
  go_ret
  exact⟨Aa (by have hz:=HZ.o;simp[aa.o,ab.o,ac.o,ad.o,ae.o] at hz⊢;try simp_all),ax.o⟩
set_option maxRecDepth 100000 in
theorem Aa3 (x1 x2 x3 x4 x5 x6 y0:Int)(y1:Option Addr)(l y2:Nat)(x8:Option Addr)(n x9:Nat)(w:World) :
  Calls prog 170 #[.agg #[(4:Int),x1,x2,x3,x4,x5,x6,y0,.slice y1 l y2,.slice x8 n x9]] w fun e w'=>
   e=.returned (.bool (decide (x1=0)&&decide (x3=0)&&(decide (0=0)&&decide (0=0))&&decide ((n:Int)=1)))/\Ext [] w w':=by
 have ag:=hd (((jF [] w).alloc (.cells #[(4:Int),x1,x2,x3,x4,x5,x6,y0,.slice y1 l y2,.slice x8 n x9] 41)).alloc (.cells #[(4:Int),x1,x2,x3,x4,x5,x6,y0,.slice y1 l y2,.slice x8 n x9] 41));have aa:=hd ((jK w 41 #[(4:Int),x1,x2,x3,x4,x5,x6,y0,.slice y1 l y2,.slice x8 n x9]).ext ((jF [] _).alloc (.cells #[(4:Int),x1,x2,x3,x4,x5,x6,y0,.slice y1 l y2,.slice x8 n x9] 41)) (by simp));have a8:=hd (jK (w.alloc (.cells #[(4:Int),x1,x2,x3,x4,x5,x6,y0,.slice y1 l y2,.slice x8 n x9] 41)) 41 #[(4:Int),x1,x2,x3,x4,x5,x6,y0,.slice y1 l y2,.slice x8 n x9]);rw[Bm] at a8;go_enter func170,ntmps170
 go_upto_region 2 with fail
 generalize World.alloc (World.alloc w _) _=w2 at *;generalize hs:w.heap.size=s at *;have q1:=aa.o.cell;have ah:=aa.o.lt;have q3:=a8.o.cell;have al:=a8.o.frozen;have ai:=a8.o.lt;go_upto_region 21 with fail
 have aj:=hd ((((((a8.o.set_' 7 (.int .i64 0) #[(4:Int),x1,x2,x3,x4,x5,x6,(0:Int),.slice y1 l y2,.slice x8 n x9] rfl).set_' 8 (.slice none 0 0) #[(4:Int),x1,x2,x3,x4,x5,x6,(0:Int),.slice none 0 0,.slice x8 n x9] rfl).set_' 6 (.int .i64 0) #[(4:Int),x1,x2,x3,x4,x5,(0:Int),(0:Int),.slice none 0 0,.slice x8 n x9] rfl).set_' 2 (.int .i64 0) #[(4:Int),x1,(0:Int),x3,x4,x5,(0:Int),(0:Int),.slice none 0 0,.slice x8 n x9] rfl).set_' 4 (.int .i64 0) #[(4:Int),x1,(0:Int),x3,(0:Int),x5,(0:Int),(0:Int),.slice none 0 0,.slice x8 n x9] rfl).set_' 5 (.int .i64 0) #[(4:Int),x1,(0:Int),x3,(0:Int),(0:Int),(0:Int),(0:Int),.slice none 0 0,.slice x8 n x9] rfl);have ac:=hd (jL (b:=s+1) (i:=5) (u:=.int .i64 0) (.inl (by simp)) (jL (b:=s+1) (i:=4) (u:=.int .i64 0) (.inl (by simp)) (jL (b:=s+1) (i:=2) (u:=.int .i64 0) (.inl (by simp)) (jL (b:=s+1) (i:=6) (u:=.int .i64 0) (.inl (by simp)) (jL (b:=s+1) (i:=8) (u:=.slice none 0 0) (.inl (by simp)) (jL (b:=s+1) (i:=7) (u:=.int .i64 0) (.inl (by simp)) (jF [s+1] w2)))))));have ad:=hd (ag.o.nil.step ac.o fun x hx=>.inr (by rw[jA.1 hx];omega):Ext [] w _);have ab:=hd (aa.o.ext ac.o (fun hm=>by rw[jA] at hm;omega));generalize ((((((w2.setCell ⟨s+1,7,none⟩ (.int .i64 0)).setCell ⟨s+1,8,none⟩ (.slice none 0 0)).setCell ⟨s+1,6,none⟩ (.int .i64 0)).setCell ⟨s+1,2,none⟩ (.int .i64 0)).setCell ⟨s+1,4,none⟩ (.int .i64 0)).setCell ⟨s+1,5,none⟩ (.int .i64 0))=w4 at *;clear q1 ah q3 al ai aa a8 ag ac;have q3:=aj.o.cell;have ai:=aj.o.lt;have q1:=ab.o.cell;have ah:=ab.o.lt;by_cases a1:x1=0
 case neg=>
  have ae:(x1==0)=false:=by simpa using a1
  have a6:=hd a1;clear a1;go_wp2_with fail
  go_ret
  exact⟨Aa (by have:=a6.o;simp[this]),ad.o⟩
 have ae:(x1==0)=true:=by simpa using a1
 have a6:=hd a1;clear a1;by_cases a2:x3=0
 case neg=>
  have af:(x3==0)=false:=by simpa using a2
  have a7:=hd a2;clear a2;go_wp2_with fail
  go_ret
  exact⟨Aa (by have:=a7.o;simp[this]),ad.o⟩
 have af:(x3==0)=true:=by simpa using a2
 have a7:=hd a2;clear a2;go_wp2_with fail
 refine(Cg _ _ _ _ _).mono ?_
 rintro e w5 ⟨rfl,hE⟩;have ak:=hd (ad.o.trans hE);have q5:=(ab.o.ext hE (by simp)).cell;have am:=(ab.o.ext hE (by simp)).lt;clear hE;have e9:((n:Int)==1)=decide ((n:Int)=1):=by rw[Bool.eq_iff_iff];simp
 cases hz:(decide (0=0)&&decide ((0:Nat)=0))
 ·have HZ:=hd hz;clear hz;go_wp2_with fail
  go_ret
  exact⟨Aa (by have hz:=HZ.o;simp at hz⊢;try simp_all),ak.o⟩
 ·have HZ:=hd hz;clear hz;go_wp2_with fail
  go_ret
  exact⟨Aa (by have hz:=HZ.o;simp[a6.o,a7.o] at hz⊢;try simp_all),ak.o⟩
set_option maxRecDepth 100000 in
theorem Wt (x2 x3 x4 x5 x6 y0:Int)(y1:Option Addr)(l y2:Nat)(x8:Option Addr)(n x9:Nat)(w:World) :
  Calls prog 170 #[.agg #[(5:Int),(12:Int),x2,x3,x4,x5,x6,y0,.slice y1 l y2,.slice x8 n x9]] w fun e w'=>
   e=.returned (.bool (decide (x4=0)&&decide (x5=0)&&decide (x6=0)&&(decide (y0=0)&&decide (l=0))&&decide ((n:Int)=1)))/\Ext [] w w':=by
 have aj:=hd (((jF [] w).alloc (.cells #[(5:Int),(12:Int),x2,x3,x4,x5,x6,y0,.slice y1 l y2,.slice x8 n x9] 41)).alloc (.cells #[(5:Int),(12:Int),x2,x3,x4,x5,x6,y0,.slice y1 l y2,.slice x8 n x9] 41));have ac:=hd ((jK w 41 #[(5:Int),(12:Int),x2,x3,x4,x5,x6,y0,.slice y1 l y2,.slice x8 n x9]).ext ((jF [] _).alloc (.cells #[(5:Int),(12:Int),x2,x3,x4,x5,x6,y0,.slice y1 l y2,.slice x8 n x9] 41)) (by simp));have ab:=hd (jK (w.alloc (.cells #[(5:Int),(12:Int),x2,x3,x4,x5,x6,y0,.slice y1 l y2,.slice x8 n x9] 41)) 41 #[(5:Int),(12:Int),x2,x3,x4,x5,x6,y0,.slice y1 l y2,.slice x8 n x9]);rw[Bm] at ab;go_enter func170,ntmps170
 go_upto_region 2 with fail
 generalize World.alloc (World.alloc w _) _=w2 at *;generalize hs:w.heap.size=s at *;have q1:=ac.o.cell;have ak:=ac.o.lt;have q3:=ab.o.cell;have ao:=ab.o.frozen;have al:=ab.o.lt;go_upto_region 4 with fail
 go_wp2_with fail
 refine(Gl (12) w2).mono ?_
 rintro e w' ⟨rfl,rfl⟩;rw[show Hq 12=1 from rfl];go_upto_region 21 with fail
 have am:=hd (((ab.o.set_' 2 (.int .i64 0) #[(5:Int),(12:Int),(0:Int),x3,x4,x5,x6,y0,.slice y1 l y2,.slice x8 n x9] rfl).set_' 3 (.int .i64 0) #[(5:Int),(12:Int),(0:Int),(0:Int),x4,x5,x6,y0,.slice y1 l y2,.slice x8 n x9] rfl).set_' 1 (.int .i64 0) #[(5:Int),(0:Int),(0:Int),(0:Int),x4,x5,x6,y0,.slice y1 l y2,.slice x8 n x9] rfl);have af:=hd (jL (b:=s+1) (i:=1) (u:=.int .i64 0) (.inl (by simp)) (jL (b:=s+1) (i:=3) (u:=.int .i64 0) (.inl (by simp)) (jL (b:=s+1) (i:=2) (u:=.int .i64 0) (.inl (by simp)) (jF [s+1] w2))));have ad:=hd (aj.o.nil.step af.o fun x hx=>.inr (by rw[jA.1 hx];omega):Ext [] w _);have ae:=hd (ac.o.ext af.o (fun hm=>by rw[jA] at hm;omega));generalize (((w2.setCell ⟨s+1,2,none⟩ (.int .i64 0)).setCell ⟨s+1,3,none⟩ (.int .i64 0)).setCell ⟨s+1,1,none⟩ (.int .i64 0))=w4 at *;clear q1 ak q3 ao al ac ab aj af;have q3:=am.o.cell;have al:=am.o.lt;have q1:=ae.o.cell;have ak:=ae.o.lt;by_cases a1:x4=0
 case neg=>
  have ag:(x4==0)=false:=by simpa using a1
  have a7:=hd a1;clear a1;go_wp2_with fail
  go_ret
  exact⟨Aa (by have:=a7.o;simp[this]),ad.o⟩
 have ag:(x4==0)=true:=by simpa using a1
 have a7:=hd a1;clear a1;by_cases a2:x5=0
 case neg=>
  have ah:(x5==0)=false:=by simpa using a2
  have a8:=hd a2;clear a2;go_wp2_with fail
  go_ret
  exact⟨Aa (by have:=a8.o;simp[this]),ad.o⟩
 have ah:(x5==0)=true:=by simpa using a2
 have a8:=hd a2;clear a2;by_cases a6:x6=0
 case neg=>
  have ai:(x6==0)=false:=by simpa using a6
  have aa:=hd a6;clear a6;go_wp2_with fail
  go_ret
  exact⟨Aa (by have:=aa.o;simp[this]),ad.o⟩
 have ai:(x6==0)=true:=by simpa using a6
 have aa:=hd a6;clear a6;go_wp2_with fail
 refine(Cg _ _ _ _ _).mono ?_
 rintro e w5 ⟨rfl,hE⟩;have an:=hd (ad.o.trans hE);have q5:=(ae.o.ext hE (by simp)).cell;have ap:=(ae.o.ext hE (by simp)).lt;clear hE;have e9:((n:Int)==1)=decide ((n:Int)=1):=by rw[Bool.eq_iff_iff];simp
 cases hz:(decide (y0=0)&&decide (l=0))
 ·have HZ:=hd hz;clear hz;go_wp2_with fail
  go_ret
  exact⟨Aa (by have hz:=HZ.o;simp at hz⊢;try simp_all),an.o⟩
 ·have HZ:=hd hz;clear hz;go_wp2_with fail
  go_ret
  exact⟨Aa (by have hz:=HZ.o;simp[a7.o,a8.o,aa.o] at hz⊢;try simp_all),an.o⟩
set_option maxRecDepth 100000 in
theorem Wu (x2 x3 x4 x5 x6 y0:Int)(y1:Option Addr)(l y2:Nat)(x8:Option Addr)(n x9:Nat)(w:World) :
  Calls prog 170 #[.agg #[(5:Int),(13:Int),x2,x3,x4,x5,x6,y0,.slice y1 l y2,.slice x8 n x9]] w fun e w'=>
   e=.returned (.bool (decide (x2=0)&&decide (x3=0)&&decide (x5=0)&&decide (x6=0)&&(decide (y0=0)&&decide (l=0))&&decide ((n:Int)=1)))/\Ext [] w w':=by
 have am:=hd (((jF [] w).alloc (.cells #[(5:Int),(13:Int),x2,x3,x4,x5,x6,y0,.slice y1 l y2,.slice x8 n x9] 41)).alloc (.cells #[(5:Int),(13:Int),x2,x3,x4,x5,x6,y0,.slice y1 l y2,.slice x8 n x9] 41));have af:=hd ((jK w 41 #[(5:Int),(13:Int),x2,x3,x4,x5,x6,y0,.slice y1 l y2,.slice x8 n x9]).ext ((jF [] _).alloc (.cells #[(5:Int),(13:Int),x2,x3,x4,x5,x6,y0,.slice y1 l y2,.slice x8 n x9] 41)) (by simp));have ad:=hd (jK (w.alloc (.cells #[(5:Int),(13:Int),x2,x3,x4,x5,x6,y0,.slice y1 l y2,.slice x8 n x9] 41)) 41 #[(5:Int),(13:Int),x2,x3,x4,x5,x6,y0,.slice y1 l y2,.slice x8 n x9]);rw[Bm] at ad;go_enter func170,ntmps170
 go_upto_region 2 with fail
 generalize World.alloc (World.alloc w _) _=w2 at *;generalize hs:w.heap.size=s at *;have q1:=af.o.cell;have an:=af.o.lt;have q3:=ad.o.cell;have au:=ad.o.frozen;have ao:=ad.o.lt;go_upto_region 4 with fail
 go_wp2_with fail
 refine(Gl (13) w2).mono ?_
 rintro e w' ⟨rfl,rfl⟩;rw[show Hq 13=1 from rfl];go_upto_region 21 with fail
 have ap:=hd ((ad.o.set_' 4 (.int .i64 0) #[(5:Int),(13:Int),x2,x3,(0:Int),x5,x6,y0,.slice y1 l y2,.slice x8 n x9] rfl).set_' 1 (.int .i64 0) #[(5:Int),(0:Int),x2,x3,(0:Int),x5,x6,y0,.slice y1 l y2,.slice x8 n x9] rfl);have ah:=hd (jL (b:=s+1) (i:=1) (u:=.int .i64 0) (.inl (by simp)) (jL (b:=s+1) (i:=4) (u:=.int .i64 0) (.inl (by simp)) (jF [s+1] w2)));have ae:=hd (am.o.nil.step ah.o fun x hx=>.inr (by rw[jA.1 hx];omega):Ext [] w _);have ag:=hd (af.o.ext ah.o (fun hm=>by rw[jA] at hm;omega));generalize ((w2.setCell ⟨s+1,4,none⟩ (.int .i64 0)).setCell ⟨s+1,1,none⟩ (.int .i64 0))=w4 at *;clear q1 an q3 au ao af ad am ah;have q3:=ap.o.cell;have ao:=ap.o.lt;have q1:=ag.o.cell;have an:=ag.o.lt;by_cases a1:x2=0
 case neg=>
  have ai:(x2==0)=false:=by simpa using a1
  have a8:=hd a1;clear a1;go_wp2_with fail
  go_ret
  exact⟨Aa (by have:=a8.o;simp[this]),ae.o⟩
 have ai:(x2==0)=true:=by simpa using a1
 have a8:=hd a1;clear a1;by_cases a2:x3=0
 case neg=>
  have aj:(x3==0)=false:=by simpa using a2
  have aa:=hd a2;clear a2;go_wp2_with fail
  go_ret
  exact⟨Aa (by have:=aa.o;simp[this]),ae.o⟩
 have aj:(x3==0)=true:=by simpa using a2
 have aa:=hd a2;clear a2;by_cases a6:x5=0
 case neg=>
  have ak:(x5==0)=false:=by simpa using a6
  have ab:=hd a6;clear a6;go_wp2_with fail
  go_ret
  exact⟨Aa (by have:=ab.o;simp[this]),ae.o⟩
 have ak:(x5==0)=true:=by simpa using a6
 have ab:=hd a6;clear a6;by_cases a7:x6=0
 case neg=>
  have al:(x6==0)=false:=by simpa using a7
  have ac:=hd a7;clear a7;go_wp2_with fail
  go_ret
  exact⟨Aa (by have:=ac.o;simp[this]),ae.o⟩
 have al:(x6==0)=true:=by simpa using a7
 have ac:=hd a7;clear a7;go_wp2_with fail
 refine(Cg _ _ _ _ _).mono ?_
 rintro e w5 ⟨rfl,hE⟩;have aq:=hd (ae.o.trans hE);have q5:=(ag.o.ext hE (by simp)).cell;have aw:=(ag.o.ext hE (by simp)).lt;clear hE;have e9:((n:Int)==1)=decide ((n:Int)=1):=by rw[Bool.eq_iff_iff];simp
 cases hz:(decide (y0=0)&&decide (l=0))
 ·have HZ:=hd hz;clear hz;go_wp2_with fail
  go_ret
  exact⟨Aa (by have hz:=HZ.o;simp at hz⊢;try simp_all),aq.o⟩
 ·have HZ:=hd hz;clear hz;go_wp2_with fail
  go_ret
  exact⟨Aa (by have hz:=HZ.o;simp[a8.o,aa.o,ab.o,ac.o] at hz⊢;try simp_all),aq.o⟩
set_option maxRecDepth 100000 in
theorem Wv (x2 x3 x4 x5 x6 y0:Int)(y1:Option Addr)(l y2:Nat)(x8:Option Addr)(n x9:Nat)(w:World) :
  Calls prog 170 #[.agg #[(5:Int),(14:Int),x2,x3,x4,x5,x6,y0,.slice y1 l y2,.slice x8 n x9]] w fun e w'=>
   e=.returned (.bool (decide (x2=0)&&decide (x3=0)&&decide (x5=0)&&decide (x6=0)&&(decide (y0=0)&&decide (l=0))&&decide ((n:Int)=1)))/\Ext [] w w':=by
 have am:=hd (((jF [] w).alloc (.cells #[(5:Int),(14:Int),x2,x3,x4,x5,x6,y0,.slice y1 l y2,.slice x8 n x9] 41)).alloc (.cells #[(5:Int),(14:Int),x2,x3,x4,x5,x6,y0,.slice y1 l y2,.slice x8 n x9] 41));have af:=hd ((jK w 41 #[(5:Int),(14:Int),x2,x3,x4,x5,x6,y0,.slice y1 l y2,.slice x8 n x9]).ext ((jF [] _).alloc (.cells #[(5:Int),(14:Int),x2,x3,x4,x5,x6,y0,.slice y1 l y2,.slice x8 n x9] 41)) (by simp));have ad:=hd (jK (w.alloc (.cells #[(5:Int),(14:Int),x2,x3,x4,x5,x6,y0,.slice y1 l y2,.slice x8 n x9] 41)) 41 #[(5:Int),(14:Int),x2,x3,x4,x5,x6,y0,.slice y1 l y2,.slice x8 n x9]);rw[Bm] at ad;go_enter func170,ntmps170
 go_upto_region 2 with fail
 generalize World.alloc (World.alloc w _) _=w2 at *;generalize hs:w.heap.size=s at *;have q1:=af.o.cell;have an:=af.o.lt;have q3:=ad.o.cell;have au:=ad.o.frozen;have ao:=ad.o.lt;go_upto_region 4 with fail
 go_wp2_with fail
 refine(Gl (14) w2).mono ?_
 rintro e w' ⟨rfl,rfl⟩;rw[show Hq 14=1 from rfl];go_upto_region 21 with fail
 have ap:=hd ((ad.o.set_' 4 (.int .i64 0) #[(5:Int),(14:Int),x2,x3,(0:Int),x5,x6,y0,.slice y1 l y2,.slice x8 n x9] rfl).set_' 1 (.int .i64 0) #[(5:Int),(0:Int),x2,x3,(0:Int),x5,x6,y0,.slice y1 l y2,.slice x8 n x9] rfl);have ah:=hd (jL (b:=s+1) (i:=1) (u:=.int .i64 0) (.inl (by simp)) (jL (b:=s+1) (i:=4) (u:=.int .i64 0) (.inl (by simp)) (jF [s+1] w2)));have ae:=hd (am.o.nil.step ah.o fun x hx=>.inr (by rw[jA.1 hx];omega):Ext [] w _);have ag:=hd (af.o.ext ah.o (fun hm=>by rw[jA] at hm;omega));generalize ((w2.setCell ⟨s+1,4,none⟩ (.int .i64 0)).setCell ⟨s+1,1,none⟩ (.int .i64 0))=w4 at *;clear q1 an q3 au ao af ad am ah;have q3:=ap.o.cell;have ao:=ap.o.lt;have q1:=ag.o.cell;have an:=ag.o.lt;by_cases a1:x2=0
 case neg=>
  have ai:(x2==0)=false:=by simpa using a1
  have a8:=hd a1;clear a1;go_wp2_with fail
  go_ret
  exact⟨Aa (by have:=a8.o;simp[this]),ae.o⟩
 have ai:(x2==0)=true:=by simpa using a1
 have a8:=hd a1;clear a1;by_cases a2:x3=0
 case neg=>
  have aj:(x3==0)=false:=by simpa using a2
  have aa:=hd a2;clear a2;go_wp2_with fail
  go_ret
  exact⟨Aa (by have:=aa.o;simp[this]),ae.o⟩
 have aj:(x3==0)=true:=by simpa using a2
 have aa:=hd a2;clear a2;by_cases a6:x5=0
 case neg=>
  have ak:(x5==0)=false:=by simpa using a6
  have ab:=hd a6;clear a6;go_wp2_with fail
  go_ret
  exact⟨Aa (by have:=ab.o;simp[this]),ae.o⟩
 have ak:(x5==0)=true:=by simpa using a6
 have ab:=hd a6;clear a6;by_cases a7:x6=0
 case neg=>
  have al:(x6==0)=false:=by simpa using a7
  have ac:=hd a7;clear a7;go_wp2_with fail
  go_ret
  exact⟨Aa (by have:=ac.o;simp[this]),ae.o⟩
 have al:(x6==0)=true:=by simpa using a7
 have ac:=hd a7;clear a7;go_wp2_with fail
 refine(Cg _ _ _ _ _).mono ?_
 rintro e w5 ⟨rfl,hE⟩;have aq:=hd (ae.o.trans hE);have q5:=(ag.o.ext hE (by simp)).cell;have aw:=(ag.o.ext hE (by simp)).lt;clear hE;have e9:((n:Int)==1)=decide ((n:Int)=1):=by rw[Bool.eq_iff_iff];simp
 cases hz:(decide (y0=0)&&decide (l=0))
 ·have HZ:=hd hz;clear hz;go_wp2_with fail
  go_ret
  exact⟨Aa (by have hz:=HZ.o;simp at hz⊢;try simp_all),aq.o⟩
 ·have HZ:=hd hz;clear hz;go_wp2_with fail
  go_ret
  exact⟨Aa (by have hz:=HZ.o;simp[a8.o,aa.o,ab.o,ac.o] at hz⊢;try simp_all),aq.o⟩
set_option maxRecDepth 100000 in
theorem Aa4 (x1 x2 x3 x4 x5 x6 y0:Int)(y1:Option Addr)(l y2:Nat)(x8:Option Addr)(n x9:Nat)(w:World)(h12:(x1==12)=false)(h13:(x1==13)=false)(h14:(x1==14)=false) :
  Calls prog 170 #[.agg #[(5:Int),x1,x2,x3,x4,x5,x6,y0,.slice y1 l y2,.slice x8 n x9]] w fun e w'=>
   e=.returned (.bool (decide (x2=0)&&decide (x3=0)&&decide (x4=0)&&decide (x5=0)&&decide (x6=0)&&(decide (y0=0)&&decide (l=0))&&decide ((n:Int)=Hq x1)))/\Ext [] w w':=by
 have ap:=hd (((jF [] w).alloc (.cells #[(5:Int),x1,x2,x3,x4,x5,x6,y0,.slice y1 l y2,.slice x8 n x9] 41)).alloc (.cells #[(5:Int),x1,x2,x3,x4,x5,x6,y0,.slice y1 l y2,.slice x8 n x9] 41));have ah:=hd ((jK w 41 #[(5:Int),x1,x2,x3,x4,x5,x6,y0,.slice y1 l y2,.slice x8 n x9]).ext ((jF [] _).alloc (.cells #[(5:Int),x1,x2,x3,x4,x5,x6,y0,.slice y1 l y2,.slice x8 n x9] 41)) (by simp));have af:=hd (jK (w.alloc (.cells #[(5:Int),x1,x2,x3,x4,x5,x6,y0,.slice y1 l y2,.slice x8 n x9] 41)) 41 #[(5:Int),x1,x2,x3,x4,x5,x6,y0,.slice y1 l y2,.slice x8 n x9]);rw[Bm] at af;go_enter func170,ntmps170
 go_upto_region 2 with fail
 generalize World.alloc (World.alloc w _) _=w2 at *;generalize hs:w.heap.size=s at *;have q1:=ah.o.cell;have aq:=ah.o.lt;have q3:=af.o.cell;have ay:=af.o.frozen;have au:=af.o.lt;go_upto_region 4 with fail
 go_wp2_with fail
 refine(Gl (x1) w2).mono ?_
 rintro e w' ⟨rfl,rfl⟩;go_upto_region 21 with fail
 have aw:=hd (af.o.set_' 1 (.int .i64 0) #[(5:Int),(0:Int),x2,x3,x4,x5,x6,y0,.slice y1 l y2,.slice x8 n x9] rfl);have aj:=hd (jL (b:=s+1) (i:=1) (u:=.int .i64 0) (.inl (by simp)) (jF [s+1] w2));have ag:=hd (ap.o.nil.step aj.o fun x hx=>.inr (by rw[jA.1 hx];omega):Ext [] w _);have ai:=hd (ah.o.ext aj.o (fun hm=>by rw[jA] at hm;omega));generalize (w2.setCell ⟨s+1,1,none⟩ (.int .i64 0))=w4 at *;clear q1 aq q3 ay au ah af ap aj;have q3:=aw.o.cell;have au:=aw.o.lt;have q1:=ai.o.cell;have aq:=ai.o.lt;by_cases a1:x2=0
 case neg=>
  have ak:(x2==0)=false:=by simpa using a1
  have aa:=hd a1;clear a1;go_wp2_with fail
  go_ret
  exact⟨Aa (by have:=aa.o;simp[this]),ag.o⟩
 have ak:(x2==0)=true:=by simpa using a1
 have aa:=hd a1;clear a1;by_cases a2:x3=0
 case neg=>
  have al:(x3==0)=false:=by simpa using a2
  have ab:=hd a2;clear a2;go_wp2_with fail
  go_ret
  exact⟨Aa (by have:=ab.o;simp[this]),ag.o⟩
 have al:(x3==0)=true:=by simpa using a2
 have ab:=hd a2;clear a2;by_cases a6:x4=0
 case neg=>
  have am:(x4==0)=false:=by simpa using a6
  have ac:=hd a6;clear a6;go_wp2_with fail
  go_ret
  exact⟨Aa (by have:=ac.o;simp[this]),ag.o⟩
 have am:(x4==0)=true:=by simpa using a6
 have ac:=hd a6;clear a6;by_cases a7:x5=0
 case neg=>
  have an:(x5==0)=false:=by simpa using a7
  have ad:=hd a7;clear a7;go_wp2_with fail
  go_ret
  exact⟨Aa (by have:=ad.o;simp[this]),ag.o⟩
 have an:(x5==0)=true:=by simpa using a7
 have ad:=hd a7;clear a7;by_cases a8:x6=0
 case neg=>
  have ao:(x6==0)=false:=by simpa using a8
  have ae:=hd a8;clear a8;go_wp2_with fail
  go_ret
  exact⟨Aa (by have:=ae.o;simp[this]),ag.o⟩
 have ao:(x6==0)=true:=by simpa using a8
 have ae:=hd a8;clear a8;go_wp2_with fail
 refine(Cg _ _ _ _ _).mono ?_
 rintro e w5 ⟨rfl,hE⟩;have ax:=hd (ag.o.trans hE);have q5:=(ai.o.ext hE (by simp)).cell;have az:=(ai.o.ext hE (by simp)).lt;clear hE;have e9:((n:Int)==Hq x1)=decide ((n:Int)=Hq x1):=by rw[Bool.eq_iff_iff];simp
 cases hz:(decide (y0=0)&&decide (l=0))
 ·have HZ:=hd hz;clear hz;go_wp2_with fail
  go_ret
  exact⟨Aa (by have hz:=HZ.o;simp at hz⊢;try simp_all),ax.o⟩
 ·have HZ:=hd hz;clear hz;go_wp2_with fail
  go_ret
  exact⟨Aa (by have hz:=HZ.o;simp[aa.o,ab.o,ac.o,ad.o,ae.o] at hz⊢;try simp_all),ax.o⟩
theorem Ww (h:EH)(n:Nat)(w:World)(hk:0<=Bp h.k h.op):Calls prog 170 #[Gt h n] w fun e w'=>e=.returned (.bool (Hi h n))/\Ext [] w w':=by
 have HK:=Kq hk;obtain⟨x0,x1,x2,x3,x4,x5,x6,⟨y0,y1,y2,y3⟩,x8,x9⟩:=h;simp only at HK hk;simp only[Gt];rcases HK with h|h|h|h|h<;>subst h
 ·refine(Sg x1 x2 x3 x4 x5 x6 y0 y1 y3.length y2 x8 n x9 w).mono ?_
  rintro e w' ⟨rfl,hE⟩;exact⟨Aa (by simp[Hi,Dc,Bp,El]),hE⟩
 ·refine(Aa1 x1 x2 x3 x4 x5 x6 y0 y1 y3.length y2 x8 n x9 w).mono ?_
  rintro e w' ⟨rfl,hE⟩;exact⟨Aa (by simp[Hi,Dc,Bp,El]),hE⟩
 ·refine(Aa2 x1 x2 x3 x4 x5 x6 y0 y1 y3.length y2 x8 n x9 w).mono ?_
  rintro e w' ⟨rfl,hE⟩;exact⟨Aa (by simp[Hi,Dc,Bp,El]),hE⟩
 ·refine(Aa3 x1 x2 x3 x4 x5 x6 y0 y1 y3.length y2 x8 n x9 w).mono ?_
  rintro e w' ⟨rfl,hE⟩;exact⟨Aa (by simp[Hi,Dc,Bp,El]),hE⟩
 ·have h1:opN x1=Hq x1/\Bp 5 x1=opN x1:=by
   have e5:Bp 5 x1=opN x1:=by simp[Bp]
   rw[e5] at hk;refine⟨?_,e5⟩
   unfold opN Hq at *;by_cases a:x1=15
   ·rw[ijp a,ijp a]
   ·rw[ijn a] at hk⊢;rw[ijn a];by_cases b:btw x1 4 10=true
    ·rw[ijp b];have:=Bu.1 b;rw[ijn (by omega)]
    ·rw[ijn b] at hk⊢;by_cases c:btw x1 11 14=true
     ·rw[ijp c];have:=Bu.1 c;rw[ijp (by omega)]
     ·rw[ijn c] at hk;omega
  by_cases a1:x1=12
  ·subst a1;refine(Wt x2 x3 x4 x5 x6 y0 y1 y3.length y2 x8 n x9 w).mono ?_
   rintro e w' ⟨rfl,hE⟩;exact⟨Aa (by simp[Hi,Dc,h1,Hq,El]),hE⟩
  ·by_cases a2:x1=13
   ·subst a2;refine(Wu x2 x3 x4 x5 x6 y0 y1 y3.length y2 x8 n x9 w).mono ?_
    rintro e w' ⟨rfl,hE⟩;exact⟨Aa (by simp[Hi,Dc,h1,Hq,El]),hE⟩
   ·by_cases a6:x1=14
    ·subst a6;refine(Wv x2 x3 x4 x5 x6 y0 y1 y3.length y2 x8 n x9 w).mono ?_
     rintro e w' ⟨rfl,hE⟩;exact⟨Aa (by simp[Hi,Dc,h1,Hq,El]),hE⟩
    ·refine(Aa4 x1 x2 x3 x4 x5 x6 y0 y1 y3.length y2 x8 n x9 w (by simpa using a1) (by simpa using a2) (by simpa using a6)).mono ?_
     rintro e w' ⟨rfl,hE⟩;exact⟨Aa (by simp[Hi,Dc,h1,a1,a2,a6,El]),hE⟩
def Aa6 (h:EH):Prop:=h.k=1\/h.k=2\/h.k=3\/h.k=4\/h.k=5
set_option maxRecDepth 100000 in
theorem Si (h:EH)(n:Nat)(w:World)(hk:Aa6 h):Calls prog 175 #[Gt h n] w fun e w'=>e=.returned (.bool (Fi h))/\Ext [] w w':=by
 have HK:=hk;unfold Aa6 at HK;obtain⟨x0,x1,x2,x3,x4,x5,x6,⟨y0,y1,y2,y3⟩,x8,x9⟩:=h;simp only at HK;simp only[Gt];clear hk;have a1:=hd ((jF [] w).alloc (.cells #[x0,x1,x2,x3,x4,x5,x6,y0,.slice y1 y3.length y2,.slice x8 n x9] 41));have a2:=hd (jK w 41 #[x0,x1,x2,x3,x4,x5,x6,y0,.slice y1 y3.length y2,.slice x8 n x9]);generalize hR:Fi ⟨x0,x1,x2,x3,x4,x5,x6,⟨y0,y1,y2,y3⟩,x8,x9⟩=R;have HR:Hd (R=if x0=1 then Dt x4 else if x0=4 then Dt x2&&btw x4 1 100000&&btw x5 1 262144 else if x0=5 then(if x1=12 then Dt x2&&Dt x3&&decide (x2<=x3) else if x1=13 then btw x4 1 31 else if x1=14 then btw x4 1 2147483647 else true) else true):=hd (hR.symm.trans rfl);clear hR;rcases HK with h|h|h|h|h<;>subst h
 ·have HV:Hd (R=Dt x4):=hd HR.o;clear HR;go_enter func175,ntmps175
  go_wp2_with fail
  generalize World.alloc w _=w1 at *;generalize w.heap.size=s at *;have q:=a2.o.cell;have ql:=a2.o.lt;refine(Ic _ _).mono ?_
  rintro e w' ⟨rfl,rfl⟩;go_wp2_with fail
  go_ret
  exact⟨Aa HV.o.symm,a1.o⟩
 ·have HV:Hd (R=true):=hd HR.o;clear HR;go_enter func175,ntmps175
  go_wp2_with fail
  go_ret
  exact⟨Aa HV.o.symm,a1.o⟩
 ·have HV:Hd (R=true):=hd HR.o;clear HR;go_enter func175,ntmps175
  go_wp2_with fail
  go_ret
  exact⟨Aa HV.o.symm,a1.o⟩
 ·have HV:Hd (R=(Dt x2&&btw x4 1 100000&&btw x5 1 262144)):=hd HR.o;clear HR;go_enter func175,ntmps175
  go_wp2_with fail
  generalize World.alloc w _=w1 at *;generalize w.heap.size=s at *;have q:=a2.o.cell;have ql:=a2.o.lt;refine(Ic _ _).mono ?_
  rintro e w' ⟨rfl,rfl⟩;cases h1:Dt x2
  ·have H1:=hd h1;clear h1;go_wp2_with fail
   go_ret
   exact⟨Aa (by rw[HV.o,H1.o];rfl),a1.o⟩
  ·have H1:=hd h1;clear h1;go_wp2_with fail
   refine(Ay _ _ _ _).mono ?_
   rintro e w' ⟨rfl,rfl⟩;cases h2:btw x4 1 100000
   ·have H2:=hd h2;clear h2;go_wp2_with fail
    go_ret
    exact⟨Aa (by rw[HV.o,H1.o,H2.o];rfl),a1.o⟩
   ·have H2:=hd h2;clear h2;go_wp2_with fail
    refine(Ay _ _ _ _).mono ?_
    rintro e w' ⟨rfl,rfl⟩;go_wp2_with fail
    go_ret
    exact⟨Aa (by rw[HV.o,H1.o,H2.o];rfl),a1.o⟩
 ·have aa:Hd (R=if x1=12 then Dt x2&&Dt x3&&decide (x2<=x3) else if x1=13 then btw x4 1 31 else if x1=14 then btw x4 1 2147483647 else true):=hd HR.o;clear HR;by_cases a6:x1=12
  ·have HR:=hd (aa.o.trans (ijp a6));subst a6;have HV:Hd (R=(Dt x2&&Dt x3&&decide (x2<=x3))):=hd HR.o;clear HR;go_enter func175,ntmps175
   go_wp2_with fail
   generalize World.alloc w _=w1 at *;generalize w.heap.size=s at *;have q:=a2.o.cell;have ql:=a2.o.lt;refine(Ic _ _).mono ?_
   rintro e w' ⟨rfl,rfl⟩;cases h1:Dt x2
   ·have H1:=hd h1;clear h1;go_wp2_with fail
    go_ret
    exact⟨Aa (by rw[HV.o,H1.o];rfl),a1.o⟩
   ·have H1:=hd h1;clear h1;go_wp2_with fail
    refine(Ic _ _).mono ?_
    rintro e w' ⟨rfl,rfl⟩;cases h2:Dt x3
    ·have H2:=hd h2;clear h2;go_wp2_with fail
     go_ret
     exact⟨Aa (by rw[HV.o,H1.o,H2.o];rfl),a1.o⟩
    ·have H2:=hd h2;clear h2;go_wp2_with fail
     go_ret
     exact⟨Aa (by rw[HV.o,H1.o,H2.o];rfl),a1.o⟩
  ·have ad:(x1==12)=false:=by simpa using a6
   have ab:=hd (aa.o.trans (ijn a6));clear a6;by_cases a7:x1=13
   ·have HR:=hd (ab.o.trans (ijp a7));subst a7;have HV:Hd (R=btw x4 1 31):=hd HR.o;clear HR;go_enter func175,ntmps175
    go_wp2_with fail
    generalize World.alloc w _=w1 at *;generalize w.heap.size=s at *;have q:=a2.o.cell;have ql:=a2.o.lt;refine(Ay _ _ _ _).mono ?_
    rintro e w' ⟨rfl,rfl⟩;go_wp2_with fail
    go_ret
    exact⟨Aa HV.o.symm,a1.o⟩
   ·have ae:(x1==13)=false:=by simpa using a7
    have ac:=hd (ab.o.trans (ijn a7));clear a7;by_cases a8:x1=14
    ·have HR:=hd (ac.o.trans (ijp a8));subst a8;have HV:Hd (R=btw x4 1 2147483647):=hd HR.o;clear HR;go_enter func175,ntmps175
     go_wp2_with fail
     generalize World.alloc w _=w1 at *;generalize w.heap.size=s at *;have q:=a2.o.cell;have ql:=a2.o.lt;refine(Ay _ _ _ _).mono ?_
     rintro e w' ⟨rfl,rfl⟩;go_wp2_with fail
     go_ret
     exact⟨Aa HV.o.symm,a1.o⟩
    ·have af:(x1==14)=false:=by simpa using a8
     have HR:=hd (ac.o.trans (ijn a8));clear a8;have HV:Hd (R=true):=hd HR.o;clear HR;go_enter func175,ntmps175
     go_wp2_with fail
     go_ret
     exact⟨Aa HV.o.symm,a1.o⟩
end Go.Proofs.YtfppibmloloakaaGreatDoor
