import Derived.Test.YtfppibmloloakaaGreatDoorK32
import Derived.Test.YtfppibmloloakaaGreatDoorK35
namespace Go.Proofs.YtfppibmloloakaaGreatDoor
open Go.RowKit Go.Proofs.Tryz
set_option linter.all false
section
section
variable {tb mb B U many count b:Nat} {keep:Bool} {names:List ByteArray} {vs:List Int} {D:List RtD} {V V1 V2:Option Nat} {w0 w w1 w2:World} {t:TypeId} {C:Array Value}
end
section
variable {ops:Array Oper} {rest:List Oper} {o:Oper} {a:Act} {w:World} {Q:Exit->Act->World->Prop}
end
end

section
section
variable {ops:Array Oper} {rest:List Oper} {o:Oper} {a:Act} {w:World} {Q:Exit->Act->World->Prop} {P:Program}
theorem Gn (hg:o.guard=none)(t:TypeId)(Al:Array (Nat×Operand))(ho:o.op=.build t Al)(cells:Array Value)(hc:P.built t (Al.map fun(i,x)=>(i,a.eval x)).toList=some cells)
  (h:wpList P ops Q rest (a.put o.dst (.agg cells)) w):wpList P ops Q (o :: rest) a w:=
 Br hg (.agg cells) w (by unfold execOp;simp only[ho,Sem.run_bind,run_build w t _ cells hc,Result.andThen_ok];rfl) h
end
section
variable {tb mb B U many count:Nat} {keep:Bool} {names:List ByteArray} {vs:List Int} {D:List RtD} {V:Option Nat} {w:World}
end
end
end Go.Proofs.YtfppibmloloakaaGreatDoor
