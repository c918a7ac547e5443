import Derived.Test.YtfppibmloloakaaGreatDoorK30
import Derived.Test.YtfppibmloloakaaGreatDoorK25
namespace Go.Proofs.YtfppibmloloakaaGreatDoor
open Go.RowKit Go.Proofs.Tryz
set_option linter.all false
structure RtD where
 no:Nat
 vs:List Int
 buf:Int
 at_:Int
 wr:Bool
 part:Int
 inst:Int
section
section
variable {w0 w w':World} {t ka kb i:Nat} {ty:TypeId} {cont:Bool->Bool->Array Value} {r:Nat->Bool}
end
section
variable {P:Program} {ops:Array Oper} {p:Nat} {S:Nat->Option Ba} {Q:Act->World->Prop} {k:Nat} {o:Oper} {rest:List Oper} {a:Act} {F:Nat->World->Prop} {w0:World} {t ka kb:Nat} {ty:TypeId} {cont:Bool->Bool->Array Value}
end
end
end Go.Proofs.YtfppibmloloakaaGreatDoor
