import Derived.Test.YtfppibmloloakaaGreatDoorK36
namespace Go.Proofs.YtfppibmloloakaaGreatDoor
open Go.RowKit Go.Proofs.Tryz
set_option linter.all false
section
variable {ops:Array Oper} {S:Nat->Option Ba} {Q:Act->World->Prop} {k:Nat} {o:Oper} {rest:List Oper} {a:Act} {F:Nat->World->Prop} {w0:World}
end
attribute [local irreducible] Bj
end Go.Proofs.YtfppibmloloakaaGreatDoor
