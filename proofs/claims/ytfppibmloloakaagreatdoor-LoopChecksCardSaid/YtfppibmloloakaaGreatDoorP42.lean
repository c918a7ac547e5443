import Derived.Test.YtfppibmloloakaaGreatDoorP41
namespace Go.Proofs.YtfppibmloloakaaGreatDoor
open Go.RowKit Go.Proofs.Tryz
set_option linter.all false
section
variable {ops:Array Oper} {S:Nat->Option Spec} {Q:Act->World->Prop} {k:Nat} {o:Oper} {rest:List Oper} {a:Act} {F:Nat->World->Prop} {w0:World}
end
attribute [local irreducible] relAt
end Go.Proofs.YtfppibmloloakaaGreatDoor
