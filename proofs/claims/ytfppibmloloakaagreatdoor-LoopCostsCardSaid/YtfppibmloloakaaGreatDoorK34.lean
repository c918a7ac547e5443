import Derived.Test.YtfppibmloloakaaGreatDoorK33
namespace Go.Proofs.YtfppibmloloakaaGreatDoor
open Go.RowKit Go.Proofs.Tryz
set_option linter.all false
attribute [local irreducible] Bj
end Go.Proofs.YtfppibmloloakaaGreatDoor
