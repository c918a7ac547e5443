import Derived.Test.YtfppibmloloakaaGreatDoorP38
namespace Go.Proofs.YtfppibmloloakaaGreatDoor
open Go.RowKit Go.Proofs.Tryz
set_option linter.all false
attribute [local irreducible] relAt
end Go.Proofs.YtfppibmloloakaaGreatDoor
