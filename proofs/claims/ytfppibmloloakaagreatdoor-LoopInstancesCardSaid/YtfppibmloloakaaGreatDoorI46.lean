import Derived.Test.YtfppibmloloakaaGreatDoorI39
import Derived.Laws.Cover4
namespace Go.Proofs.YtfppibmloloakaaGreatDoor
open Go.RowKit Go.Proofs.Tryz
set_option linter.all false

end Go.Proofs.YtfppibmloloakaaGreatDoor
