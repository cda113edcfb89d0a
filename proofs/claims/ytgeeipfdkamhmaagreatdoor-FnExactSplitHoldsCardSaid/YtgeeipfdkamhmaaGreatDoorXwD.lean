/- Offices that are valid. -/
import Derived.Test.YtgeeipfdkamhmaaGreatDoorXwQe
import Derived.Test.YtgeeipfdkamhmaaGreatDoorXuS
namespace Go.Proofs.YtgeeipfdkamhmaaGreatDoor
open Go.Vs
set_option linter.unusedSimpArgs false
set_option linter.unusedVariables false
attribute [local irreducible] Vs.Fn
end Go.Proofs.YtgeeipfdkamhmaaGreatDoor
