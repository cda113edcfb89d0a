/- What is held of the marks of a deck. -/
import Derived.Test.YtmiiohemehacjaaGreatDoorXwMa
import Derived.Test.YtmiiohemehacjaaGreatDoorXwD
set_option linter.all false
set_option maxHeartbeats 8000000
namespace Go.Proofs.YtmiiohemehacjaaGreatDoor
open Go.Vs
variable [Vs.Envs]
attribute [local irreducible] Vs.Fn
end Go.Proofs.YtmiiohemehacjaaGreatDoor
