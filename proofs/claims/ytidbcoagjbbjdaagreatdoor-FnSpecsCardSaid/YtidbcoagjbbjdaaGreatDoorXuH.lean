/- The steps of a flow: the program. -/
import Derived.Test.YtidbcoagjbbjdaaGreatDoorVsD
import Derived.Test.YtidbcoagjbbjdaaGreatDoorXuF
set_option linter.all false
set_option maxHeartbeats 8000000
namespace Go.Proofs.YtidbcoagjbbjdaaGreatDoor
open Go.Vs
section
variable [Vs.Tab 0 Vs.powP]
attribute [local irreducible] Vs.Fn chOK areCh chTo chAt l03
end
section
variable [Vs.Tab 0 Vs.powP]
attribute [local irreducible] Vs.Fn chOK areCh chTo chAt l03
end
end Go.Proofs.YtidbcoagjbbjdaaGreatDoor
