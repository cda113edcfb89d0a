/-
 The laws FnExactSameTotals and FnExactSameFlow return true for every input, and their arguments read behind the call as they read before. Conditions: none beyond the given statements.
-/
import Derived.Test.YtfoddghhlagenaaGreatDoorTuB
import Derived.Test.YtfoddghhlagenaaGreatDoorVtH
set_option linter.all false
set_option maxHeartbeats 8000000
namespace Go.Proofs.YtfoddghhlagenaaGreatDoor
open Go.Vs
variable [Vs.Envs]
attribute [local irreducible] Vs.Fn
abbrev Tot:=ByteArray×Int
end Go.Proofs.YtfoddghhlagenaaGreatDoor
