/-
 The laws FnExactSameTotals and FnExactSameFlow return true for every input, and their arguments read behind the call as they read before. Conditions: none beyond the given statements.
-/
import Derived.Test.YtidbcoagjbbjdaaGreatDoorVsI
import Derived.Test.YtidbcoagjbbjdaaGreatDoorXuB
import Derived.Test.YtidbcoagjbbjdaaGreatDoorVtH
set_option linter.all false
set_option maxHeartbeats 8000000
namespace Go.Proofs.YtidbcoagjbbjdaaGreatDoor
open Go.Vs
variable [Vs.Tab 0 Vs.powP]
attribute [local irreducible] Vs.Fn
abbrev Tot := ByteArray × Int
def cT (x : Tot) : List AV := [.v (.string x.1), .v (.int .i64 x.2)]
structure Stp where
 kind : Int
 a : Int
 b : Int
 to : Int
 f0 : Int
 f1 : Int
 s0 : Int
 s1 : Int
 text : ByteArray
def cS (x : Stp) : List AV := [.v (.int .i64 x.kind), .v (.int .i64 x.a), .v (.int .i64 x.b), .v (.int .i64 x.to), .v (.int .i64 x.f0), .v (.int .i64 x.f1), .v (.int .i64 x.s0), .v (.int .i64 x.s1), .v (.string x.text)]
end Go.Proofs.YtidbcoagjbbjdaaGreatDoor
