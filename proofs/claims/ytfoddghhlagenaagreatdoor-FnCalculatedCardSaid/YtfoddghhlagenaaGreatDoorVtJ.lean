/- Lists of numbers: size, copy, comparison. -/
import Derived.Test.YtfoddghhlagenaaGreatDoorVtI
set_option linter.all false
set_option maxHeartbeats 8000000
namespace Go.Vs
variable [Envs]
variable {P:Program}
attribute [local irreducible] Fn
theorem jI {l:List Int}{i:Nat} (h:i<l.length):((E cI l).getD i [])=[.v (.int .i64 l[i])]:=bI h
end Go.Vs
