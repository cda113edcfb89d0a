/- How the arguments' types read. -/
import Derived.Test.YtklmdppgonhflaaGreatDoorXuA
import Derived.Test.YtklmdppgonhflaaGreatDoorVtF
set_option linter.all false
set_option maxHeartbeats 8000000
namespace Go.Proofs.YtklmdppgonhflaaGreatDoor
open Go.Vs
variable [Vs.Envs]
set_option maxRecDepth 100000
theorem E_map {α β:Type}{c:α->List AV}{g:β->α} (l:List β):E c (l.map g)=l.map λx=>c (g x):=by simp[E]
end Go.Proofs.YtklmdppgonhflaaGreatDoor
