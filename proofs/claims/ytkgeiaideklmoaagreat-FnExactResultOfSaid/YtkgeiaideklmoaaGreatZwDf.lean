/- The deck that arises by a step, in memory of its own. -/
import Derived.Test.YtkgeiaideklmoaaGreatZwDe
import Derived.Test.YtkgeiaideklmoaaGreatZwVm
set_option linter.all false
set_option maxHeartbeats 8000000
namespace Go.Proofs.YtkgeiaideklmoaaGreat
open Go.Vs
variable [Vs.Envs]
attribute [local irreducible] Vs.Fn aX mgC fI mtC eH flt gY mY mat chOK areCh chTo chAt l03 chB rk cd3 chI stp stpTo
end Go.Proofs.YtkgeiaideklmoaaGreat
