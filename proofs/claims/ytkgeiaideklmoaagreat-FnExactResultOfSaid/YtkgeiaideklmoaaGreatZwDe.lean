/- MatchDecks in memory of its own. -/
import Derived.Test.YtkgeiaideklmoaaGreatZwDb
import Derived.Test.YtkgeiaideklmoaaGreatZwVh
import Derived.Test.YtkgeiaideklmoaaGreatZwVl
import Derived.Test.YtkgeiaideklmoaaGreatZwDd
set_option linter.all false
set_option maxHeartbeats 8000000
namespace Go.Proofs.YtkgeiaideklmoaaGreat
open Go.Vs
section
variable [Vs.Envs]
attribute [local irreducible] Vs.Fn mJ eH aX mgC iQ gQ bD chOK areCh chTo chAt l03 chB rk cd3 chI stp stpTo
variable {C1:Ctx}
end
section
variable [Vs.Envs]
attribute [local irreducible] Vs.Fn iQ gQ mtC mat chOK areCh chTo chAt l03 chB rk cd3 chI stp stpTo
end
end Go.Proofs.YtkgeiaideklmoaaGreat
