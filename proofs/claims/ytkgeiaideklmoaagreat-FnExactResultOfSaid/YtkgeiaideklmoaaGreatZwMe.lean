/- The cards of a specification lie in memory of their own. -/
import Derived.Test.YtkgeiaideklmoaaGreatZwMc
import Derived.Test.YtkgeiaideklmoaaGreatZwMa
import Derived.Test.YtkgeiaideklmoaaGreatZwMd
import Derived.Test.YtkgeiaideklmoaaGreatZwVg
import Derived.Test.YtkgeiaideklmoaaGreatVuN
set_option linter.all false
set_option maxHeartbeats 8000000
namespace Go.Proofs.YtkgeiaideklmoaaGreat
open Go.Vs
variable [Vs.Envs]
attribute [local irreducible] Vs.Fn pun cmT flt zR chOK areCh chTo chAt l03 chB rk cd3 chI stp stpTo
theorem aDP {f:FuncId}{fn:Func}{ac:aF} (h:bX Tryz.prog f fn ac):mW Tryz.prog f:=Vs.bX.has h
end Go.Proofs.YtkgeiaideklmoaaGreat
