/- Sums; the sum of a number's digits. -/
import Derived.Test.YtokfhfdnmnblfaaVtO
namespace Go.Vs
set_option linter.unusedSectionVars false
variable [Envs]
end Go.Vs
