/- A contract of the library's, as this framework has contracts. -/
import Derived.Test.YtokfhfdnmnblfaaVtN
import Derived.Sort.Grow
import Derived.Deep.Draws
namespace Go.Vs
set_option linter.unusedSectionVars false
variable [Envs]
variable {P : Program}
end Go.Vs
