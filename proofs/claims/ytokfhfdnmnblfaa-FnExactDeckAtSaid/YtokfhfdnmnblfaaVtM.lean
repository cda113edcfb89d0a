/- Comparisons of lists of numbers; comparisons by a function value. -/
import Derived.Test.YtokfhfdnmnblfaaVtK
namespace Go.Vs
set_option linter.unusedSectionVars false
variable [Envs]
variable {P : Program} {α : Type} {d : α → AV}
set_option linter.unusedSimpArgs false
attribute [local irreducible] Fn
end Go.Vs

namespace Go.Vs
set_option linter.unusedSectionVars false
variable [Envs]
variable {P : Program}
set_option linter.unusedSimpArgs false
attribute [local irreducible] Fn
end Go.Vs
