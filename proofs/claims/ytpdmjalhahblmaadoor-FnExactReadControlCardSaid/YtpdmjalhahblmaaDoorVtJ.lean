/- Lists of numbers: size, copy, comparison. -/
import Derived.Test.YtpdmjalhahblmaaDoorVtF
namespace Go.Vs
set_option linter.unusedSectionVars false
variable [Envs]
variable {P : Program} {α : Type} {c : α → List AV}
set_option linter.unusedSimpArgs false
attribute [local irreducible] Fn
end Go.Vs

namespace Go.Vs
set_option linter.unusedSectionVars false
variable [Envs]
variable {P : Program} {α : Type} {c : α → List AV}
set_option linter.unusedSimpArgs false
attribute [local irreducible] Fn
end Go.Vs

namespace Go.Vs
set_option linter.unusedSectionVars false
variable [Envs]
variable {P : Program} {α : Type} {c : α → List AV}
set_option linter.unusedSimpArgs false
attribute [local irreducible] Fn
end Go.Vs

namespace Go.Vs
set_option linter.unusedSectionVars false
variable [Envs]
variable {P : Program}
set_option linter.unusedSimpArgs false
attribute [local irreducible] Fn
end Go.Vs
