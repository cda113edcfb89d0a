/- The library's stable sort of at most forty numbers. -/
import Derived.Test.YtokfhfdnmnblfaaYuB
import Derived.Test.YtokfhfdnmnblfaaYwSb
import Derived.Test.YtokfhfdnmnblfaaVtR
namespace Go.Proofs.Ytokfhfdnmnblfaa
open Go.Vs
set_option linter.unusedSectionVars false
variable [Vs.Envs]
set_option linter.unusedSimpArgs false
set_option linter.unusedVariables false
attribute [local irreducible] Vs.Fn
end Go.Proofs.Ytokfhfdnmnblfaa

namespace Go.Proofs.Ytokfhfdnmnblfaa
open Go.Vs
set_option linter.unusedSectionVars false
variable [Vs.Envs]
set_option linter.unusedSimpArgs false
set_option linter.unusedVariables false
attribute [local irreducible] Vs.Fn
end Go.Proofs.Ytokfhfdnmnblfaa

namespace Go.Proofs.Ytokfhfdnmnblfaa
open Go.Vs
set_option linter.unusedSectionVars false
variable [Vs.Envs]
set_option linter.unusedSimpArgs false
set_option linter.unusedVariables false
attribute [local irreducible] Vs.Fn
end Go.Proofs.Ytokfhfdnmnblfaa

namespace Go.Proofs.Ytokfhfdnmnblfaa
open Go.Vs
set_option linter.unusedSectionVars false
variable [Vs.Envs]
set_option linter.unusedSimpArgs false
set_option linter.unusedVariables false
attribute [local irreducible] Vs.Fn
end Go.Proofs.Ytokfhfdnmnblfaa
