/- Decimal numbers; the sum of a number's digits. -/
import Derived.Test.YtokfhfdnmnblfaaYwA
import Derived.Test.YtokfhfdnmnblfaaVtO
namespace Go.Proofs.Ytokfhfdnmnblfaa
open Go.Vs
set_option linter.unusedSectionVars false
variable [Vs.Envs]
set_option linter.unusedSimpArgs false
set_option linter.unusedVariables false
attribute [local irreducible] Vs.Fn
end Go.Proofs.Ytokfhfdnmnblfaa
