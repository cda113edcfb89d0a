/- Offices: sizes, copies, comparisons. -/
import Derived.Test.YtimcedhcefcbbaaDoorVsD
import Derived.Test.YtimcedhcefcbbaaDoorTuR
import Derived.Test.YtimcedhcefcbbaaDoorTuF
import Derived.Test.YtimcedhcefcbbaaDoorVtO
set_option linter.all false
set_option maxHeartbeats 8000000
namespace Go.Proofs.YtimcedhcefcbbaaDoor
open Go.Vs
variable [Vs.Tab 0 Vs.powP]
attribute [local irreducible] Vs.Fn
structure Off where
 trays : List (List (List Int))
 totals : List (List Tot)
def smallC (l : List (List Int)) : Prop := l.length ≤ 1048576 ∧ ∀ c, c ∈ l → c.length ≤ 1048576
end Go.Proofs.YtimcedhcefcbbaaDoor
