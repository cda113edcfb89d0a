/- Numbers that are read, and faults. -/
import Derived.Test.YtpdmjalhahblmaaDoorVsB
import Derived.Test.YtpdmjalhahblmaaDoorXuR
import Derived.Test.YtpdmjalhahblmaaDoorVtK
namespace Go.Proofs.YtpdmjalhahblmaaDoor
open Go.Vs
set_option linter.unusedSectionVars false
variable [Vs.Tab 5 Vs.powP]
set_option linter.unusedSimpArgs false
set_option linter.unusedVariables false
attribute [local irreducible] Vs.Fn
structure Flt where
  kind : Int
  card : Int
  place : Int
  digit : Int
  deriving Inhabited
end Go.Proofs.YtpdmjalhahblmaaDoor
