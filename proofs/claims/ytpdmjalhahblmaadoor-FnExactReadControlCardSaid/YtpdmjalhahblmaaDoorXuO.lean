/- How the arguments' types read. -/
import Derived.Test.YtpdmjalhahblmaaDoorVsB
import Derived.Test.YtpdmjalhahblmaaDoorXuA
import Derived.Test.YtpdmjalhahblmaaDoorVtF
namespace Go.Proofs.YtpdmjalhahblmaaDoor
open Go.Vs
set_option linter.unusedSectionVars false
variable [Vs.Tab 5 Vs.powP]
set_option maxRecDepth 100000
end Go.Proofs.YtpdmjalhahblmaaDoor
