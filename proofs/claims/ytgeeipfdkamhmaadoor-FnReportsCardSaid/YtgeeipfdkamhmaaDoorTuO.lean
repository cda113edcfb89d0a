/- How the arguments' types read. -/
import Derived.Test.YtgeeipfdkamhmaaDoorTuA
import Derived.Test.YtgeeipfdkamhmaaDoorFtF
namespace Go.Proofs.YtgeeipfdkamhmaaDoor
open Go.Vs
set_option maxRecDepth 100000
theorem E_map {α β : Type} {c : α → List AV} {g : β → α} (l : List β) : E c (l.map g) = l.map fun x => c (g x) := by simp [E]
end Go.Proofs.YtgeeipfdkamhmaaDoor
