/- How the arguments' types read. -/
import Derived.Test.YtidbcoagjbbjdaaGreatDoorVsD
import Derived.Test.YtidbcoagjbbjdaaGreatDoorXuA
import Derived.Test.YtidbcoagjbbjdaaGreatDoorVtF
set_option linter.all false
set_option maxHeartbeats 8000000
namespace Go.Proofs.YtidbcoagjbbjdaaGreatDoor
open Go.Vs
variable [Vs.Tab 0 Vs.powP]
set_option maxRecDepth 100000
theorem E_map {α β : Type} {c : α → List AV} {g : β → α} (l : List β) : E c (l.map g) = l.map fun x => c (g x) := by simp [E]
end Go.Proofs.YtidbcoagjbbjdaaGreatDoor
