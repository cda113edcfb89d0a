/- Comparisons of lists. -/
import Derived.Test.YtidbcoagjbbjdaaGreatDoorVtF
set_option linter.all false
set_option maxHeartbeats 8000000
namespace Go.Vs
section
variable [Envs]
variable {P : Program} {α : Type} {c : α → List AV}
attribute [local irreducible] Fn
end
section
variable [Envs]
variable {P : Program} {α : Type} {c : α → List AV}
attribute [local irreducible] Fn
end
end Go.Vs
