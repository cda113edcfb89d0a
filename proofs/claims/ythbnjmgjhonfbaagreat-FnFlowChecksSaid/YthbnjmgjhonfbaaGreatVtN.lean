/- What a size that is not exceeded says of a list and of what is in it. -/
import Derived.Test.YthbnjmgjhonfbaaGreatVtK
set_option linter.all false
set_option maxHeartbeats 8000000
namespace Go.Vs
section
variable [Envs]
variable {P:Program}{α:Type}{d:α→AV}
attribute [local irreducible] Fn
end
section
variable [Envs]
variable {P:Program}
attribute [local irreducible] Fn
end
section
variable [Envs]
end
end Go.Vs
