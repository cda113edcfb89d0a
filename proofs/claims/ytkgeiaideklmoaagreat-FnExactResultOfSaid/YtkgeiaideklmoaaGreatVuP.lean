/- A stretch whose last row is closed: from there on it is read only. -/
import Derived.Test.YtkgeiaideklmoaaGreatVuN
set_option linter.all false
set_option maxHeartbeats 8000000
namespace Go.Vs
section
section
variable [Envs]
variable {P:Program}{nt:Nat}{Q:Exit→Act→World→Prop}
end
section
variable [I:Envs]
variable {P:Program}{nt:Nat}{Q:Exit→Act→World→Prop}{a:Act}{w:World}
end
end
section
variable {P:Program}{nt:Nat}{Q:Exit→Act→World→Prop}{a:Act}{w:World}
variable {I:Envs}{C1:Ctx}{σ τ:St}{S:Nat→Prop}
end
end Go.Vs
