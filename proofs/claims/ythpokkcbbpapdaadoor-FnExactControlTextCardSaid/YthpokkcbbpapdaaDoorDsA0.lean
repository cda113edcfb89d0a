/- The tables of the library that a seat's calls may read: block numbers, and what lies there. Of each seat its own. -/
import Derived.Calls
import Derived.Lib.ItoaNum
namespace Go.Vs
def envs : List (Nat × (Option Obj → Prop)) := [(0, fun o => ∃ T fr, o = some (.cells (Lib.pow10Tab.map fun z => Value.int .u64 z).toArray T fr))]
end Go.Vs
