/- The tables of the library that a seat's calls may read: block numbers, and what lies there. Of each seat its own. -/
import Derived.Calls
namespace Go.Vs
def envs : List (Nat × (Option Obj → Prop)) := []
end Go.Vs
