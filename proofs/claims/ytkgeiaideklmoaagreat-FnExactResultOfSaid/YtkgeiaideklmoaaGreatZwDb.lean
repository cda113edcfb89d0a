/- Decks in memory of their own: SortedBy, SelectEqual, FirstOfGroups, MergeDecks. -/
import Derived.Test.YtkgeiaideklmoaaGreatZwMc
import Derived.Test.YtkgeiaideklmoaaGreatZwMe
import Derived.Test.YtkgeiaideklmoaaGreatVuP
set_option linter.all false
set_option maxHeartbeats 8000000
namespace Go.Proofs.YtkgeiaideklmoaaGreat
open Go.Vs
variable [Vs.Envs]
attribute [local irreducible] Vs.Fn mJ eH bL aX mgC fI flt gY mY iQ gQ chOK areCh chTo chAt l03 chB rk cd3 chI stp stpTo
end Go.Proofs.YtkgeiaideklmoaaGreat
