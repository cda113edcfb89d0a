/- Counting decks. -/
import Derived.Test.YthbnjmgjhonfbaaGreatTuS
set_option linter.all false
set_option maxHeartbeats 8000000
namespace Go.Proofs.YthbnjmgjhonfbaaGreat
open Go.Vs
variable [Vs.Envs]
attribute [local irreducible] Vs.Fn
def pK (m:Nat):Nat→Nat
 |0=>0
 |i+1=>geo m i
theorem aDl (m:Nat):∀i,pK m (i+1)=pK m i+m ^ i
 |0=>rfl
 |i+1=>rfl
end Go.Proofs.YthbnjmgjhonfbaaGreat
