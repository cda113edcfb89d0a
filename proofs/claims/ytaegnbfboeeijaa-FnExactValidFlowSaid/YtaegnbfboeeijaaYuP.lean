/- The arguments, as the contracts have them. -/
import Derived.Test.YtaegnbfboeeijaaYuD
import Derived.Test.YtaegnbfboeeijaaYuO
namespace Go.Proofs.Ytaegnbfboeeijaa
open Go.Vs
def gTot (p : S63 × I64) : Tot := (p.1.1, p.2.1)
def gStp (p : I64 × I64 × I64 × I64 × (I64 × I64) × (I64 × I64) × S63) : Stp := ⟨p.1.1, p.2.1.1, p.2.2.1.1, p.2.2.2.1.1, p.2.2.2.2.1.1.1, p.2.2.2.2.1.2.1, p.2.2.2.2.2.1.1.1, p.2.2.2.2.2.1.2.1, p.2.2.2.2.2.2.1⟩
end Go.Proofs.Ytaegnbfboeeijaa
