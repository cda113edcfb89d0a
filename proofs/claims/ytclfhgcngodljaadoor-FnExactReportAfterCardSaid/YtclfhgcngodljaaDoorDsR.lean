/- Reading operations. -/
import Derived.Test.YtclfhgcngodljaaDoorDsP
namespace Go.Vs
def isRd : AOp → Bool
  | .box _ | .alloc _ | .bslice .. | .mk .. | .call .. | .store .. | .append .. | .appendC .. | .bsliceC .. => false
  | _ => true
end Go.Vs
