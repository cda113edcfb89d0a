/- Steps that are marked. -/
import Derived.Test.YtonkjfiffcfaoaaGreatUuO
import Derived.Test.YtonkjfiffcfaoaaGreatVtR
set_option linter.all false
set_option maxHeartbeats 8000000
namespace Go.Proofs.YtonkjfiffcfaoaaGreat
open Go.Vs
variable [Vs.Envs]
attribute [local irreducible] Vs.Fn cZ aW dA dB l03
theorem aJi {b0:Blk} (h:Vs.vR b0):∀b,some b∈[some b0]→Vs.vR b:=by
 intro b hb;have:b=b0:=by simpa using hb
 subst this;exact h
end Go.Proofs.YtonkjfiffcfaoaaGreat
