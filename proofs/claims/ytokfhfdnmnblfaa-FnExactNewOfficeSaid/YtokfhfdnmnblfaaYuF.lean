/- Characters, fields, specifications and steps. -/
import Derived.Test.YtokfhfdnmnblfaaYuD
import Derived.Test.YtokfhfdnmnblfaaVtJ
namespace Go.Proofs.Ytokfhfdnmnblfaa
open Go.Vs
set_option linter.unusedSectionVars false
variable [Vs.Envs]
set_option linter.unusedSimpArgs false
set_option linter.unusedVariables false
attribute [local irreducible] Vs.Fn
structure Spc where
  w0 : Int
  w1 : Int
  text : ByteArray
  g0 : Int
  g1 : Int
  s0 : Int
  s1 : Int
end Go.Proofs.Ytokfhfdnmnblfaa
