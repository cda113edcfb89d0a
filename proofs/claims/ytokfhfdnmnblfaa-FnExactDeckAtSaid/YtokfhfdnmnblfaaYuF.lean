/- Characters, fields, specifications and steps. -/
import Derived.Test.YtokfhfdnmnblfaaYuD
import Derived.Test.YtokfhfdnmnblfaaVtJ
namespace Go.Proofs.Ytokfhfdnmnblfaa
open Go.Vs
set_option linter.unusedSectionVars false
variable [Vs.Envs]
set_option linter.unusedSimpArgs false
set_option linter.unusedVariables false
attribute [local irreducible] Vs.Fn
structure Spc where
  w0 : Int
  w1 : Int
  text : ByteArray
  g0 : Int
  g1 : Int
  s0 : Int
  s1 : Int
def cP (x : Spc) : List AV := [.v (.int .i64 x.w0), .v (.int .i64 x.w1), .v (.string x.text), .v (.int .i64 x.g0), .v (.int .i64 x.g1), .v (.int .i64 x.s0), .v (.int .i64 x.s1)]
end Go.Proofs.Ytokfhfdnmnblfaa
