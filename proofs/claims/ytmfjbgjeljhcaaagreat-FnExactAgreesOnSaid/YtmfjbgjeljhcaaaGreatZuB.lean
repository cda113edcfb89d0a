/- Contracts of small functions. -/
import Derived.Test.YtmfjbgjeljhcaaaGreatZuA
namespace Go.Proofs.YtmfjbgjeljhcaaaGreat
set_option maxHeartbeats 8000000
open Go.Vs
set_option linter.unusedSimpArgs false
set_option linter.unusedVariables false
attribute [local irreducible] Vs.Fn
def inB (a b c : Int) : Bool := decide (a ≥ b) && decide (a ≤ c)
theorem l00In (a b c : Int) : Vs.Fn Tryz.prog F.spec_l00In [] [.v (.int .i64 a), .v (.int .i64 b), .v (.int .i64 c)] (.v (.bool (inB a b c))) [] := by
 refine fn0 Cd.spec_l00In_k fun X => ?_
 repeat' first
  |simp -dsimp only [go_sem]
  |refine Br.mk (fun h => ?_) (fun h => ?_)<;>try simp -dsimp only[h]
  |refine RgK.mk rfl ?_
  |refine and_c ?_
  |fail
 all_goals (first | (simp_all [inB]; done) | (simp_all [inB]; omega))
theorem inside (a b c : Int) : Vs.Fn Tryz.prog F.impl_inside [] [.v (.int .i64 a), .v (.int .i64 b), .v (.int .i64 c)] (.v (.bool (inB a b c))) [] := by
 refine fn0 Cd.impl_inside_k fun X => ?_
 repeat' first
  |simp -dsimp only [go_sem]
  |refine Br.mk (fun h => ?_) (fun h => ?_)<;>try simp -dsimp only[h]
  |refine RgK.mk rfl ?_
  |refine and_c ?_
  |fail
 all_goals (first | (simp_all [inB]; done) | (simp_all [inB]; omega))
abbrev W (n : Int) : Int := IntKind.i64.wrap n
end Go.Proofs.YtmfjbgjeljhcaaaGreat
