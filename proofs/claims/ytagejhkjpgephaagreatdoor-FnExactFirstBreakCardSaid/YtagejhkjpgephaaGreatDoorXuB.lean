/- Contracts of small functions. -/
import Derived.Test.YtagejhkjpgephaaGreatDoorXuA
set_option linter.unusedSimpArgs false
set_option linter.unusedVariables false
set_option maxHeartbeats 8000000
namespace Go.Proofs.YtagejhkjpgephaaGreatDoor
open Go.Vs
attribute [local irreducible] Vs.Fn
def inB (a b c : Int) : Bool := decide (a ≥ b) && decide (a ≤ c)
theorem l00In (a b c : Int) : Fz F.s_l00In [.v (.int .i64 a), .v (.int .i64 b), .v (.int .i64 c)] (.v (.bool (inB a b c))) := by
 refine fn0 Cd.s_l00In_k fun X => ?_
 repeat' first
  |simp -dsimp only [go_sem]
  |refine Br.mk ?_ ?_<;>intro h<;>try simp -dsimp only[h]
  |refine and_c ?_
  |fail
 all_goals (first | (simp_all [inB]; done) | (simp_all [inB]; omega))
theorem inside (a b c : Int) : Fz F.i_inside [.v (.int .i64 a), .v (.int .i64 b), .v (.int .i64 c)] (.v (.bool (inB a b c))) := by
 refine fn0 Cd.i_inside_k fun X => ?_
 repeat' first
  |simp -dsimp only [go_sem]
  |refine Br.mk ?_ ?_<;>intro h<;>try simp -dsimp only[h]
  |refine and_c ?_
  |fail
 all_goals (first | (simp_all [inB]; done) | (simp_all [inB]; omega))
theorem toControl (a b c : Int) : Fz F.l_toControl [.agg [.v (.int .i64 a), .v (.int .i64 b), .v (.int .i64 c)]] (.agg [.v (.int .i64 a), .v (.int .i64 b), .v (.int .i64 c)]) := by
 refine fn0 Cd.l_toControl_k fun X => ?_
 repeat' first
  |simp -dsimp only [go_sem]
  |refine Br.mk ?_ ?_<;>intro h<;>try simp -dsimp only[h]
  |refine and_c ?_
  |fail
 all_goals (exact ⟨_, _, rfl, rfl⟩)
abbrev W (n : Int) : Int := IntKind.i64.wrap n
theorem eqControl (a b c x y z : Int) : Fz F.l_eqControl [.agg [.v (.int .i64 a), .v (.int .i64 b), .v (.int .i64 c)], .agg [.v (.int .i64 x), .v (.int .i64 y), .v (.int .i64 z)]] (.v (.bool (decide (a = x ∧ b = y ∧ c = z)))) := by
 refine fn0 Cd.l_eqControl_k fun X => ?_
 repeat' first
  |simp -dsimp only [go_sem]
  |refine Br.mk ?_ ?_<;>intro h<;>try simp -dsimp only[h]
  |refine and_c ?_
  |fail
 all_goals (simp_all)
end Go.Proofs.YtagejhkjpgephaaGreatDoor
