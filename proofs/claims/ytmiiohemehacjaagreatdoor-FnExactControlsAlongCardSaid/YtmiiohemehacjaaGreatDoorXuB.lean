/- Contracts of small functions. -/
import Derived.Test.YtmiiohemehacjaaGreatDoorXuA
set_option linter.all false
set_option maxHeartbeats 8000000
namespace Go.Proofs.YtmiiohemehacjaaGreatDoor
open Go.Vs
variable [Vs.Envs]
attribute [local irreducible] Vs.Fn
def inB (a b c:Int):Bool:=decide (a≥b)&&decide (a<=c)
theorem zI (a b c:Int):Fz F.mG [.v (.int .i64 a),.v (.int .i64 b),.v (.int .i64 c)] (.v (.bool (inB a b c))):=by
 refine fn0 Cd.s_l00In_k λX=>?_
 repeat' first|simp -dsimp only[go_sem]|apply Br.mk<;>intro h<;>try simp -dsimp only[h]|refine aC ?_|fail
 all_goals(first|(simp_all [inB];done)|(simp_all [inB];omega))
theorem inside (a b c:Int):Fz F.jX [.v (.int .i64 a),.v (.int .i64 b),.v (.int .i64 c)] (.v (.bool (inB a b c))):=by
 refine fn0 Cd.i_inside_k λX=>?_
 repeat' first|simp -dsimp only[go_sem]|apply Br.mk<;>intro h<;>try simp -dsimp only[h]|refine aC ?_|fail
 all_goals(first|(simp_all [inB];done)|(simp_all [inB];omega))
abbrev W (n:Int):Int:=IntKind.i64.wrap n
theorem aNQ (a b c x y z:Int):Fz F.jV [.agg [.v (.int .i64 a),.v (.int .i64 b),.v (.int .i64 c)],.agg [.v (.int .i64 x),.v (.int .i64 y),.v (.int .i64 z)]] (.v (.bool (decide (a=x∧b=y∧c=z)))):=by
 refine fn0 Cd.l_eqControl_k λX=>?_
 repeat' first|simp -dsimp only[go_sem]|apply Br.mk<;>intro h<;>try simp -dsimp only[h]|refine aC ?_|fail
 all_goals(simp_all)
end Go.Proofs.YtmiiohemehacjaaGreatDoor
