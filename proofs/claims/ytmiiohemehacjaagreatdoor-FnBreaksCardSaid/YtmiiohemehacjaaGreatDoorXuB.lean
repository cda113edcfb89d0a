/- Contracts of small functions. -/
import Derived.Test.YtmiiohemehacjaaGreatDoorXuA
set_option linter.all false
set_option maxHeartbeats 8000000
namespace Go.Proofs.YtmiiohemehacjaaGreatDoor
open Go.Vs
variable [Vs.Envs]
attribute [local irreducible] Vs.Fn
def inB (a b c:Int):Bool:=decide (a≥b)&&decide (a<=c)
theorem aAe (a b c:Int):Fz F.nE [.v (.int .i64 a),.v (.int .i64 b),.v (.int .i64 c)] (.v (.bool (inB a b c))):=by
 refine fn0 Cd.s_l00In_k λX=>?_
 repeat' first|simp -dsimp only[go_sem]|apply Br.mk<;>intro h<;>try simp -dsimp only[h]|refine aC ?_|fail
 all_goals(first|(simp_all [inB];done)|(simp_all [inB];omega))
theorem inside (a b c:Int):Fz F.kK [.v (.int .i64 a),.v (.int .i64 b),.v (.int .i64 c)] (.v (.bool (inB a b c))):=by
 refine fn0 Cd.i_inside_k λX=>?_
 repeat' first|simp -dsimp only[go_sem]|apply Br.mk<;>intro h<;>try simp -dsimp only[h]|refine aC ?_|fail
 all_goals(first|(simp_all [inB];done)|(simp_all [inB];omega))
abbrev W (n:Int):Int:=IntKind.i64.wrap n
theorem plusC (a b c x y z t:Int):Fz F.iT [.agg [.v (.int .i64 a),.v (.int .i64 b),.v (.int .i64 c)],.agg [.v (.int .i64 x),.v (.int .i64 y),.v (.int .i64 z)],.v (.int .i64 t)] (.agg [.v (.int .i64 (W (a+W (t*x)))),.v (.int .i64 (W (b+W (t*y)))),.v (.int .i64 (W (c+W (t*z))))]):=by
 refine fn0 Cd._i_Control__plus_k λX=>?_
 repeat' first|simp -dsimp only[go_sem]|apply Br.mk<;>intro h<;>try simp -dsimp only[h]|refine aC ?_|fail
 all_goals(exact⟨_,_,rfl,rfl⟩)
end Go.Proofs.YtmiiohemehacjaaGreatDoor
