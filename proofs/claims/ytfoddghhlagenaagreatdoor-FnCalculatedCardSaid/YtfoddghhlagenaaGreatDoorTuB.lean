/- Contracts of small functions. -/
import Derived.Test.YtfoddghhlagenaaGreatDoorTuA
set_option linter.all false
set_option maxHeartbeats 8000000
namespace Go.Proofs.YtfoddghhlagenaaGreatDoor
open Go.Vs
variable [Vs.Envs]
attribute [local irreducible] Vs.Fn
def inB (a b c:Int):Bool:=decide (a≥b)&&decide (a<=c)
theorem xL (a b c:Int):Fz F.jX [.v (.int .i64 a),.v (.int .i64 b),.v (.int .i64 c)] (.v (.bool (inB a b c))):=by
 refine fn0 Cd.s_l00In_k λX=>?_
 repeat' first|simp -dsimp only[go_sem]|apply Br.mk<;>intro h<;>try simp -dsimp only[h]|refine aC ?_|refine aC9 ?_|fail
 all_goals(first|(simp_all [inB];done)|(simp_all [inB];omega))
theorem inside (a b c:Int):Fz F.iB [.v (.int .i64 a),.v (.int .i64 b),.v (.int .i64 c)] (.v (.bool (inB a b c))):=by
 refine fn0 Cd.i_inside_k λX=>?_
 repeat' first|simp -dsimp only[go_sem]|apply Br.mk<;>intro h<;>try simp -dsimp only[h]|refine aC ?_|refine aC9 ?_|fail
 all_goals(first|(simp_all [inB];done)|(simp_all [inB];omega))
abbrev W (n:Int):Int:=IntKind.i64.wrap n
end Go.Proofs.YtfoddghhlagenaaGreatDoor
