/- Contracts of small functions. -/
import Derived.Test.YtklmdppgonhflaaGreatDoorXuA
set_option linter.all false
set_option maxHeartbeats 8000000
namespace Go.Proofs.YtklmdppgonhflaaGreatDoor
open Go.Vs
variable [Vs.Envs]
attribute [local irreducible] Vs.Fn
def inB (a b c:Int):Bool:=decide (a≥b)&&decide (a<=c)
theorem yV (a b c:Int):Fz F.kR [.v (.int .i64 a),.v (.int .i64 b),.v (.int .i64 c)] (.v (.bool (inB a b c))):=by
 refine fn0 Cd.s_l00In_k λX=>?_
 repeat' first|simp -dsimp only[go_sem]|apply Br.mk<;>intro h<;>try simp -dsimp only[h]|refine aC ?_|refine aC9 ?_|fail
 all_goals(first|(simp_all [inB];done)|(simp_all [inB];omega))
theorem inside (a b c:Int):Fz F.iN [.v (.int .i64 a),.v (.int .i64 b),.v (.int .i64 c)] (.v (.bool (inB a b c))):=by
 refine fn0 Cd.i_inside_k λX=>?_
 repeat' first|simp -dsimp only[go_sem]|apply Br.mk<;>intro h<;>try simp -dsimp only[h]|refine aC ?_|refine aC9 ?_|fail
 all_goals(first|(simp_all [inB];done)|(simp_all [inB];omega))
def okC (a b c:Int):Bool:=inB a 0 1000000&&inB b (-1000000000000000) 1000000000000000&&inB c 0 1000000000
theorem aEx (a b c:Int):Fz F.qF [.agg [.v (.int .i64 a),.v (.int .i64 b),.v (.int .i64 c)]] (.v (.bool (okC a b c))):=by
 refine fn0 Cd.s_l18Ok_k λX=>?_
 repeat' first|simp -dsimp only[go_sem]|apply Br.mk<;>intro h<;>try simp -dsimp only[h]|refine aA.c (by first|exact yV _ _ _) ?_|refine aC ?_|refine aC9 ?_|fail
 all_goals(simp_all [okC])
theorem oO (a b c:Int):Fz F.cZ [.agg [.v (.int .i64 a),.v (.int .i64 b),.v (.int .i64 c)]] (.v (.bool (okC a b c))):=by
 refine fn0 Cd.i_isPlainControl_k λX=>?_
 repeat' first|simp -dsimp only[go_sem]|apply Br.mk<;>intro h<;>try simp -dsimp only[h]|refine aA.c (by first|exact inside _ _ _) ?_|refine aC ?_|refine aC9 ?_|fail
 all_goals(simp_all [okC])
abbrev W (n:Int):Int:=IntKind.i64.wrap n
def twoC (a b c x y z:Int):Int:=if okC a b c&&okC x y z then 0 else 1
theorem aLk (a b c x y z:Int):Fz F.vC [.agg [.v (.int .i64 a),.v (.int .i64 b),.v (.int .i64 c)],.agg [.v (.int .i64 x),.v (.int .i64 y),.v (.int .i64 z)]] (.v (.int .i64 (twoC a b c x y z))):=by
 refine fn0 Cd.s_l18Two_k λX=>?_
 repeat' first|simp -dsimp only[go_sem]|apply Br.mk<;>intro h<;>try simp -dsimp only[h]|refine aA.c (by first|exact aEx _ _ _) ?_|refine aC ?_|refine aC9 ?_|fail
 all_goals(simp_all [twoC])
theorem aDl (a b c x y z t:Int):Fz F.gN [.agg [.v (.int .i64 a),.v (.int .i64 b),.v (.int .i64 c)],.agg [.v (.int .i64 x),.v (.int .i64 y),.v (.int .i64 z)],.v (.int .i64 t)] (.agg [.v (.int .i64 (W (a+W (t*x)))),.v (.int .i64 (W (b+W (t*y)))),.v (.int .i64 (W (c+W (t*z))))]):=by
 refine fn0 Cd._i_Control__plus_k λX=>?_
 repeat' first|simp -dsimp only[go_sem]|apply Br.mk<;>intro h<;>try simp -dsimp only[h]|refine aC ?_|refine aC9 ?_|fail
 all_goals(exact⟨_,_,rfl,rfl⟩)
def dP (a b c x y z p q r:Int):Int×Int×Int×Int:=if okC a b c&&okC x y z then(if okC p q r then(p,q,r,0) else(0,0,0,5)) else(0,0,0,1)
theorem sN (a b c x y z:Int):Fz F.j5 [.agg [.v (.int .i64 a),.v (.int .i64 b),.v (.int .i64 c)],.agg [.v (.int .i64 x),.v (.int .i64 y),.v (.int .i64 z)]] (.tup [.agg [.v (.int .i64 (dP a b c x y z (W (a+x)) (W (b+y)) (W (c+z))).1),.v (.int .i64 (dP a b c x y z (W (a+x)) (W (b+y)) (W (c+z))).2.1),.v (.int .i64 (dP a b c x y z (W (a+x)) (W (b+y)) (W (c+z))).2.2.1)],.v (.int .i64 (dP a b c x y z (W (a+x)) (W (b+y)) (W (c+z))).2.2.2)]):=by
 refine fn0 Cd.s_AddControls_k λX=>?_
 repeat' first|simp -dsimp only[go_sem]|apply Br.mk<;>intro h<;>try simp -dsimp only[h]|refine aA.c (by first|exact aLk _ _ _ _ _ _|exact aEx _ _ _) ?_|refine aC ?_|refine aC9 ?_|fail
 all_goals(cases G:okC a b c<;>cases h2:okC x y z<;>simp_all [twoC,dP])
theorem aJk (a b c x y z:Int):Fz F.lG [.agg [.v (.int .i64 a),.v (.int .i64 b),.v (.int .i64 c)],.agg [.v (.int .i64 x),.v (.int .i64 y),.v (.int .i64 z)]] (.tup [.agg [.v (.int .i64 (dP a b c x y z (W (a-x)) (W (b-y)) (W (c-z))).1),.v (.int .i64 (dP a b c x y z (W (a-x)) (W (b-y)) (W (c-z))).2.1),.v (.int .i64 (dP a b c x y z (W (a-x)) (W (b-y)) (W (c-z))).2.2.1)],.v (.int .i64 (dP a b c x y z (W (a-x)) (W (b-y)) (W (c-z))).2.2.2)]):=by
 refine fn0 Cd.s_TakeControls_k λX=>?_
 repeat' first|simp -dsimp only[go_sem]|apply Br.mk<;>intro h<;>try simp -dsimp only[h]|refine aA.c (by first|exact aLk _ _ _ _ _ _|exact aEx _ _ _) ?_|refine aC ?_|refine aC9 ?_|fail
 all_goals(cases G:okC a b c<;>cases h2:okC x y z<;>simp_all [twoC,dP])
theorem joined (a b c x y z t:Int):Fz F.gK [.agg [.v (.int .i64 a),.v (.int .i64 b),.v (.int .i64 c)],.agg [.v (.int .i64 x),.v (.int .i64 y),.v (.int .i64 z)],.v (.int .i64 t)] (.tup [.agg [.v (.int .i64 (dP a b c x y z (W (a+W (t*x))) (W (b+W (t*y))) (W (c+W (t*z)))).1),.v (.int .i64 (dP a b c x y z (W (a+W (t*x))) (W (b+W (t*y))) (W (c+W (t*z)))).2.1),.v (.int .i64 (dP a b c x y z (W (a+W (t*x))) (W (b+W (t*y))) (W (c+W (t*z)))).2.2.1)],.v (.int .i64 (dP a b c x y z (W (a+W (t*x))) (W (b+W (t*y))) (W (c+W (t*z)))).2.2.2)]):=by
 refine fn0 Cd.i_joinedControls_k λX=>?_
 repeat' first|simp -dsimp only[go_sem]|apply Br.mk<;>intro h<;>try simp -dsimp only[h]|refine aA.c (by first|exact oO _ _ _|exact aDl _ _ _ _ _ _ _) ?_|refine aC ?_|refine aC9 ?_|fail
 all_goals(simp_all [dP])
theorem aLz (a b c x y z:Int):Fz F.mV [.agg [.v (.int .i64 a),.v (.int .i64 b),.v (.int .i64 c)],.agg [.v (.int .i64 x),.v (.int .i64 y),.v (.int .i64 z)]] (.tup [.agg [.v (.int .i64 (dP a b c x y z (W (a+W (1*x))) (W (b+W (1*y))) (W (c+W (1*z)))).1),.v (.int .i64 (dP a b c x y z (W (a+W (1*x))) (W (b+W (1*y))) (W (c+W (1*z)))).2.1),.v (.int .i64 (dP a b c x y z (W (a+W (1*x))) (W (b+W (1*y))) (W (c+W (1*z)))).2.2.1)],.v (.int .i64 (dP a b c x y z (W (a+W (1*x))) (W (b+W (1*y))) (W (c+W (1*z)))).2.2.2)]):=by
 refine fn0 Cd.i_AddControls_k λX=>?_
 repeat' first|simp -dsimp only[go_sem]|apply Br.mk<;>intro h<;>try simp -dsimp only[h]|refine aA.c (by first|exact joined _ _ _ _ _ _ _) ?_|refine aC ?_|refine aC9 ?_|fail
 all_goals(exact⟨_,_,rfl,rfl⟩)
theorem aEC (a b c x y z:Int):Fz F.gU [.agg [.v (.int .i64 a),.v (.int .i64 b),.v (.int .i64 c)],.agg [.v (.int .i64 x),.v (.int .i64 y),.v (.int .i64 z)]] (.tup [.agg [.v (.int .i64 (dP a b c x y z (W (a+W (-1*x))) (W (b+W (-1*y))) (W (c+W (-1*z)))).1),.v (.int .i64 (dP a b c x y z (W (a+W (-1*x))) (W (b+W (-1*y))) (W (c+W (-1*z)))).2.1),.v (.int .i64 (dP a b c x y z (W (a+W (-1*x))) (W (b+W (-1*y))) (W (c+W (-1*z)))).2.2.1)],.v (.int .i64 (dP a b c x y z (W (a+W (-1*x))) (W (b+W (-1*y))) (W (c+W (-1*z)))).2.2.2)]):=by
 refine fn0 Cd.i_TakeControls_k λX=>?_
 repeat' first|simp -dsimp only[go_sem]|apply Br.mk<;>intro h<;>try simp -dsimp only[h]|refine aA.c (by first|exact joined _ _ _ _ _ _ _) ?_|refine aC ?_|refine aC9 ?_|fail
 all_goals(exact⟨_,_,rfl,rfl⟩)
end Go.Proofs.YtklmdppgonhflaaGreatDoor
