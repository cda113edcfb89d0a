/- How the arguments' types read. -/
import Derived.Test.YtonkjfiffcfaoaaGreatUuH
import Derived.Test.YtonkjfiffcfaoaaGreatUuA
import Derived.Test.YtonkjfiffcfaoaaGreatVtF
set_option linter.all false
set_option maxHeartbeats 8000000
namespace Go.Proofs.YtonkjfiffcfaoaaGreat
open Go.Vs
section
variable [Vs.Envs]
attribute [local irreducible] Vs.Fn cZ aW dA dB l03
theorem aDQ (x:Stp) (w:Int) (hs:x.text.size≤1048576):Fz F.qC [.ro (cS x),.v (.int .i64 w)] (.v (.bool (dV x w))):=by
 refine fn0 Cd.s_l15Step_k fun X=>?_
 repeat' first|simp -dsimp only[go_sem,cS]|apply Br.mk<;>intro h<;>try simp -dsimp only[h]|refine aA.c (by first|exact tT _ _ _|exact aKv _|exact aKx _|exact dQ _ _ _|exact aDU _ _ _ hs) ?_|refine aC ?_|fail
 all_goals(first|(simp_all [dV,uY,oD,aDS];done)|(refine aS ?_;grind [dV,uY,oD,aDS]))
end
section
variable [Vs.Envs]
set_option maxRecDepth 100000
theorem E_map {α β:Type}{c:α→List AV}{g:β→α} (l:List β):E c (l.map g)=l.map fun x=>c (g x):=by simp[E]
end
end Go.Proofs.YtonkjfiffcfaoaaGreat
