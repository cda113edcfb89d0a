/- How the arguments' types read. -/
import Derived.Test.YthbnjmgjhonfbaaGreatTuH
import Derived.Test.YthbnjmgjhonfbaaGreatTuA
import Derived.Test.YthbnjmgjhonfbaaGreatVtF
set_option linter.all false
set_option maxHeartbeats 8000000
namespace Go.Proofs.YthbnjmgjhonfbaaGreat
open Go.Vs
section
variable [Vs.Envs]
attribute [local irreducible] Vs.Fn cZ aW dB dC l03
theorem aDW (x:Stp) (w:Int) (hs:x.text.size≤1048576):Fz F.qG [.ro (cS x),.v (.int .i64 w)] (.v (.bool (dP x w))):=by
 refine fn0 Cd.s_l15Step_k fun X=>?_
 repeat' first|simp -dsimp only[go_sem,cS]|apply Br.mk<;>intro h<;>try simp -dsimp only[h]|refine aA.c (by first|exact yO _ _ _|exact aKL _|exact aKN _|exact dS _ _ _|exact aDZ _ _ _ hs) ?_|refine aC ?_|fail
 all_goals(first|(simp_all [dP,rF,dR,aDX];done)|(refine aO ?_;grind [dP,rF,dR,aDX]))
end
section
variable [Vs.Envs]
set_option maxRecDepth 100000
theorem E_map {α β:Type}{c:α→List AV}{g:β→α} (l:List β):E c (l.map g)=l.map fun x=>c (g x):=by simp[E]
end
end Go.Proofs.YthbnjmgjhonfbaaGreat
