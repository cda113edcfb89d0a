/- How the arguments' types read. -/
import Derived.Test.YtmiiohemehacjaaGreatDoorXuF
import Derived.Test.YtmiiohemehacjaaGreatDoorXuA
import Derived.Test.YtmiiohemehacjaaGreatDoorVtF
set_option linter.all false
set_option maxHeartbeats 8000000
namespace Go.Proofs.YtmiiohemehacjaaGreatDoor
open Go.Vs
section
variable [Vs.Envs]
attribute [local irreducible] Vs.Fn chOK areCh chTo chAt l03
end
section
variable [Vs.Envs]
attribute [local irreducible] Vs.Fn chOK areCh chTo chAt l03
def dW (x:Stp) (w:Int):Bool:=
 inB x.kind 1 7&&(inB x.a 0 5&&(inB x.b 0 5&&(inB x.to 0 5&&(eF x.f0 x.f1 w&&((x.b==0||inB x.kind 2 4) &&
   (if x.kind==7 then x.to==0&&(kX x.s0 x.s1 w&&aBt x.text) else(x.s0==0&&x.s1==0)&&(if x.kind==5 then areCh x.text&&((x.text.size:Int)==W (x.f1-x.f0)) else aBt x.text)))))))
theorem aDk (x:Stp) (w:Int) (u:x.text.size<=1048576):Fz F.p8 [.agg (cS x),.v (.int .i64 w)] (.v (.bool (inB w 1 20&&dW x w))):=by
 refine fn0 Cd.i_ValidStep_k λX=>?_
 repeat' first|simp -dsimp only[go_sem,cS]|apply Br.mk<;>intro h<;>try simp -dsimp only[h]|refine aA.c (by first|exact inside _ _ _|exact aM3 _|exact aJb _|exact wF _ _ _|exact jS _ _ _|exact uD _ u) ?_|refine aC ?_|fail
 all_goals(first|(simp_all [dW,aBt];done)|(refine aU ?_;grind [dW,aBt]))
end
section
variable [Vs.Envs]
attribute [local irreducible] Vs.Fn chOK areCh chTo chAt l03
theorem tH (x:Stp) (w:Int) (u:x.text.size<=1048576):Fz F.qU [.ro (cS x),.v (.int .i64 w)] (.v (.bool (dW x w))):=by
 refine fn0 Cd.s_l15Step_k λX=>?_
 repeat' first|simp -dsimp only[go_sem,cS]|apply Br.mk<;>intro h<;>try simp -dsimp only[h]|refine aA.c (by first|exact aAe _ _ _|exact aLE _|exact aLG _|exact dX _ _ _|exact aHI _ _ _ u) ?_|refine aC ?_|fail
 all_goals(first|(simp_all [dW,kX,aBt,aJ3];done)|(refine aU ?_;grind [dW,kX,aBt,aJ3]))
end
section
variable [Vs.Envs]
set_option maxRecDepth 100000
theorem E_map {α β:Type}{c:α->List AV}{g:β->α} (l:List β):E c (l.map g)=l.map λx=>c (g x):=by simp[E]
end
end Go.Proofs.YtmiiohemehacjaaGreatDoor
