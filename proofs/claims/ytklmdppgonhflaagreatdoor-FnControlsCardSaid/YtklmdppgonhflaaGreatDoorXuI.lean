/- The steps of a flow: the reference. -/
import Derived.Test.YtklmdppgonhflaaGreatDoorXuF
set_option linter.all false
set_option maxHeartbeats 8000000
namespace Go.Proofs.YtklmdppgonhflaaGreatDoor
open Go.Vs
section
variable [Vs.Envs]
attribute [local irreducible] Vs.Fn dJ bB dK dL l03
end
section
variable [Vs.Envs]
attribute [local irreducible] Vs.Fn dJ bB dK dL l03
def gG (x:Stp) (w:Int):Bool:=
 inB x.kind 1 7&&(inB x.a 0 5&&(inB x.b 0 5&&(inB x.to 0 5&&(dW x.f0 x.f1 w&&((x.b==0||inB x.kind 2 4) &&
   (if x.kind==7 then x.to==0&&(l9 x.s0 x.s1 w&&aBQ x.text) else(x.s0==0&&x.s1==0)&&(if x.kind==5 then bB x.text&&((x.text.size:Int)==W (x.f1-x.f0)) else aBQ x.text)))))))
theorem dO (x:Stp) (w:Int) (G:x.text.size<=1048576):Fz F.nV [.agg (cS x),.v (.int .i64 w)] (.v (.bool (inB w 1 20&&gG x w))):=by
 refine fn0 Cd.i_ValidStep_k λX=>?_
 repeat' first|simp -dsimp only[go_sem,cS]|apply Br.mk<;>intro h<;>try simp -dsimp only[h]|refine aA.c (by first|exact inside _ _ _|exact aOC _|exact aKm _|exact xH _ _ _|exact uU _ _ _|exact uZ _ G) ?_|refine aC ?_|refine aC9 ?_|fail
 all_goals(first|(simp_all [gG,aBQ];done)|(refine aR ?_;grind [gG,aBQ]))
end
section
variable [Vs.Envs]
attribute [local irreducible] Vs.Fn dJ bB dK dL l03
theorem qG (x:Stp) (w:Int) (G:x.text.size<=1048576):Fz F.sD [.ro (cS x),.v (.int .i64 w)] (.v (.bool (gG x w))):=by
 refine fn0 Cd.s_l15Step_k λX=>?_
 repeat' first|simp -dsimp only[go_sem,cS]|apply Br.mk<;>intro h<;>try simp -dsimp only[h]|refine aA.c (by first|exact yV _ _ _|exact aM3 _|exact aM6 _|exact dZ _ _ _|exact aIC _ _ _ G) ?_|refine aC ?_|refine aC9 ?_|fail
 all_goals(first|(simp_all [gG,l9,aBQ,aLm];done)|(refine aR ?_;grind [gG,l9,aBQ,aLm]))
end
end Go.Proofs.YtklmdppgonhflaaGreatDoor
