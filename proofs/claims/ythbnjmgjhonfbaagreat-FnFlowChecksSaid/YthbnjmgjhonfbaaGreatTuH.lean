/- The steps of a flow: the program. -/
import Derived.Test.YthbnjmgjhonfbaaGreatTuF
set_option linter.all false
set_option maxHeartbeats 8000000
namespace Go.Proofs.YthbnjmgjhonfbaaGreat
open Go.Vs
section
variable [Vs.Envs]
attribute [local irreducible] Vs.Fn cZ aW dB dC l03
end
section
variable [Vs.Envs]
attribute [local irreducible] Vs.Fn cZ aW dB dC l03
def dP (x:Stp) (w:Int):Bool:=
 inB x.kind 1 7&&(inB x.a 0 5&&(inB x.b 0 5&&(inB x.to 0 5&&(dJ x.f0 x.f1 w&&((x.b==0||inB x.kind 2 4) &&
   (if x.kind==7 then x.to==0&&(rF x.s0 x.s1 w&&dR x.text) else(x.s0==0&&x.s1==0)&&(if x.kind==5 then aW x.text&&((x.text.size:Int)==W (x.f1-x.f0)) else dR x.text)))))))
theorem wZ (x:Stp) (w:Int) (hs:x.text.size≤1048576):Fz F.mH [.agg (cS x),.v (.int .i64 w)] (.v (.bool (inB w 1 20&&dP x w))):=by
 refine fn0 Cd.i_ValidStep_k fun X=>?_
 repeat' first|simp -dsimp only[go_sem,cS]|apply Br.mk<;>intro h<;>try simp -dsimp only[h]|refine aA.c (by first|exact inside _ _ _|exact aL6 _|exact aH8 _|exact sM _ _ _|exact yP _ _ _|exact oJ _ hs) ?_|refine aC ?_|fail
 all_goals(first|(simp_all [dP,dR];done)|(refine aO ?_;grind [dP,dR]))
end
end Go.Proofs.YthbnjmgjhonfbaaGreat
