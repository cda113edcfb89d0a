/- The steps of a flow: the program. -/
import Derived.Test.YtidbcoagjbbjdaaGreatDoorVsI
import Derived.Test.YtidbcoagjbbjdaaGreatDoorXuF
set_option linter.all false
set_option maxHeartbeats 8000000
namespace Go.Proofs.YtidbcoagjbbjdaaGreatDoor
open Go.Vs
section
variable [Vs.Tab 0 Vs.powP]
attribute [local irreducible] Vs.Fn chOK areCh chTo chAt l03
end
section
variable [Vs.Tab 0 Vs.powP]
attribute [local irreducible] Vs.Fn chOK areCh chTo chAt l03
def stpB (x : Stp) (w : Int) : Bool :=
 inB x.kind 1 7 && (inB x.a 0 5 && (inB x.b 0 5 && (inB x.to 0 5 && (fldB x.f0 x.f1 w && ((x.b == 0 || inB x.kind 2 4) &&
   (if x.kind == 7 then x.to == 0 && (numB x.s0 x.s1 w && noText x.text) else (x.s0 == 0 && x.s1 == 0) && (if x.kind == 5 then areCh x.text && ((x.text.size : Int) == W (x.f1 - x.f0)) else noText x.text)))))))
theorem impl_ValidStep (x : Stp) (w : Int) (hs : x.text.size ≤ 1048576) : Fz F.i_ValidStep [.agg (cS x), .v (.int .i64 w)] (.v (.bool (inB w 1 20 && stpB x w))) := by
 refine fn0 Cd.i_ValidStep_k fun X => ?_
 repeat' first|simp -dsimp only [go_sem, cS]|apply Br.mk<;>intro h<;>try simp -dsimp only[h]|refine CallK.c (by first|exact inside _ _ _|exact isTray _|exact takesTwo _|exact isField _ _ _|exact isNumberField _ _ _|exact areCharacters _ hs) ?_|refine aC ?_|fail
 all_goals (first | (simp_all [stpB, noText]; done) | (refine ret_eq ?_; grind [stpB, noText]))
end
end Go.Proofs.YtidbcoagjbbjdaaGreatDoor
