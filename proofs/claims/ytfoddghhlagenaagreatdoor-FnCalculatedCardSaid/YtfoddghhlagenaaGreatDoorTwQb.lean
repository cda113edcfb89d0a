/- Texts of eB, and how they are compared. -/
import Derived.Test.YtfoddghhlagenaaGreatDoorTuF
import Derived.Test.YtfoddghhlagenaaGreatDoorTuR
import Derived.Test.YtfoddghhlagenaaGreatDoorVtN
set_option linter.all false
set_option maxHeartbeats 8000000
namespace Go.Proofs.YtfoddghhlagenaaGreatDoor
open Go.Vs
section
variable [Vs.Envs]
attribute [local irreducible] Vs.Fn l03
end
section
variable [Vs.Envs]
attribute [local irreducible] Vs.Fn l03
def cU (n:Int):List AV:=[.v (.int .u8 n)]
theorem aAJ:∀l:List Int,mI (E cU l)=some l
 | []=>rfl
 | n::r=>by
  have:=aAJ r
  simp only[E,List.map_cons,cU,mI] at this⊢
  rw[this]
theorem aDZ  : Fz F.lY [] (.v (.string ⟨#[32,38,65,66,67,68,69,70,71,72,73,45,74,75,76,77,78,79,80,81,82,47,83,84,85,86,87,88,89,90,48,49,50,51,52,53,54,55,56,57]⟩)):=by
 refine fn0 Cd.s_l03Order_k λX=>?_
 repeat' first|simp -dsimp only[go_sem]|apply Br.mk<;>intro h<;>try simp -dsimp only[h]|refine aC ?_|refine aC9 ?_|fail
 all_goals(simp_all)
end
end Go.Proofs.YtfoddghhlagenaaGreatDoor
