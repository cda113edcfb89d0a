/- How the arguments' types read. -/
import Derived.Test.YtidbcoagjbbjdaaGreatDoorVsI
import Derived.Test.YtidbcoagjbbjdaaGreatDoorXuH
import Derived.Test.YtidbcoagjbbjdaaGreatDoorXuA
import Derived.Test.YtidbcoagjbbjdaaGreatDoorVtF
set_option linter.all false
set_option maxHeartbeats 8000000
namespace Go.Proofs.YtidbcoagjbbjdaaGreatDoor
open Go.Vs
section
variable [Vs.Tab 0 Vs.powP]
attribute [local irreducible] Vs.Fn chOK areCh chTo chAt l03
theorem l15Step (x : Stp) (w : Int) (hs : x.text.size ≤ 1048576) : Fz F.s_l15Step [.ro (cS x), .v (.int .i64 w)] (.v (.bool (stpB x w))) := by
 refine fn0 Cd.s_l15Step_k fun X => ?_
 repeat' first|simp -dsimp only [go_sem, cS]|apply Br.mk<;>intro h<;>try simp -dsimp only[h]|refine CallK.c (by first|exact l00In _ _ _|exact l15Tray _|exact l15Both _|exact l02Field _ _ _|exact l09Text _ _ _ hs) ?_|refine aC ?_|fail
 all_goals (first | (simp_all [stpB, numB, noText, l09_eq]; done) | (refine ret_eq ?_; grind [stpB, numB, noText, l09_eq]))
end
section
variable [Vs.Tab 0 Vs.powP]
set_option maxRecDepth 100000
theorem E_map {α β : Type} {c : α → List AV} {g : β → α} (l : List β) : E c (l.map g) = l.map fun x => c (g x) := by simp [E]
end
end Go.Proofs.YtidbcoagjbbjdaaGreatDoor
