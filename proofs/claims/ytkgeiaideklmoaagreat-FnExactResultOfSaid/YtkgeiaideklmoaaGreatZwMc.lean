/- Cards that lie in memory of their own, deleted out of a row. -/
import Derived.Test.YtkgeiaideklmoaaGreatZwSq
import Derived.Test.YtkgeiaideklmoaaGreatZwVg
import Derived.Test.YtkgeiaideklmoaaGreatZwMa
import Derived.Test.YtkgeiaideklmoaaGreatZwRh
import Derived.Test.YtkgeiaideklmoaaGreatVuN
import Derived.Test.YtkgeiaideklmoaaGreatZwSh
import Derived.Test.YtkgeiaideklmoaaGreatVuD
set_option linter.all false
set_option maxHeartbeats 8000000
namespace Go.Proofs.YtkgeiaideklmoaaGreat
open Go.Vs
section
variable [Vs.Envs]
attribute [local irreducible] Vs.Fn mJ eH bL aX mgC chOK areCh chTo chAt l03 chB rk cd3 chI stp stpTo
abbrev Sl:=Option Addr×Nat×Nat
def slW (x:Sl):Value:=.slice x.1 x.2.1 x.2.2
def sV (x:Sl):List AV:=[.v (.slice x.1 x.2.1 x.2.2)]
theorem bQ {V:List Sl}:∀r,r∈E sV V→Vs.jQ r=true:=fun r F=>by
 obtain⟨x,_,rfl⟩:=List.mem_map.1 F;rfl
theorem aDv (V:List Sl):(V.map slW).map (fun s=>[AV.v s])=E sV V:=by rw[List.map_map];rfl
theorem aFu (V:List Sl) (x:Sl):E sV V++[[.v (.slice x.1 x.2.1 x.2.2)]]=E sV (V++[x]):=by rw[aY];rfl
end
section
variable [Vs.Envs]
attribute [local irreducible] Vs.Fn chOK areCh chTo chAt l03 chB rk cd3 chI stp stpTo
attribute [local irreducible] rA zR yU
end
end Go.Proofs.YtkgeiaideklmoaaGreat
