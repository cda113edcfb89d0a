/- A region of open order, walked once from a state that is told. -/
import Derived.Test.YtfoddghhlagenaaGreatDoorVuX
set_option linter.all false
set_option maxHeartbeats 8000000
namespace Go.Vs
variable {P:Program}{C:Ctx}
variable [I:Envs]
theorem qN.via {dr:Nat->Array Oper->Option (List Nat)}{ac:aD}{N:St->Prop}{E:gP->St->Prop}{σ τ τ2:St} (hle:LeL σ τ) (h:qN P C dr ac (fun σ'=>LeL σ' τ2) (λ_ _=>False) τ) (hN:N τ2):qN P C dr ac N E σ:=by
 intro c Q a w S ρ κ hc hN' hE hR hok
 exact h c Q a w S ρ κ hc (λa w hg=>by obtain⟨S',ρ',κ',hok'⟩:=hg.le;exact hN' a w ⟨τ2,S',ρ',κ',hN,hok'⟩) (λi a w hg=>hg.no.elim) (λa w hg=>hg.no.elim) (hok.le hle)
end Go.Vs
