/- Copies that are handed over, to be written; rows that are marked one by one. -/
import Derived.Test.YtpdmjalhahblmaaDoorVtO
import Derived.LaidMore
import Derived.Lib.LaidTab
import Derived.MakeChecks
import Derived.Stop.LaidErr
namespace Go.Vs
set_option linter.unusedSectionVars false
variable [Envs]
end Go.Vs

namespace Go.Vs
set_option linter.unusedSectionVars false
variable [Envs]
open Go.ChangeShapes Go.WideShapes Go.ChangeAt Go.RowKit
end Go.Vs

namespace Go.Vs
set_option linter.unusedSectionVars false
variable [Envs]
variable {P : Program} {α : Type} {c : α → List AV}
set_option linter.unusedSimpArgs false

theorem CallK.own {f : FuncId} {ys : List AV} {d : Option Nat} {σ : St} {K : St → Prop} {t : Tag K} {r : AV} {hout : List (Option Blk)} (hfn : Fn P f [] ys r hout) (hfr : freshAll (d.getD 0) 0 hout.length σ = true)
    (hK : K ⟨put d (rn (phi [] (d.getD 0) hout.length) r) σ.s, aftL σ.h [] (d.getD 0) hout true []⟩) : CallK P f [] ys [] d σ [] K t :=
  ⟨r, hout, true, hfn, fun h => (by cases h), hfr, hK⟩
/-- a call that writes one row -/
theorem CallK.bor {f : FuncId} {b : Blk} {ys : List AV} {d : Option Nat} {σ : St} {n : Name} {K : St → Prop} {t : Tag K} {r : AV} {hout : List (Option Blk)} (hfn : Fn P f [b] ys r hout) (hfr : freshAll (d.getD 0) 1 hout.length σ = true)
    (hK : K ⟨put d (rn (phi [n] (d.getD 0) hout.length) r) σ.s, aftL σ.h [n] (d.getD 0) hout true []⟩) : CallK P f [b] ys [] d σ [n] K t :=
  ⟨r, hout, true, hfn, fun h => (by cases h), hfr, hK⟩

theorem vc_mono {K K' : St → Prop} (hK : ∀ σ, K σ → K' σ) : ∀ (ops : List AOper) (σ : St), vc P K ops σ → vc P K' ops σ
  | [], σ, hv => hK σ hv
  | _ :: r, _, hv => vc_cons.2 (vc1_mono (fun σ' h => vc_mono hK r σ' h) (vc_cons.1 hv))
end Go.Vs
