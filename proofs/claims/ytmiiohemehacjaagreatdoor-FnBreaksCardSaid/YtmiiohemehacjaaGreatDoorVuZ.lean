/- A contract of a function that borrows, out of a walk by pieces. -/
import Derived.Test.YtmiiohemehacjaaGreatDoorVuY
set_option linter.all false
set_option maxHeartbeats 8000000
namespace Go.Vs
variable {P:Program}
variable [I:Envs]
theorem Fn.of_atB {f:FuncId}{fn:Func}{u:Code}{ac:aF}{dr:Nat->Array Oper->Option (List Nat)}{hin:List Blk}{args:List AV}{r:AV}{hout:List (Option Blk)} (V:P.funcs[f]? = some fn) (U:fn.body=some u) (G:fn.name≠"runtime.NumGoroutine") (Y:bM P fn.ntmps dr u=some ac.bare) (hz:zB fn.ntmps dr u=true) (L:args.length<=fn.ntmps)
  (h : ∀(S:Nat->Prop) (w:World) (ρ:Name->Option Nat) (κ:Name->Nat) (a:Act),OK ⟨fn.ntmps,w,S,sO ρ hin,λj=>ρ (.b j),λj=>κ (.b j),λj=>hin[j]?⟩ (⟨ini 0 args,xW 0 hin⟩:St).f a w S ρ κ->
    At P fn.ntmps dr ac (λe J w'=>(e=.ret∨e=.normal)∧J.defers=[]∧∃v S' ρ' κ',(results fn J.tmps).run P w'=.ok v w'∧Post S w ρ κ hin S' w' ρ' κ' hout∧RV S' w' ρ' κ' (Hn hout) r v) a w):Fn P f hin args r hout:=
 ⟨⟨fn,u,V,U,G⟩,λS w ρ κ vs M Z O F=>aEo V U Y hz L M O F λa H=>(h S w ρ κ a H).mono λe J w' ⟨h1,h2,v,S',ρ',κ',h3,h4,h5⟩=>⟨h1,h2,v,h3,v,S',ρ',κ',rfl,h4,h5⟩⟩
theorem RgL.fwN {C:Ctx}{nt:Nat}{Q:Exit->Act->World->Prop}{K:St->Prop}{pre post:List aL}{σ:St}{a:Act}{w:World}{S:Nat->Prop}{ρ:Name->Option Nat}{κ:Name->Nat} (u:C.nt=nt) (F:OK C σ.f a w S ρ κ) (H:vc P K pre σ)
  (G:∀(σ:St) (a:Act) (w:World) (S:Nat->Prop) (ρ:Name->Option Nat) (κ:Name->Nat),K σ->OK C σ.f a w S ρ κ->RgL P nt post Q a w):RgL P nt (pre++post) Q a w:=by
 subst u;exact RgL.fw G pre σ a w S ρ κ H F
end Go.Vs
