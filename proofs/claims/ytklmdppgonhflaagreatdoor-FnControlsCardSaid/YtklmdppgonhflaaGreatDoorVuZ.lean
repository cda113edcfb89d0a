/- A contract of a function that borrows, out of a walk by pieces. -/
import Derived.Test.YtklmdppgonhflaaGreatDoorVuY
set_option linter.all false
set_option maxHeartbeats 8000000
namespace Go.Vs
variable {P:Program}
variable [I:Envs]
theorem Fn.of_atB {f:FuncId}{fn:Func}{F:Code}{ac:aD}{dr:Nat->Array Oper->Option (List Nat)}{hin:List Blk}{args:List AV}{r:AV}{hout:List (Option Blk)} (Z:P.funcs[f]? = some fn) (Y:fn.body=some F) (H:fn.name≠"runtime.NumGoroutine") (hc:bN P fn.ntmps dr F=some ac.bare) (hz:zB fn.ntmps dr F=true) (O:args.length<=fn.ntmps)
  (h : ∀(S:Nat->Prop) (w:World) (ρ:Name->Option Nat) (κ:Name->Nat) (a:Act),OK ⟨fn.ntmps,w,S,uQ ρ hin,λj=>ρ (.b j),λj=>κ (.b j),λj=>hin[j]?⟩ (⟨ini 0 args,xZ 0 hin⟩:St).f a w S ρ κ->
    At P fn.ntmps dr ac (λe M w'=>(e=.ret∨e=.normal)∧M.defers=[]∧∃v S' ρ' κ',(results fn M.tmps).run P w'=.ok v w'∧Post S w ρ κ hin S' w' ρ' κ' hout∧RV S' w' ρ' κ' (Hn hout) r v) a w):Fn P f hin args r hout:=
 ⟨⟨fn,F,Z,Y,H⟩,λS w ρ κ vs U ha V G=>aEP Z Y hc hz O U V G λa J=>(h S w ρ κ a J).mono λe M w' ⟨h1,h2,v,S',ρ',κ',h3,h4,h5⟩=>⟨h1,h2,v,h3,v,S',ρ',κ',rfl,h4,h5⟩⟩
theorem RgL.fwN {C:Ctx}{nt:Nat}{Q:Exit->Act->World->Prop}{K:St->Prop}{pre post:List aM}{σ:St}{a:Act}{w:World}{S:Nat->Prop}{ρ:Name->Option Nat}{κ:Name->Nat} (F:C.nt=nt) (G:OK C σ.f a w S ρ κ) (J:vc P K pre σ)
  (H:∀(σ:St) (a:Act) (w:World) (S:Nat->Prop) (ρ:Name->Option Nat) (κ:Name->Nat),K σ->OK C σ.f a w S ρ κ->RgL P nt post Q a w):RgL P nt (pre++post) Q a w:=by
 subst F;exact RgL.fw H pre σ a w S ρ κ J G
end Go.Vs
