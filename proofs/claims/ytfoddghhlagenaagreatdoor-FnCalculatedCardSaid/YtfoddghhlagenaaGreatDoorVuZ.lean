/- A contract of a function that borrows, out of a walk by pieces. -/
import Derived.Test.YtfoddghhlagenaaGreatDoorVuY
set_option linter.all false
set_option maxHeartbeats 8000000
namespace Go.Vs
variable {P:Program}
variable [I:Envs]
theorem Fn.of_atB {f:FuncId}{fn:Func}{body:Code}{ac:aD}{dr:Nat->Array Oper->Option (List Nat)}{hin:List Blk}{args:List AV}{r:AV}{hout:List (Option Blk)} (hf:P.funcs[f]? = some fn) (hb:fn.body=some body) (hname:fn.name≠"runtime.NumGoroutine") (hc:aU P fn.ntmps dr body=some ac.bare) (hz:zB fn.ntmps dr body=true) (hna:args.length<=fn.ntmps)
  (h : ∀(S:Nat->Prop) (w:World) (ρ:Name->Option Nat) (κ:Name->Nat) (a:Act),OK ⟨fn.ntmps,w,S,nD ρ hin,λj=>ρ (.b j),λj=>κ (.b j),λj=>hin[j]?⟩ (⟨ini 0 args,rX 0 hin⟩:St).f a w S ρ κ->
    At P fn.ntmps dr ac (λe a' w'=>(e=.ret∨e=.normal)∧a'.defers=[]∧∃v S' ρ' κ',(results fn a'.tmps).run P w'=.ok v w'∧Post S w ρ κ hin S' w' ρ' κ' hout∧RV S' w' ρ' κ' (Hn hout) r v) a w):Fn P f hin args r hout:=
 ⟨⟨fn,body,hf,hb,hname⟩,λS w ρ κ vs hok hfz hvs hargs=>zK hf hb hc hz hna hok hvs hargs λa hok1=>(h S w ρ κ a hok1).mono λe a' w' ⟨h1,h2,v,S',ρ',κ',h3,h4,h5⟩=>⟨h1,h2,v,h3,v,S',ρ',κ',rfl,h4,h5⟩⟩
theorem RgL.fwN {C:Ctx}{nt:Nat}{Q:Exit->Act->World->Prop}{K:St->Prop}{pre post:List aH}{σ:St}{a:Act}{w:World}{S:Nat->Prop}{ρ:Name->Option Nat}{κ:Name->Nat} (hnt:C.nt=nt) (hok:OK C σ.f a w S ρ κ) (hv:vc P K pre σ)
  (hK:∀(σ:St) (a:Act) (w:World) (S:Nat->Prop) (ρ:Name->Option Nat) (κ:Name->Nat),K σ->OK C σ.f a w S ρ κ->RgL P nt post Q a w):RgL P nt (pre++post) Q a w:=by
 subst hnt
 exact RgL.fw hK pre σ a w S ρ κ hv hok
end Go.Vs
