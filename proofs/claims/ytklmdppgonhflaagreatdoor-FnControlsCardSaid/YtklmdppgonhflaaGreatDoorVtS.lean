/- A function may leave a block that it was handed dead: a row that it has appended to, or that it keeps for itself. -/
import Derived.Test.YtklmdppgonhflaaGreatDoorVtR
set_option linter.all false
set_option maxHeartbeats 8000000
namespace Go.Vs
variable [Envs]
variable {P:Program}{C:Ctx}{a:Act}{w:World}{S:Nat->Prop}{ρ:Name->Option Nat}{κ:Name->Nat}{h:Name->Option Blk}
theorem l7.fnD {f:FuncId}{fn:Func}{ac:aD} (h:l7 P f fn ac) (Z:P.follows .mixedOrders=true) {hin:List Blk}{args:List AV}{r:AV} (nt:Nat) (rs:List ResultVar) (B:List Name) (hout:List (Option Blk)) (H:fn.ntmps=nt) (I:fn.results.toList=rs)
  (F:Nat.ble args.length nt=true) (G:nodupB B=true) (U:∀j,j<hin.length->B[j]? = some (.b j))
  (hw:∀C:Ctx,wpc P C (dF P) ac (aFY P rs B r hout) (λe σ=>match e with|.ret=>aFY P rs B r hout σ|.exit _=>False) ⟨ini 0 args,xZ 0 hin⟩) :
  Fn P f hin args r hout:=by
 subst H;subst I;obtain⟨M,h2,O⟩:=h;obtain⟨J,V,Y⟩:=A7.1 h2;exact Fn.introD (rE Z) B M V (by simpa using O) Y (Bd F) (qV G) U λC _=>hw C
attribute [go_sem] aFY zQ
end Go.Vs
