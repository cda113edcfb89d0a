/- Copies that are handed over, to be written; rows that are marked one by one. -/
import Derived.Test.YtklmdppgonhflaaGreatDoorVtP
import Derived.LaidMore
import Derived.Lib.LaidTab
import Derived.MakeChecks
import Derived.Stop.LaidErr
import Derived.Test.YtklmdppgonhflaaGreatDoorVtO
set_option linter.all false
set_option maxHeartbeats 8000000
namespace Go.Vs
section
variable [Envs]
open Go.ChangeShapes Go.WideShapes Go.ChangeAt Go.RowKit
end
section
variable [Envs]
variable {P:Program}{α:Type}{c:α->List AV}
theorem aA.own {f:FuncId}{ys:List AV}{d:Option Nat}{σ:St}{K:St->Prop}{t:Tag K}{r:AV}{hout:List (Option Blk)} (F:Fn P f [] ys r hout) (G:jB (d.getD 0) 0 hout.length σ=true)
  (H:K ⟨put d (rn (phi [] (d.getD 0) hout.length) r) σ.s,yA σ.h [] (d.getD 0) hout true []⟩):aA P f [] ys [] d σ [] K t:=
 ⟨r,hout,true,F,λh=>(by cases h),G,H⟩
theorem aA.lend {f:FuncId}{ys:List AV}{L:List Name}{d:Option Nat}{σ:St}{K:St->Prop}{t:Tag K}{r:AV}{hout:List (Option Blk)} (F:Fn P f [] ys r hout) (I:Vs.flat r=true) (J:∀b,some b∈hout->Vs.aAx b) (G:jB (d.getD 0) 0 hout.length σ=true)
  (H:K ⟨put d (rn (phi [] (d.getD 0) hout.length) r) σ.s,yA σ.h [] (d.getD 0) hout false L⟩):aA P f [] ys L d σ [] K t:=
 ⟨r,hout,false,F,λ_=>.inr ⟨I,J⟩,G,H⟩
theorem aA.bor {f:FuncId}{b:Blk}{ys:List AV}{d:Option Nat}{σ:St}{n:Name}{K:St->Prop}{t:Tag K}{r:AV}{hout:List (Option Blk)} (F:Fn P f [b] ys r hout) (G:jB (d.getD 0) 1 hout.length σ=true)
  (H:K ⟨put d (rn (phi [n] (d.getD 0) hout.length) r) σ.s,yA σ.h [n] (d.getD 0) hout true []⟩):aA P f [b] ys [] d σ [n] K t:=
 ⟨r,hout,true,F,λh=>(by cases h),G,H⟩
theorem aIL {k:Nat}{l:List α}{z:Bool} (h:∀x,rD (c x)=true):aAx (.arr k (E c l) z):=by
 intro r F;obtain⟨x,_,rfl⟩:=Bq.1 F;exact h x
end
end Go.Vs
