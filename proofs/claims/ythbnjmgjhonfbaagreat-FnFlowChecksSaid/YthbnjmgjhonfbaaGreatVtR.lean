/- Copies that are handed over, to be written; rows that are marked one by one. -/
import Derived.Test.YthbnjmgjhonfbaaGreatVtN
import Derived.Sort.Grow
import Derived.Deep.Draws
import Derived.LaidMore
import Derived.Lib.LaidTab
import Derived.MakeChecks
import Derived.Stop.LaidErr
set_option linter.all false
set_option maxHeartbeats 8000000
namespace Go.Vs
section
variable [Envs]
variable {P:Program}
end
section
variable [Envs]
end
section
variable [Envs]
open Go.ChangeShapes Go.WideShapes Go.ChangeAt Go.RowKit
end
section
variable [Envs]
variable {P:Program}{α:Type}{c:α→List AV}
theorem aA.own {f:FuncId}{ys:List AV}{d:Option Nat}{σ:St}{K:St→Prop}{t:Tag K}{r:AV}{hout:List (Option Blk)} (hfn:Fn P f [] ys r hout) (hfr:jL (d.getD 0) 0 hout.length σ=true)
  (hK:K ⟨put d (rn (phi [] (d.getD 0) hout.length) r) σ.s,xR σ.h [] (d.getD 0) hout true []⟩):aA P f [] ys [] d σ [] K t:=
 ⟨r,hout,true,hfn,fun h=>(by cases h),hfr,hK⟩
theorem aA.lend {f:FuncId}{ys:List AV}{L:List Name}{d:Option Nat}{σ:St}{K:St→Prop}{t:Tag K}{r:AV}{hout:List (Option Blk)} (hfn:Fn P f [] ys r hout) (hL:Vs.flat r=true) (hb:∀b,some b∈hout→Vs.aAB b) (hfr:jL (d.getD 0) 0 hout.length σ=true)
  (hK:K ⟨put d (rn (phi [] (d.getD 0) hout.length) r) σ.s,xR σ.h [] (d.getD 0) hout false L⟩):aA P f [] ys L d σ [] K t:=
 ⟨r,hout,false,hfn,fun _=>.inr ⟨hL,hb⟩,hfr,hK⟩
theorem aA.bor {f:FuncId}{b:Blk}{ys:List AV}{d:Option Nat}{σ:St}{n:Name}{K:St→Prop}{t:Tag K}{r:AV}{hout:List (Option Blk)} (hfn:Fn P f [b] ys r hout) (hfr:jL (d.getD 0) 1 hout.length σ=true)
  (hK:K ⟨put d (rn (phi [n] (d.getD 0) hout.length) r) σ.s,xR σ.h [n] (d.getD 0) hout true []⟩):aA P f [b] ys [] d σ [n] K t:=
 ⟨r,hout,true,hfn,fun h=>(by cases h),hfr,hK⟩
theorem aGU {k:Nat}{l:List α}{z:Bool} (h:∀x,vU (c x)=true):aAB (.arr k (E c l) z):=by
 intro r hr;obtain⟨x,_,rfl⟩:=List.mem_map.1 hr;exact h x
end
end Go.Vs
