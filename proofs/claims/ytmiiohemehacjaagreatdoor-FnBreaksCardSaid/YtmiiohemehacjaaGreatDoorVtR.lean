/- Copies that are handed over, to be written; rows that are marked one by one. -/
import Derived.Test.YtmiiohemehacjaaGreatDoorVtP
import Derived.LaidMore
import Derived.Lib.LaidTab
import Derived.MakeChecks
import Derived.Stop.LaidErr
import Derived.Test.YtmiiohemehacjaaGreatDoorVtO
set_option linter.all false
set_option maxHeartbeats 8000000
namespace Go.Vs
section
variable [Envs]
open Go.ChangeShapes Go.WideShapes Go.ChangeAt Go.RowKit
theorem law_returns_and {C:Checked}{os:Os}{s:ChangeSpec}{f:FuncId}{fn:Func}{U:List PathCond}{H:Type}{enc:TypeId×Value->H}{tb:TypeId}{A:Type}{e:A->List AV}{X:World->Array Value->Prop}
  (hX:∀(w w':World) (args:Array Value),w.heap=w'.heap->X w args->X w' args) (V:∀W args,X W args->Env (λb=>b<W.heap.size) W)
  (own:ownKnob C.prog.godebug=none) (G:os.Started) (J:C.prog.inits.idxOf? f=none) (hc:C.prog.funcs[f]? = some fn)
  (I:∃(w:World) (u:Tape) (i:Input),w.os=os∧(w.forCall u i).Shaped C.prog∧i.vars=[]∧Input.okWide C.prog (w.forCall u i) .any w.heap.size f i∧
    ((s.pre enc C.prog fn U false (w.forCall u i).memory i.args∧X (w.forCall u i).memory i.args)∧sizedMet enc C.prog fn (OpenSpec.ofChange s) false (w.forCall u i).memory i.args)∧Assume.holds {} C.prog (lone (Frame.enter C.prog f i.args .normal) [] (w.forCall u i)))
  (hl:laidOutB C.prog=true) (he:(fn.params.toList.all λt=>C.prog.readableRec t&&decide (t<C.prog.types.size))=true) (hd:fn.resultTypes=#[tb]) (hf:C.prog.underlying tb=some .bool)
  (F:s.vars=[]) (hs:∀L:List (DataW H),L.length=fn.params.toList.length->(s.fn H (L++[])).results=[.lit (.bool true)]∧(s.fn H (L++[])).args=L∧(s.fn H (L++[])).vars=[])
  (M:Args C.prog fn.params.toList e) (Y:∀a,Fn C.prog f [] (e a) (.v (.bool true)) []) :
  ReturnsInHanded {} C os f .any (λw args=>(s.pre enc C.prog fn U false w args∧X w args)∧sizedMet enc C.prog fn (OpenSpec.ofChange s) false w args) (s.post enc C.prog fn false true false false):=by
 refine returnsInHanded_of_change_and hX own G J hc I ?_;intro W O args L gs ha Z hW _ _ hx _;have hb:=hW;obtain⟨p,q,hA,hV,rfl,hg,hk⟩:=hW;rw[F] at hV;obtain⟨rfl,rfl⟩:=trodVars_none hV;obtain⟨a,h1,h2⟩:=M H enc W O args.toList L p (λj t v ht hv=>Z j t v (by simpa using ht) (by simpa using hv)) hA;refine aJ1 hl he hd hf hb F (hs L (aBQ hA)) (V W args hx) (Y a) (by simpa using h1.symm) λj hj=>?_;have:=h2 j (by rw[h1] at hj;exact hj)
 rwa [getD_toList] at this
end
section
variable [Envs]
variable {P:Program}{α:Type}{c:α->List AV}
theorem aA.own {f:FuncId}{ys:List AV}{d:Option Nat}{σ:St}{K:St->Prop}{t:Tag K}{r:AV}{hout:List (Option Blk)} (u:Fn P f [] ys r hout) (F:iR (d.getD 0) 0 hout.length σ=true)
  (G:K ⟨put d (rn (phi [] (d.getD 0) hout.length) r) σ.s,xB σ.h [] (d.getD 0) hout true []⟩):aA P f [] ys [] d σ [] K t:=
 ⟨r,hout,true,u,λh=>(by cases h),F,G⟩
theorem aA.lend {f:FuncId}{ys:List AV}{L:List Name}{d:Option Nat}{σ:St}{K:St->Prop}{t:Tag K}{r:AV}{hout:List (Option Blk)} (u:Fn P f [] ys r hout) (H:Vs.flat r=true) (I:∀b,some b∈hout->Vs.aAg b) (F:iR (d.getD 0) 0 hout.length σ=true)
  (G:K ⟨put d (rn (phi [] (d.getD 0) hout.length) r) σ.s,xB σ.h [] (d.getD 0) hout false L⟩):aA P f [] ys L d σ [] K t:=
 ⟨r,hout,false,u,λ_=>.inr ⟨H,I⟩,F,G⟩
theorem aA.bor {f:FuncId}{b:Blk}{ys:List AV}{d:Option Nat}{σ:St}{n:Name}{K:St->Prop}{t:Tag K}{r:AV}{hout:List (Option Blk)} (u:Fn P f [b] ys r hout) (F:iR (d.getD 0) 1 hout.length σ=true)
  (G:K ⟨put d (rn (phi [n] (d.getD 0) hout.length) r) σ.s,xB σ.h [n] (d.getD 0) hout true []⟩):aA P f [b] ys [] d σ [n] K t:=
 ⟨r,hout,true,u,λh=>(by cases h),F,G⟩
theorem aHP {k:Nat}{l:List α}{z:Bool} (h:∀x,nV (c x)=true):aAg (.arr k (E c l) z):=by
 intro r u;obtain⟨x,_,rfl⟩:=BG.1 u;exact h x
end
end Go.Vs
