/- Loops whose invariant is told by what changes in the state that they start from. -/
import Derived.Test.YtfoddghhlagenaaGreatDoorVtJ
set_option linter.all false
set_option maxHeartbeats 8000000
namespace Go.Vs
variable [Envs]
variable {P:Program}{C:Ctx}
def bL (d:Nat) (x:AV):List (Nat×AV)->List (Nat×AV)
 | []=>[(d,x)]
 |(i,y)::r=>if d=i then(i,x)::r else(i,y)::bL d x r
def aO:List (Nat×AV)->List (Nat×AV)->List (Nat×AV)
 | [],s=>s
 |(d,x)::r,s=>aO r (bL d x s)
def aP:List (Name×Blk)->List (Name×Blk)->List (Name×Blk)
 | [],s=>s
 |(d,x)::r,s=>aP r (hset d x s)
theorem bA.at {drawn:Nat->Array Oper->Option (List Nat)} (hdr:iO P drawn) {X:Type} (M:X->List (Nat×AV)) (H:X->List (Name×Blk)) (μ:X->Nat) (x0:X) {c:aD}{N:St->Prop}{E:gP->St->Prop}{σ:St}{tg:Tag (N,E)}
  (h0:LeL σ ⟨aO (M x0) σ.s,aP (H x0) σ.h⟩)
  (hr:∀x,wpc P C drawn c (fun σ'=>∃x',LeL σ' ⟨aO (M x') σ.s,aP (H x') σ.h⟩∧μ x'<μ x) E ⟨aO (M x) σ.s,aP (H x) σ.h⟩):bA P C drawn c N E σ tg:=
 bA.intro hdr (λx=>⟨aO (M x) σ.s,aP (H x) σ.h⟩) μ x0 h0 hr
attribute [go_sem] bL aO aP List.filter
theorem nx {T:Type}{N:Nat}{I:Nat×T->Prop}{A:{z:Nat×T // z.1<=N∧I z}->Prop}{μ:{z:Nat×T // z.1<=N∧I z}->Nat}{m:Nat} (z:Nat×T) (hI:I z) (h1:z.1<=N:=by first|omega|simp|exact⟨by omega,by omega⟩) (h2:A ⟨z,h1,hI⟩:=by simp[Vs.LeL,Vs.look,Vs.aA,Vs.bL,Vs.aO,Vs.hset,Vs.aP]) (h3:μ ⟨z,h1,hI⟩ < m:=by simp only;omega):∃x,A x∧μ x<m:=⟨_,h2,h3⟩
theorem Dq {q:Prop} (h:q:=by first|(simpa using hc)|(simp at hc;omega)):q:=h
theorem le0 {σ τ:St} (h:LeL σ τ:=by simp[Vs.LeL,Vs.look,Vs.aA,Vs.bL,Vs.aO,Vs.hset,Vs.aP]):LeL σ τ:=h
end Go.Vs
