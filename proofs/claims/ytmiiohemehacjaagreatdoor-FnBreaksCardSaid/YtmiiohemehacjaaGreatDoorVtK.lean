/- Loops whose invariant is told by what changes in the state that they start from. -/
import Derived.Test.YtmiiohemehacjaaGreatDoorVtJ
set_option linter.all false
set_option maxHeartbeats 8000000
namespace Go.Vs
variable [Envs]
variable {P:Program}{C:Ctx}
def aP (d:Nat) (x:AV):List (Nat×AV)->List (Nat×AV)
 | []=>[(d,x)]
 |(i,y)::r=>if d=i then(i,x)::r else(i,y)::aP d x r
def aJ:List (Nat×AV)->List (Nat×AV)->List (Nat×AV)
 | [],s=>s
 |(d,x)::r,s=>aJ r (aP d x s)
def aK:List (Name×Blk)->List (Name×Blk)->List (Name×Blk)
 | [],s=>s
 |(d,x)::r,s=>aK r (hset d x s)
theorem aO.at {u:Nat->Array Oper->Option (List Nat)} (F:lL P u) {X:Type} (M:X->List (Nat×AV)) (H:X->List (Name×Blk)) (μ:X->Nat) (I:X) {c:aF}{N:St->Prop}{E:kT->St->Prop}{σ:St}{O:Tag (N,E)}
  (J:LeL σ ⟨aJ (M I) σ.s,aK (H I) σ.h⟩)
  (L:∀x,wpc P C u c (fun σ'=>∃G,LeL σ' ⟨aJ (M G) σ.s,aK (H G) σ.h⟩∧μ G<μ x) E ⟨aJ (M x) σ.s,aK (H x) σ.h⟩):aO P C u c N E σ O:=
 aO.intro F (λx=>⟨aJ (M x) σ.s,aK (H x) σ.h⟩) μ I J L
def aCR (n:Nat) (p:Nat->Bool):Bool:=(List.range n).all p
theorem aDZ (p:Nat->Bool):aCR 0 p=true:=rfl
theorem yU {n:Nat}{p:Nat->Bool} (h:aCR n p=true) (u:p n=true):aCR (n+1) p=true:=by
 simp only[aCR,Dt,List.all_append,BO,Dw,Bool.and_true,Au];exact⟨h,u⟩
theorem uR {n i:Nat}{p:Nat->Bool} (hi:i<n) (u:p i=false):aCR n p=false:=by
 cases h:aCR n p with
 |false=>rfl
 | true =>
  have:=Aw.1 h i (BI.2 hi);rw[u] at this;cases this
theorem aIt {n:Nat}{p:Nat->Bool}:aCR n p=true↔∀i,i<n->p i=true:=by
 simp[aCR]
attribute [go_sem] aP aJ aK List.filter
theorem nx {T:Type}{N:Nat}{I:Nat×T->Prop}{A:{z:Nat×T // z.1<=N∧I z}->Prop}{μ:{z:Nat×T // z.1<=N∧I z}->Nat}{m:Nat} (z:Nat×T) (F:I z) (u:z.1<=N:=by first|omega|simp|exact⟨by omega,by omega⟩) (h2:A ⟨z,u,F⟩:=by simp[Vs.LeL,Vs.look,aB,aP,aJ,Vs.hset,aK]) (G:μ ⟨z,u,F⟩ < m:=by simp only;omega):∃x,A x∧μ x<m:=⟨_,h2,G⟩
theorem Dq {q:Prop} (h:q:=by first|(simpa using hc)|(simp at hc;omega)):q:=h
theorem le0 {σ τ:St} (h:LeL σ τ:=by simp[Vs.LeL,Vs.look,aB,aP,aJ,Vs.hset,aK]):LeL σ τ:=h
end Go.Vs
