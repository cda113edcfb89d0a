/- Loops whose invariant is told by what changes in the state that they start from. -/
import Derived.Test.YtmiiohemehacjaaGreatDoorVtJ
set_option linter.all false
set_option maxHeartbeats 8000000
namespace Go.Vs
variable [Envs]
variable {P:Program}{C:Ctx}
def aR (d:Nat) (x:AV):List (Nat×AV)->List (Nat×AV)
 | []=>[(d,x)]
 |(i,y)::r=>if d=i then(i,x)::r else(i,y)::aR d x r
def aK:List (Nat×AV)->List (Nat×AV)->List (Nat×AV)
 | [],s=>s
 |(d,x)::r,s=>aK r (aR d x s)
def aL:List (Name×Blk)->List (Name×Blk)->List (Name×Blk)
 | [],s=>s
 |(d,x)::r,s=>aL r (hset d x s)
theorem aN.at {F:Nat->Array Oper->Option (List Nat)} (I:iF P F) {X:Type} (M:X->List (Nat×AV)) (H:X->List (Name×Blk)) (μ:X->Nat) (L:X) {c:aF}{N:St->Prop}{E:uC->St->Prop}{σ:St}{Y:Tag (N,E)}
  (O:LeL σ ⟨aK (M L) σ.s,aL (H L) σ.h⟩)
  (U:∀x,wpc P C F c (fun σ'=>∃J,LeL σ' ⟨aK (M J) σ.s,aL (H J) σ.h⟩∧μ J<μ x) E ⟨aK (M x) σ.s,aL (H x) σ.h⟩):aN P C F c N E σ Y:=
 aN.intro I (λx=>⟨aK (M x) σ.s,aL (H x) σ.h⟩) μ L O U
def aCw (n:Nat) (p:Nat->Bool):Bool:=(List.range n).all p
theorem aDM (p:Nat->Bool):aCw 0 p=true:=rfl
theorem yM {n:Nat}{p:Nat->Bool} (h:aCw n p=true) (F:p n=true):aCw (n+1) p=true:=by
 simp only[aCw,List.range_succ,List.all_append,List.all_cons,List.all_nil,Bool.and_true,Bool.and_eq_true];exact⟨h,F⟩
theorem uW {n i:Nat}{p:Nat->Bool} (hi:i<n) (F:p i=false):aCw n p=false:=by
 cases h:aCw n p with
 |false=>rfl
 | true =>
  have:=List.all_eq_true.1 h i (List.mem_range.2 hi);rw[F] at this;cases this
theorem aIO {n:Nat}{p:Nat->Bool}:aCw n p=true↔∀i,i<n->p i=true:=by
 simp[aCw]
attribute [go_sem] aR aK aL List.filter
theorem nx {T:Type}{N:Nat}{I:Nat×T->Prop}{A:{z:Nat×T // z.1<=N∧I z}->Prop}{μ:{z:Nat×T // z.1<=N∧I z}->Nat}{m:Nat} (z:Nat×T) (H:I z) (F:z.1<=N:=by first|omega|simp|exact⟨by omega,by omega⟩) (h2:A ⟨z,F,H⟩:=by simp[Vs.LeL,Vs.look,Vs.aB,Vs.aR,Vs.aK,Vs.hset,Vs.aL]) (J:μ ⟨z,F,H⟩ < m:=by simp only;omega):∃x,A x∧μ x<m:=⟨_,h2,J⟩
theorem Dq {q:Prop} (h:q:=by first|(simpa using hc)|(simp at hc;omega)):q:=h
theorem le0 {σ τ:St} (h:LeL σ τ:=by simp[Vs.LeL,Vs.look,Vs.aB,Vs.aR,Vs.aK,Vs.hset,Vs.aL]):LeL σ τ:=h
end Go.Vs
