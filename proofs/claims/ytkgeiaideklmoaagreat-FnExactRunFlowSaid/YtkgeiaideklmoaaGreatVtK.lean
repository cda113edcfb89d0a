/- Loops whose invariant is told by what changes in the state that they start from. -/
import Derived.Test.YtkgeiaideklmoaaGreatVtJ
set_option linter.all false
set_option maxHeartbeats 8000000
namespace Go.Vs
variable [Envs]
variable {P:Program}{C:Ctx}
def aS (d:Nat) (x:AV):List (Nat×AV)->List (Nat×AV)
 | []=>[(d,x)]
 |(i,y)::r=>if d=i then(i,x)::r else(i,y)::aS d x r
def aJ:List (Nat×AV)->List (Nat×AV)->List (Nat×AV)
 | [],s=>s
 |(d,x)::r,s=>aJ r (aS d x s)
def aK:List (Name×Blk)->List (Name×Blk)->List (Name×Blk)
 | [],s=>s
 |(d,x)::r,s=>aK r (hset d x s)
theorem aM.at {F:Nat->Array Oper->Option (List Nat)} (I:fV P F) {X:Type} (M:X->List (Nat×AV)) (H:X->List (Name×Blk)) (μ:X->Nat) (L:X) {c:aD}{N:St->Prop}{E:rD->St->Prop}{σ:St}{U:Tag (N,E)}
  (h0:LeL σ ⟨aJ (M L) σ.s,aK (H L) σ.h⟩)
  (O:∀x,wpc P C F c (fun σ'=>∃J,LeL σ' ⟨aJ (M J) σ.s,aK (H J) σ.h⟩∧μ J<μ x) E ⟨aJ (M x) σ.s,aK (H x) σ.h⟩):aM P C F c N E σ U:=
 aM.intro I (λx=>⟨aJ (M x) σ.s,aK (H x) σ.h⟩) μ L h0 O
def aCL (n:Nat) (p:Nat->Bool):Bool:=(List.range n).all p
theorem aDW (p:Nat->Bool):aCL 0 p=true:=rfl
theorem yY {n:Nat}{p:Nat->Bool} (h:aCL n p=true) (F:p n=true):aCL (n+1) p=true:=by
 simp only[aCL,Dm,List.all_append,BK,DL,Bool.and_true,Av];exact⟨h,F⟩
theorem uY {n i:Nat}{p:Nat->Bool} (hi:i<n) (F:p i=false):aCL n p=false:=by
 cases h:aCL n p with
 |false=>rfl
 | true =>
  have:=Az.1 h i (Cm.2 hi);rw[F] at this;cases this
theorem aI7 {n:Nat}{p:Nat->Bool}:aCL n p=true↔∀i,i<n->p i=true:=by
 simp[aCL]
attribute [go_sem] aS aJ aK List.filter
theorem nx {T:Type}{N:Nat}{I:Nat×T->Prop}{A:{z:Nat×T // z.1<=N∧I z}->Prop}{μ:{z:Nat×T // z.1<=N∧I z}->Nat}{m:Nat} (z:Nat×T) (H:I z) (F:z.1<=N:=by first|omega|simp|exact⟨by omega,by omega⟩) (h2:A ⟨z,F,H⟩:=by simp[Vs.LeL,Vs.look,aA,aS,aJ,Vs.hset,aK]) (J:μ ⟨z,F,H⟩ < m:=by simp only;omega):∃x,A x∧μ x<m:=⟨_,h2,J⟩
theorem Dq {q:Prop} (h:q:=by first|(simpa using hc)|(simp at hc;omega)):q:=h
theorem le0 {σ τ:St} (h:LeL σ τ:=by simp[Vs.LeL,Vs.look,aA,aS,aJ,Vs.hset,aK]):LeL σ τ:=h
end Go.Vs
