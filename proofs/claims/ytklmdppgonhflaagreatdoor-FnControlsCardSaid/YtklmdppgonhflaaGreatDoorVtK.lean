/- Loops whose invariant is told by what changes in the state that they start from. -/
import Derived.Test.YtklmdppgonhflaaGreatDoorVtJ
set_option linter.all false
set_option maxHeartbeats 8000000
namespace Go.Vs
variable [Envs]
variable {P:Program}{C:Ctx}
def aQ (d:Nat) (x:AV):List (Nat×AV)->List (Nat×AV)
 | []=>[(d,x)]
 |(i,y)::r=>if d=i then(i,x)::r else(i,y)::aQ d x r
def aK:List (Nat×AV)->List (Nat×AV)->List (Nat×AV)
 | [],s=>s
 |(d,x)::r,s=>aK r (aQ d x s)
def aL:List (Name×Blk)->List (Name×Blk)->List (Name×Blk)
 | [],s=>s
 |(d,x)::r,s=>aL r (hset d x s)
theorem aP.at {F:Nat->Array Oper->Option (List Nat)} (G:lX P F) {X:Type} (M:X->List (Nat×AV)) (H:X->List (Name×Blk)) (μ:X->Nat) (J:X) {c:aD}{N:St->Prop}{E:kW->St->Prop}{σ:St}{V:Tag (N,E)}
  (O:LeL σ ⟨aK (M J) σ.s,aL (H J) σ.h⟩)
  (U:∀x,wpc P C F c (fun σ'=>∃I,LeL σ' ⟨aK (M I) σ.s,aL (H I) σ.h⟩∧μ I<μ x) E ⟨aK (M x) σ.s,aL (H x) σ.h⟩):aP P C F c N E σ V:=
 aP.intro G (λx=>⟨aK (M x) σ.s,aL (H x) σ.h⟩) μ J O U
def aDj (n:Nat) (p:Nat->Bool):Bool:=(List.range n).all p
theorem aEr (p:Nat->Bool):aDj 0 p=true:=rfl
theorem aAc {n:Nat}{p:Nat->Bool} (h:aDj n p=true) (F:p n=true):aDj (n+1) p=true:=by
 simp only[aDj,Dj,List.all_append,BJ,DL,Bool.and_true,Aw];exact⟨h,F⟩
theorem vL {n i:Nat}{p:Nat->Bool} (hi:i<n) (F:p i=false):aDj n p=false:=by
 cases h:aDj n p with
 |false=>rfl
 | true =>
  have:=Az.1 h i (Co.2 hi);rw[F] at this;cases this
theorem aEs {n:Nat}{p:Nat->Bool}:aDj n p=true↔∀i,i<n->p i=true:=by
 simp[aDj]
attribute [go_sem] aQ aK aL List.filter
theorem nx {T:Type}{N:Nat}{I:Nat×T->Prop}{A:{z:Nat×T // z.1<=N∧I z}->Prop}{μ:{z:Nat×T // z.1<=N∧I z}->Nat}{m:Nat} (z:Nat×T) (G:I z) (F:z.1<=N:=by first|omega|simp|exact⟨by omega,by omega⟩) (h2:A ⟨z,F,G⟩:=by simp[Vs.LeL,Vs.look,aB,aQ,aK,Vs.hset,aL]) (H:μ ⟨z,F,G⟩ < m:=by simp only;omega):∃x,A x∧μ x<m:=⟨_,h2,H⟩
theorem Dq {q:Prop} (h:q:=by first|(simpa using hc)|(simp at hc;omega)):q:=h
theorem le0 {σ τ:St} (h:LeL σ τ:=by simp[Vs.LeL,Vs.look,aB,aQ,aK,Vs.hset,aL]):LeL σ τ:=h
end Go.Vs
