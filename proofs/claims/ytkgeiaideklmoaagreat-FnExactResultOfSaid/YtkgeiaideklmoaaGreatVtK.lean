/- Loops whose invariant is told by what changes in the state that they start from. -/
import Derived.Test.YtkgeiaideklmoaaGreatVtJ
set_option linter.all false
set_option maxHeartbeats 8000000
namespace Go.Vs
variable [Envs]
variable {P:Program}{C:Ctx}
def aQ (d:Nat) (x:AV):List (Nat×AV)→List (Nat×AV)
 | []=>[(d,x)]
 |(i,y)::r=>if d=i then(i,x)::r else(i,y)::aQ d x r
def aL:List (Nat×AV)→List (Nat×AV)→List (Nat×AV)
 | [],s=>s
 |(d,x)::r,s=>aL r (aQ d x s)
def aM:List (Name×Blk)→List (Name×Blk)→List (Name×Blk)
 | [],s=>s
 |(d,x)::r,s=>aM r (hset d x s)
theorem aN.at {F:Nat→Array Oper→Option (List Nat)} (G:iU P F) {X:Type} (M:X→List (Nat×AV)) (H:X→List (Name×Blk)) (μ:X→Nat) (J:X) {c:aF}{N:St→Prop}{E:sG→St→Prop}{σ:St}{U:Tag (N,E)}
  (L:LeL σ ⟨aL (M J) σ.s,aM (H J) σ.h⟩)
  (O:∀x,wpc P C F c (fun σ'=>∃I,LeL σ' ⟨aL (M I) σ.s,aM (H I) σ.h⟩∧μ I<μ x) E ⟨aL (M x) σ.s,aM (H x) σ.h⟩):aN P C F c N E σ U:=
 aN.intro G (fun x=>⟨aL (M x) σ.s,aM (H x) σ.h⟩) μ J L O
attribute [go_sem] aQ aL aM List.filter
theorem nx {T:Type}{N:Nat}{I:Nat×T→Prop}{A:{z:Nat×T // z.1≤N∧I z}→Prop}{μ:{z:Nat×T // z.1≤N∧I z}→Nat}{m:Nat} (z:Nat×T) (G:I z) (F:z.1≤N:=by first|omega|simp|exact⟨by omega,by omega⟩) (h2:A ⟨z,F,G⟩:=by simp[Vs.LeL,Vs.look,Vs.aB,Vs.aQ,Vs.aL,Vs.hset,Vs.aM]) (H:μ ⟨z,F,G⟩ < m:=by simp only;omega):∃x,A x∧μ x<m:=⟨_,h2,H⟩
theorem Dq {q:Prop} (h:q:=by first|(simpa using hc)|(simp at hc;omega)):q:=h
theorem le0 {σ τ:St} (h:LeL σ τ:=by simp[Vs.LeL,Vs.look,Vs.aB,Vs.aQ,Vs.aL,Vs.hset,Vs.aM]):LeL σ τ:=h
end Go.Vs
