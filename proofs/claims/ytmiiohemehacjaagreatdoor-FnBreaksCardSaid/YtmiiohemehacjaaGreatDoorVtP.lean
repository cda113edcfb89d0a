/- Sums; the sum of a number's digits. -/
import Derived.Test.YtmiiohemehacjaaGreatDoorVtO
set_option linter.all false
set_option maxHeartbeats 8000000
namespace Go.Vs
variable [Envs]
def aAA:List Int->Int
 | []=>0
 |x::r=>x+aAA r
theorem aBR:∀{l:List Int},(∀x,x∈l->0<=x)->0<=aAA l
 | [],_=>by simp[aAA]
 | x::r,h=>by
  have:=aBR (l:=r) λy u=>h y (by simp[u]);have:=h x (by simp);simp only[aAA];omega
theorem aIh {l:List Int}{i:Nat} (h:i<l.length):aAA (l.drop i)=l[i]+aAA (l.drop (i+1)):=by
 rw[Bn h,aAA]
theorem aGn {l:List Int} (h:∀x,x∈l->0<=x) (i:Nat):0<=aAA (l.drop i):=
 aBR λx u=>h x (CU u)
def dsN (n:Nat):Nat:=if h:n=0 then 0 else n%10+dsN (n/10)
termination_by n
decreasing_by omega
theorem vJ:dsN 0=0:=by rw[dsN,dif_pos rfl]
theorem aCB {n:Nat} (h:n≠0):dsN n=n%10+dsN (n/10):=by rw[dsN,dif_neg h]
theorem aHT (n:Nat):dsN n=n%10+dsN (n/10):=by
 by_cases h:n=0
 .subst h;simp[vJ]
 .exact aCB h
theorem aDp (n:Nat):dsN n<=n:=by
 induction n using Nat.strongRecOn with
 | _ n ih =>
  by_cases h:n=0
  .subst h;rw[vJ];omega
  .rw[aCB h];have:=ih (n/10) (by omega);omega
end Go.Vs
