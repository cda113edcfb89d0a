/- Sums; the sum of a number's digits. -/
import Derived.Test.YtmiiohemehacjaaGreatDoorVtO
set_option linter.all false
set_option maxHeartbeats 8000000
namespace Go.Vs
variable [Envs]
def aAg:List Int->Int
 | []=>0
 |x::r=>x+aAg r
theorem aBy:∀{l:List Int},(∀x,x∈l->0<=x)->0<=aAg l
 | [],_=>by simp[aAg]
 | x::r,h=>by
  have:=aBy (l:=r) λy F=>h y (by simp[F]);have:=h x (by simp);simp only[aAg];omega
theorem aIG {l:List Int}{i:Nat} (h:i<l.length):aAg (l.drop i)=l[i]+aAg (l.drop (i+1)):=by
 rw[List.drop_eq_getElem_cons h,aAg]
theorem aGF {l:List Int} (h:∀x,x∈l->0<=x) (i:Nat):0<=aAg (l.drop i):=
 aBy λx F=>h x (List.mem_of_mem_drop F)
def dsN (n:Nat):Nat:=if h:n=0 then 0 else n%10+dsN (n/10)
termination_by n
decreasing_by omega
theorem yA:dsN 0=0:=by rw[dsN,dif_pos rfl]
theorem aCe {n:Nat} (h:n≠0):dsN n=n%10+dsN (n/10):=by rw[dsN,dif_neg h]
theorem aMk (n:Nat):dsN n=n%10+dsN (n/10):=by
 by_cases h:n=0
 .subst h;simp[yA]
 .exact aCe h
theorem aHg (n:Nat):dsN n<=n:=by
 induction n using Nat.strongRecOn with
 | _ n ih =>
  by_cases h:n=0
  .subst h;rw[yA];omega
  .rw[aCe h];have:=ih (n/10) (by omega);omega
end Go.Vs
