/- Sums; the sum of a number's digits. -/
import Derived.Test.YtklmdppgonhflaaGreatDoorVtO
set_option linter.all false
set_option maxHeartbeats 8000000
namespace Go.Vs
variable [Envs]
def aAQ:List Int->Int
 | []=>0
 |x::r=>x+aAQ r
theorem aCd:∀{l:List Int},(∀x,x∈l->0<=x)->0<=aAQ l
 | [],_=>by simp[aAQ]
 | x::r,h=>by
  have:=aCd (l:=r) λy F=>h y (by simp[F]);have:=h x (by simp);simp only[aAQ];omega
theorem aJi {l:List Int}{i:Nat} (h:i<l.length):aAQ (l.drop i)=l[i]+aAQ (l.drop (i+1)):=by
 rw[Ci h,aAQ]
theorem aG4 {l:List Int} (h:∀x,x∈l->0<=x) (i:Nat):0<=aAQ (l.drop i):=
 aCd λx F=>h x (CZ F)
def dsN (n:Nat):Nat:=if h:n=0 then 0 else n%10+dsN (n/10)
termination_by n
decreasing_by omega
theorem wN:dsN 0=0:=by rw[dsN,dif_pos rfl]
theorem aCY {n:Nat} (h:n≠0):dsN n=n%10+dsN (n/10):=by rw[dsN,dif_neg h]
theorem aIP (n:Nat):dsN n=n%10+dsN (n/10):=by
 by_cases h:n=0
 .subst h;simp[wN]
 .exact aCY h
theorem aHM (n:Nat):dsN n<=n:=by
 induction n using Nat.strongRecOn with
 | _ n ih =>
  by_cases h:n=0
  .subst h;rw[wN];omega
  .rw[aCY h];have:=ih (n/10) (by omega);omega
end Go.Vs
