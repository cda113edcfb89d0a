/- Comparisons of lists. -/
import Derived.Test.YtfoddghhlagenaaGreatDoorVtF
set_option linter.all false
set_option maxHeartbeats 8000000
namespace Go.Vs
section
variable [Envs]
variable {P:Program}{α:Type}{c:α->List AV}
attribute [local irreducible] Fn
end
section
variable [Envs]
variable {P:Program}{α:Type}{c:α->List AV}
attribute [local irreducible] Fn
def rJ (q:α->α->Bool):List α->List α->Bool
 | [],[]=>true
 |x::r,y::s=>q x y&&rJ q r s
 |_,_=>false
theorem xQ {q:α->α->Bool}:∀{l m:List α},l.length≠m.length->rJ q l m=false
 | [],[],h=>absurd rfl h
 | [],_::_,_=>rfl
 |_::_,[],_=>rfl
 | x::r,y::s,h=>by
  rw[rJ,xQ (by simpa using h),Bool.and_false]
theorem zG {q:α->α->Bool}{l m:List α}{i:Nat} (h:i<l.length) (h':i<m.length):rJ q (l.drop i) (m.drop i)=(q l[i] m[i]&&rJ q (l.drop (i+1)) (m.drop (i+1))):=by
 grind [List.drop_eq_getElem_cons,rJ]
theorem uX {q:α->α->Bool}:∀{l:List α},(∀x,x∈l->q x x=true)->rJ q l l=true
 | [],_=>rfl
 |x::r,h=>by rw[rJ,h x (by simp),uX λy hy=>h y (by simp[hy])];rfl
end
end Go.Vs
