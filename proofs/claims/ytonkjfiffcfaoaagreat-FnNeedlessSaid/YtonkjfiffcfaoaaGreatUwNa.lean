/- The decks within a bound, one by one; those of a sample are decks. -/
import Derived.Test.YtonkjfiffcfaoaaGreatUuU
import Derived.Test.YtonkjfiffcfaoaaGreatUuT
import Derived.Test.YtonkjfiffcfaoaaGreatUwD
import Derived.Test.YtonkjfiffcfaoaaGreatUuM
set_option linter.all false
set_option maxHeartbeats 8000000
namespace Go.Proofs.YtonkjfiffcfaoaaGreat
open Go.Vs
variable [Vs.Envs]
attribute [local irreducible] Vs.Fn cZ aW dA dB l03 chB rk cd3 chI stp aY
def atD (l:List (List Int)):Nat→Nat→List (List Int)
 |0,_=>[]
 |i+1,q=>atD l i (q/l.length)++[l.getD (q%l.length) []]
theorem aC6 (l:List (List Int)) (hl:0<l.length):∀(p:List (List (List Int))) (q:Nat),q<p.length*l.length→(fZ l p)[q]? = some (p.getD (q/l.length) []++[l.getD (q%l.length) []])
 | [],q,h=>by simp at h
 | d::r,q,h=>by
  have e:fZ l (d::r)=(l.map fun c=>d++[c])++fZ l r:=by simp[fZ]
  rw[e];by_cases hq:q<l.length
  ·rw[List.getElem?_append_left (by simpa using hq),Nat.div_eq_of_lt hq,Nat.mod_eq_of_lt hq];simp[hq]
  ·have hq2:l.length≤q:=by omega
   have h2:q-l.length<r.length*l.length:=by
    have:(r.length+1)*l.length=r.length*l.length+l.length:=by rw[Nat.add_mul,Nat.one_mul]
    rw[List.length_cons,this] at h;omega
   rw[List.getElem?_append_right (by simpa using hq2),List.length_map,aC6 l hl r _ h2,Nat.div_eq_sub_div hl hq2,Nat.mod_eq_sub_mod hq2];simp
theorem aGG (l:List (List Int)) (hl:0<l.length):∀(i q:Nat),q<l.length ^ i→(eO l i)[q]? = some (atD l i q)
 | 0,q,h=>by
  have:q=0:=by simpa using h
  subst this;simp[eO,atD]
 | i+1,q,h=>by
  rw[Nat.pow_succ] at h;have h1:q<(eO l i).length*l.length:=by rw[sF];exact h
  have h2:q/l.length<l.length ^ i:=(Nat.div_lt_iff_lt_mul hl).2 h;rw[eO,aC6 l hl _ _ h1,List.getD_eq_getElem?_getD,aGG l hl i _ h2,atD];rfl
theorem aAB (m:Nat):∀(n i:Nat),i≤n→geo m i≤geo m n
 | 0,i,h=>by
  have:i=0:=by omega
  subst this;exact Nat.le_refl _
 | n+1,i,h=>by
  by_cases e:i=n+1
  ·subst e;exact Nat.le_refl _
  ·have:=aAB m n i (by omega);simp only[geo];omega
theorem aBQ (l:List (List Int)) (hl:0<l.length):∀(n i q:Nat),i≤n→q<l.length ^ i→(gK l n)[gJ l.length i+q]? = some (atD l i q)
 | 0,i,q,h,hq=>by
  have:i=0:=by omega
  subst this;have:q=0:=by simpa using hq
  subst this;simp[gK,atD,gJ]
 | n+1,i,q,h,hq=>by
  rw[gK];by_cases e:i=n+1
  ·subst e;rw[List.getElem?_append_right (by rw[iC];simp only[gJ];omega),iC];simp only[gJ,Nat.add_sub_cancel_left];exact aGG l hl _ q hq
  ·have h1:gJ l.length i+q<geo l.length n:=by
    have h2:=yF l.length i;have h3:gJ l.length (i+1)=geo l.length i:=rfl;have h4:=aAB l.length n i (by omega);omega
   rw[List.getElem?_append_left (by rw[iC];exact h1)];exact aBQ l hl n i q (by omega) hq
theorem yE (m:Nat):∀(n k:Nat),k<geo m n→∃i q,i≤n∧q<m ^ i∧k=gJ m i+q
 |0,k,h=>⟨0,k,Nat.le_refl _,by simpa[geo] using h,by simp[gJ]⟩
 | n+1,k,h=>by
  by_cases e:k<geo m n
  ·obtain⟨i,q,h1,h2,h3⟩:=yE m n k e;exact⟨i,q,by omega,h2,h3⟩
  ·refine⟨n+1,k-geo m n,Nat.le_refl _,?_,?_⟩
   ·simp only[geo] at h;omega
   ·simp only[gJ];omega
theorem aA0 (m:Nat) {i j:Nat} (h:i≤j):gJ m i≤gJ m j:=by
 match i,j,h with
 |0,_,_=>exact Nat.zero_le _
 |i+1,j+1,h=>exact aAB m j i (by omega)
theorem yM (l:List (List Int)) (hl:0<l.length):∀(i q:Nat),(atD l i q).length=i∧∀c,c∈atD l i q→c∈l
 |0,q=>by simp[atD]
 | i+1,q=>by
  obtain⟨h1,h2⟩:=yM l hl i (q/l.length);refine⟨by simp[atD,h1],fun c hc=>?_⟩;rcases List.mem_append.1 hc with h|h
  ·exact h2 c h
  ·rw[List.mem_singleton.1 h,List.getD_eq_getElem?_getD,List.getElem?_eq_getElem (Nat.mod_lt _ hl)];exact List.getElem_mem _
theorem aCF {l:List (List Int)} (hd:aX l=true) (hk:bE l) (hl:0<l.length) (i q:Nat) (hi:i≤3):aX (atD l i q)=true∧bE (atD l i q):=by
 obtain⟨h1,h2⟩:=yM l hl i q;exact⟨(aHR hd h2 (by omega)).1,by omega,fun c hc=>hk.2 c (h2 c hc)⟩
theorem dig (q c m:Nat):q%c ^ (m+1)/c ^ m=q/c ^ m%c:=by rw[Nat.pow_succ,Nat.mod_mul_right_div_self]
theorem dig2 (q c m:Nat):q%c ^ (m+1)%c ^ m=q%c ^ m:=Nat.mod_mod_of_dvd _ ⟨c,Nat.pow_succ ..⟩
theorem dig3 (q c m:Nat):q/c ^ m/c=q/c ^ (m+1):=by rw[Nat.div_div_eq_div_mul,Nat.pow_succ]
theorem dig4 {c:Nat} (m:Nat) (hc:0<c):c ^ (m+1)/c=c ^ m:=by rw[Nat.pow_succ,Nat.mul_div_cancel _ hc]
end Go.Proofs.YtonkjfiffcfaoaaGreat
