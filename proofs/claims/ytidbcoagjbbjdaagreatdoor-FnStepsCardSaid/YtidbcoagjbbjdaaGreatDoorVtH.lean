/- Comparisons of lists. -/
import Derived.Test.YtidbcoagjbbjdaaGreatDoorVtF
set_option linter.all false
set_option maxHeartbeats 8000000
namespace Go.Vs
section
variable [Envs]
variable {P : Program} {α : Type} {c : α → List AV}
attribute [local irreducible] Fn
end
section
variable [Envs]
variable {P : Program} {α : Type} {c : α → List AV}
attribute [local irreducible] Fn
def eqLB (q : α → α → Bool) : List α → List α → Bool
 | [], [] => true
 | x :: r, y :: s => q x y && eqLB q r s
 | _, _ => false
theorem eqLB_len {q : α → α → Bool} : ∀ {l m : List α}, l.length ≠ m.length → eqLB q l m = false
 | [], [], h => absurd rfl h
 | [], _ :: _, _ => rfl
 | _ :: _, [], _ => rfl
 | x :: r, y :: s, h => by
  rw [eqLB, eqLB_len (by simpa using h), Bool.and_false]
theorem eqLB_step {q : α → α → Bool} {l m : List α} {i : Nat} (h : i < l.length) (h' : i < m.length) : eqLB q (l.drop i) (m.drop i) = (q l[i] m[i] && eqLB q (l.drop (i + 1)) (m.drop (i + 1))) := by
 rw [List.drop_eq_getElem_cons h, List.drop_eq_getElem_cons h', eqLB]
theorem eqLB_self {q : α → α → Bool} : ∀ {l : List α}, (∀ x, x ∈ l → q x x = true) → eqLB q l l = true
 | [], _ => rfl
 | x :: r, h => by rw [eqLB, h x (by simp), eqLB_self fun y hy => h y (by simp [hy])]; rfl
end
end Go.Vs
