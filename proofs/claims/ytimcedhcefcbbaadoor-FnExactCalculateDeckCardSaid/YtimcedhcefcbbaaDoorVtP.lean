/- Sums; the sum of a number's digits. -/
import Derived.Test.YtimcedhcefcbbaaDoorVtO
set_option linter.all false
set_option maxHeartbeats 8000000
namespace Go.Vs
variable [Envs]
def sumL : List Int → Int
 | [] => 0
 | x :: r => x + sumL r
theorem sumL_nonneg : ∀ {l : List Int}, (∀ x, x ∈ l → 0 ≤ x) → 0 ≤ sumL l
 | [], _ => by simp [sumL]
 | x :: r, h => by
  have := sumL_nonneg (l := r) fun y hy => h y (by simp [hy])
  have := h x (by simp)
  simp only [sumL]; omega
theorem sumL_drop {l : List Int} {i : Nat} (h : i < l.length) : sumL (l.drop i) = l[i] + sumL (l.drop (i + 1)) := by
 rw [List.drop_eq_getElem_cons h, sumL]
theorem sumL_dropN {l : List Int} (h : ∀ x, x ∈ l → 0 ≤ x) (i : Nat) : 0 ≤ sumL (l.drop i) :=
 sumL_nonneg fun x hx => h x (List.mem_of_mem_drop hx)
def dsN (n : Nat) : Nat := if h : n = 0 then 0 else n % 10 + dsN (n / 10)
termination_by n
decreasing_by omega
theorem dsN_zero : dsN 0 = 0 := by rw [dsN, dif_pos rfl]
theorem dsN_pos {n : Nat} (h : n ≠ 0) : dsN n = n % 10 + dsN (n / 10) := by rw [dsN, dif_neg h]
theorem dsN_any (n : Nat) : dsN n = n % 10 + dsN (n / 10) := by
 by_cases h : n = 0
 ·subst h; simp [dsN_zero]
 ·exact dsN_pos h
theorem dsN_le (n : Nat) : dsN n ≤ n := by
 induction n using Nat.strongRecOn with
 | _ n ih =>
  by_cases h : n = 0
  ·subst h; rw [dsN_zero]; omega
  ·rw [dsN_pos h]
   have := ih (n / 10) (by omega)
   omega
end Go.Vs
