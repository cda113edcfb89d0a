/- What a size that is not exceeded says of a list and of what is in it. -/
import Derived.Test.YtokfhfdnmnblfaaVtK
namespace Go.Vs
set_option linter.unusedSectionVars false
variable [Envs]
variable {P : Program} {α : Type} {d : α → AV}
set_option linter.unusedSimpArgs false
attribute [local irreducible] Fn
end Go.Vs

namespace Go.Vs
set_option linter.unusedSectionVars false
variable [Envs]
variable {P : Program}
set_option linter.unusedSimpArgs false
attribute [local irreducible] Fn
end Go.Vs

namespace Go.Vs
set_option linter.unusedSectionVars false
variable [Envs]
theorem szGo_mem {α : Type} {f : α → Int → Int} : ∀ {l : List α} {n : Int}, (∀ x, x ∈ l → ∀ n, 0 ≤ n → n ≤ 1048576 → 0 ≤ f x n → f x n ≤ n) → 0 ≤ n → n ≤ 1048576 → 0 ≤ szGo f l n → ∀ x, x ∈ l → ∃ m, 0 ≤ m ∧ m ≤ 1048576 ∧ 0 ≤ f x m
  | [], n, _, _, _, _, x, hx => by cases hx
  | y :: r, n, hf, h0, hn, h, x, hx => by
    simp only [szGo] at h
    split at h
    · omega
    · rename_i h1
      rcases List.mem_cons.1 hx with rfl | hx
      · exact ⟨n, h0, hn, by omega⟩
      · have h2 := hf y (by simp) n h0 hn (by omega)
        exact szGo_mem (fun z hz => hf z (by simp [hz])) (by omega) (by omega) h x hx
theorem szL_in {α : Type} {f : α → Int → Int} {l : List α} {n : Int} (hf : ∀ x, x ∈ l → ∀ n, 0 ≤ n → n ≤ 1048576 → 0 ≤ f x n → f x n ≤ n) (hl : l.length < 2 ^ 63) (h0 : 0 ≤ n) (hn : n ≤ 1048576) (h : 0 ≤ szL f l n) : ∀ x, x ∈ l → ∃ m, 0 ≤ m ∧ m ≤ 1048576 ∧ 0 ≤ f x m := by
  unfold szL at h
  split at h
  · omega
  · rename_i h1
    rw [wrap_in (by omega) (by omega)] at h h1
    exact szGo_mem (n := n - l.length) hf (by omega) (by omega) (by omega)
theorem szL_mono {α : Type} {f : α → Int → Int} {l : List α} {n : Int} (hf : ∀ x, x ∈ l → ∀ n, 0 ≤ n → n ≤ 1048576 → 0 ≤ f x n → f x n ≤ n) (hl : l.length < 2 ^ 63) (h0 : 0 ≤ n) (hn : n ≤ 1048576) (h : 0 ≤ szL f l n) : szL f l n ≤ n ∧ (l.length : Int) ≤ n := by
  refine ⟨?_, szL_len (f := f) hl ⟨h0, hn⟩ (by omega)⟩
  have h2 := h
  unfold szL at h ⊢
  split
  · rename_i h1; rw [if_pos h1] at h; omega
  · rename_i h1
    rw [if_neg h1] at h
    rw [wrap_in (by omega) (by omega)] at h h1 ⊢
    have := szGo_le hf (by omega) (by omega) h
    omega
end Go.Vs
