/- The steps of a flow: the reference. -/
import Derived.Test.YtmgnfpmdlgcnjaaGreatZuR
set_option linter.unusedSimpArgs false
set_option linter.unusedVariables false
set_option linter.unusedSectionVars false
set_option maxHeartbeats 8000000
namespace Go.Proofs.YtmgnfpmdlgcnjaaGreat
open Go.Vs
section
variable [Vs.Envs]
attribute [local irreducible] Vs.Fn chOK areCh chTo chAt l03
theorem szGo_mem {α : Type} {f : α → Int → Int} : ∀ {l : List α} {n : Int}, (∀ x, x ∈ l → ∀ n, 0 ≤ n → n ≤ 1048576 → 0 ≤ f x n → f x n ≤ n) → 0 ≤ n → n ≤ 1048576 → 0 ≤ szGo f l n → ∀ x, x ∈ l → ∃ m, 0 ≤ m ∧ m ≤ 1048576 ∧ 0 ≤ f x m
 | [], n, _, _, _, _, x, hx => by cases hx
 | y :: r, n, hf, h0, hn, h, x, hx => by
  simp only [szGo] at h
  split at h
  ·omega
  ·rename_i h1
   rcases List.mem_cons.1 hx with rfl | hx
   ·exact ⟨n, h0, hn, by omega⟩
   ·have h2 := hf y (by simp) n h0 hn (by omega)
    exact szGo_mem (fun z hz => hf z (by simp [hz])) (by omega) (by omega) h x hx
theorem szSpec (x : Spc) (n : Int) : Fz F.l_szSpec [.agg (cP x), .v (.int .i64 n)] (.v (.int .i64 (szT x.text n))) := by
 refine fn0 Cd.l_szSpec_k fun X => ?_
 repeat' first
  |simp -dsimp only [go_sem, cP]
  |refine Br.mk ?_ ?_<;>intro h<;>try simp -dsimp only[h]
  |refine and_c ?_
  |fail
 all_goals (simp_all [szT] <;> omega)
theorem toSpec (x : Spc) : Fz F.l_toSpec [.agg (cP x)] (.agg (cP x)) := by
 refine fn0 Cd.l_toSpec_k fun X => ?_
 repeat' first
  |simp -dsimp only [go_sem, cP]
  |refine Br.mk ?_ ?_<;>intro h<;>try simp -dsimp only[h]
  |refine CallK.c (by first|exact toField _ _) ?_
  |refine and_c ?_
  |fail
 all_goals (exact ⟨_, _, rfl, rfl⟩)
end
section
variable [Vs.Envs]
attribute [local irreducible] Vs.Fn chOK areCh chTo chAt l03
end
section
variable [Vs.Envs]
attribute [local irreducible] Vs.Fn chOK areCh chTo chAt l03
end
end Go.Proofs.YtmgnfpmdlgcnjaaGreat
