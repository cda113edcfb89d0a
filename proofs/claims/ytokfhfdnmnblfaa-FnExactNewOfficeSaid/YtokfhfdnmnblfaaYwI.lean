/- The number in columns, as the program reads it and as the reference does. -/
import Derived.Test.YtokfhfdnmnblfaaYuD
import Derived.Test.YtokfhfdnmnblfaaVtK
import Derived.Test.YtokfhfdnmnblfaaVtR
import Derived.Lib.ItoaNum
namespace Go.Proofs.Ytokfhfdnmnblfaa
open Go.Vs
set_option linter.unusedSectionVars false
variable [Vs.Envs]
set_option linter.unusedSimpArgs false
set_option linter.unusedVariables false
attribute [local irreducible] Vs.Fn
structure Flt where
  kind : Int
  card : Int
  place : Int
  digit : Int
  deriving Inhabited
end Go.Proofs.Ytokfhfdnmnblfaa

namespace Go.Proofs.Ytokfhfdnmnblfaa
open Go.Vs
set_option linter.unusedSectionVars false
variable [Vs.Envs]
set_option linter.unusedSimpArgs false
set_option linter.unusedVariables false
attribute [local irreducible] Vs.Fn
end Go.Proofs.Ytokfhfdnmnblfaa

namespace Go.Proofs.Ytokfhfdnmnblfaa
open Go.Vs
set_option linter.unusedSectionVars false
variable [Vs.Envs]
set_option linter.unusedSimpArgs false
set_option linter.unusedVariables false
attribute [local irreducible] Vs.Fn
end Go.Proofs.Ytokfhfdnmnblfaa

namespace Go.Proofs.Ytokfhfdnmnblfaa
open Go.Vs
set_option linter.unusedSectionVars false
variable [Vs.Envs]
set_option linter.unusedSimpArgs false
set_option linter.unusedVariables false
attribute [local irreducible] Vs.Fn
theorem copyIntsO (l : List Int) (hl : l.length ≤ 1048576) : Vs.Fn Try.prog F.impl_copyInts [] [.sl 1 (E cI l)] (.loc (.b 0) 0 l.length) [some (.arr 1 (E cI l) false)] := by
  refine Cd.impl_copyInts_ok.fn Try.mixed (hin := []) 6 _ [.t 5 0] [.arr 1 (E cI l) false] Cd.impl_copyInts_nt Cd.impl_copyInts_rs rfl (by simp) rfl (by simp) fun X => ?_
  unfold Cd.impl_copyInts
  simp -dsimp only [go_sem, reduceIte, reduceCtorEq, Nat.reduceEqDiff, Nat.reduceLT, Nat.reduceLeDiff, Nat.reduceAdd, Nat.reduceMul, Nat.reduceSub, Int.reduceToNat, Int.reduceNeg, List.replicate_succ, List.replicate_zero, List.flatten_cons, List.flatten_nil]

  exact ⟨by omega, ⟨by omega, by omega⟩, ⟨_, _, rfl, rfl⟩⟩
theorem E_slc {α : Type} {c : α → List AV} (l : List α) (a b : Nat) : E c ((l.take a).drop b) = ((E c l).take a).drop b := by simp [E, List.map_take, List.map_drop]
theorem part (c : List Int) (fr to : Int) (h0 : 0 ≤ fr) (h1 : fr ≤ to) (h2 : to ≤ c.length) : Vs.Fn Try.prog F.spec_l02Part [] [.ro (cC c), .agg [.v (.int .i64 fr), .v (.int .i64 to)]] (.sl 1 (E cI ((c.take to.toNat).drop fr.toNat))) [] := by
  refine Cd.spec_l02Part_ok.fn0 Try.mixed Cd.spec_l02Part_nt Cd.spec_l02Part_rs rfl fun X => ?_
  unfold Cd.spec_l02Part
  simp -dsimp only [go_sem, reduceIte, reduceCtorEq, Nat.reduceEqDiff, Nat.reduceLT, Nat.reduceLeDiff, Nat.reduceAdd, Nat.reduceMul, Nat.reduceSub, Int.reduceToNat, Int.reduceNeg, cC]
  repeat' (first
    | (refine RgK.mk rfl ?_; simp -dsimp only [go_sem, reduceIte, reduceCtorEq, Nat.reduceEqDiff, Nat.reduceLT, Nat.reduceLeDiff, Nat.reduceAdd, Nat.reduceMul, Nat.reduceSub, Int.reduceToNat, Int.reduceNeg, cC])
    | (refine Br.mk (fun h => ?_) (fun h => ?_) <;> simp -dsimp only [go_sem, reduceIte, reduceCtorEq, Nat.reduceEqDiff, Nat.reduceLT, Nat.reduceLeDiff, Nat.reduceAdd, Nat.reduceMul, Nat.reduceSub, Int.reduceToNat, Int.reduceNeg, h, cC])
    | (refine And.intro (by first | rfl | omega | decide | (refine ⟨?_, ?_⟩ <;> (first | rfl | omega | decide)) | (refine ⟨?_, ?_, ?_⟩ <;> (first | rfl | omega | decide)) | (refine ⟨?_, ?_, ?_, ?_⟩ <;> (first | rfl | omega | decide))) ?_)
    | fail)
  all_goals exact ret_eq (by rw [E_slc])
end Go.Proofs.Ytokfhfdnmnblfaa
