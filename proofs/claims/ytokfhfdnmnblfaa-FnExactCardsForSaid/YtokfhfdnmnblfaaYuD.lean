/-
  The laws FnExactSameTotals and FnExactSameFlow return true for every input, and their arguments read behind the call as they read before. Conditions: none beyond the given statements.
-/
import Derived.Test.YtokfhfdnmnblfaaYuB
import Derived.Test.YtokfhfdnmnblfaaVtH
namespace Go.Proofs.Ytokfhfdnmnblfaa
open Go.Vs
set_option linter.unusedSectionVars false
variable [Vs.Envs]
set_option linter.unusedSimpArgs false
set_option linter.unusedVariables false
attribute [local irreducible] Vs.Fn
abbrev Tot := ByteArray × Int
theorem toField (a b : Int) : Vs.Fn Try.prog F.laws_toField [] [.agg [.v (.int .i64 a), .v (.int .i64 b)]] (.agg [.v (.int .i64 a), .v (.int .i64 b)]) [] := by
  refine Cd.laws_toField_ok.fn0 Try.mixed Cd.laws_toField_nt Cd.laws_toField_rs rfl fun X => ?_
  unfold Cd.laws_toField
  simp -dsimp only [go_sem, reduceIte, reduceCtorEq, Nat.reduceEqDiff, Nat.reduceLT, Nat.reduceLeDiff, Nat.reduceAdd, Nat.reduceMul, Nat.reduceSub, Int.reduceToNat, Int.reduceNeg]
  repeat' (first
    | (refine RgK.mk rfl ?_; simp -dsimp only [go_sem, reduceIte, reduceCtorEq, Nat.reduceEqDiff, Nat.reduceLT, Nat.reduceLeDiff, Nat.reduceAdd, Nat.reduceMul, Nat.reduceSub, Int.reduceToNat, Int.reduceNeg])
    | (refine Br.mk (fun h => ?_) (fun h => ?_) <;> simp -dsimp only [go_sem, reduceIte, reduceCtorEq, Nat.reduceEqDiff, Nat.reduceLT, Nat.reduceLeDiff, Nat.reduceAdd, Nat.reduceMul, Nat.reduceSub, Int.reduceToNat, Int.reduceNeg, h])
    | (refine And.intro (by first | rfl | omega | decide | (refine ⟨?_, ?_⟩ <;> (first | rfl | omega | decide)) | (refine ⟨?_, ?_, ?_⟩ <;> (first | rfl | omega | decide)) | (refine ⟨?_, ?_, ?_, ?_⟩ <;> (first | rfl | omega | decide))) ?_)
    | fail)
  all_goals (exact ⟨_, _, rfl, rfl⟩)

structure Stp where
  kind : Int
  a : Int
  b : Int
  to : Int
  f0 : Int
  f1 : Int
  s0 : Int
  s1 : Int
  text : ByteArray
end Go.Proofs.Ytokfhfdnmnblfaa
