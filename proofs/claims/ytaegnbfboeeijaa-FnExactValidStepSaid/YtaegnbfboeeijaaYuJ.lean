/- The law FnExactValidStep returns true for every input. Conditions: those of the theorem. -/
import Derived.Test.YtaegnbfboeeijaaYuI
namespace Go.Proofs.Ytaegnbfboeeijaa
open Go.Vs
set_option linter.unusedSimpArgs false
set_option linter.unusedVariables false
attribute [local irreducible] Vs.Fn chOK areCh chTo chAt l03
theorem law_ValidStep (x : Stp) (w : Int) (hs0 : x.text.size < 2 ^ 63) : Vs.Fn Try.prog F.laws_FnExactValidStep [] [.agg (cS x), .v (.int .i64 w)] (.v (.bool true)) [] := by
  refine Cd.laws_FnExactValidStep_ok.fn0 Try.mixed Cd.laws_FnExactValidStep_nt Cd.laws_FnExactValidStep_rs rfl fun X => ?_
  unfold Cd.laws_FnExactValidStep
  simp -dsimp only [go_sem, reduceIte, reduceCtorEq, Nat.reduceEqDiff, Nat.reduceLT, Nat.reduceLeDiff, Nat.reduceAdd, Nat.reduceMul, Nat.reduceSub, Int.reduceToNat, Int.reduceNeg, cS]
  refine CallK.flat (szStep x _) rfl ?_
  simp -dsimp only [go_sem, reduceIte, reduceCtorEq, Nat.reduceEqDiff, Nat.reduceLT, Nat.reduceLeDiff, Nat.reduceAdd, Nat.reduceMul, Nat.reduceSub, Int.reduceToNat, Int.reduceNeg, cS]
  refine Br.mk (fun h1 => by simp -dsimp only [go_sem, reduceIte, reduceCtorEq, Nat.reduceEqDiff, Nat.reduceLT, Nat.reduceLeDiff, Nat.reduceAdd, Nat.reduceMul, Nat.reduceSub, Int.reduceToNat, Int.reduceNeg, cS]; simp) (fun h1 => ?_)
  simp -dsimp only [go_sem, reduceIte, reduceCtorEq, Nat.reduceEqDiff, Nat.reduceLT, Nat.reduceLeDiff, Nat.reduceAdd, Nat.reduceMul, Nat.reduceSub, Int.reduceToNat, Int.reduceNeg, cS]
  have hs : x.text.size ≤ 1048576 := by
    have h2 : ¬ szT x.text 1048576 < 0 := of_decide_eq_false h1
    have := (szT_le hs0 (n := 1048576) (by omega) (by omega) (by omega)).2
    omega
  repeat' (first
    | (refine RgK.mk rfl ?_; simp -dsimp only [go_sem, reduceIte, reduceCtorEq, Nat.reduceEqDiff, Nat.reduceLT, Nat.reduceLeDiff, Nat.reduceAdd, Nat.reduceMul, Nat.reduceSub, Int.reduceToNat, Int.reduceNeg, cS])
    | (refine Br.mk (fun h => ?_) (fun h => ?_) <;> simp -dsimp only [go_sem, reduceIte, reduceCtorEq, Nat.reduceEqDiff, Nat.reduceLT, Nat.reduceLeDiff, Nat.reduceAdd, Nat.reduceMul, Nat.reduceSub, Int.reduceToNat, Int.reduceNeg, h, cS])
    | (refine CallK.flat (by first | exact toStep x | exact spec_ValidStep x _ hs | exact impl_ValidStep x _ hs) rfl ?_; simp -dsimp only [go_sem, reduceIte, reduceCtorEq, Nat.reduceEqDiff, Nat.reduceLT, Nat.reduceLeDiff, Nat.reduceAdd, Nat.reduceMul, Nat.reduceSub, Int.reduceToNat, Int.reduceNeg, cS])
    | (refine CallK.pure (by first | exact toStep x | exact spec_ValidStep x _ hs | exact impl_ValidStep x _ hs) ?_; simp -dsimp only [go_sem, reduceIte, reduceCtorEq, Nat.reduceEqDiff, Nat.reduceLT, Nat.reduceLeDiff, Nat.reduceAdd, Nat.reduceMul, Nat.reduceSub, Int.reduceToNat, Int.reduceNeg, cS])
    | (refine And.intro (by first | rfl | decide | omega | exact ⟨rfl, rfl⟩) ?_))
  all_goals simp_all

end Go.Proofs.Ytaegnbfboeeijaa
