/- The steps of a flow: the reference. -/
import Derived.Test.YtaegnbfboeeijaaYuH
namespace Go.Proofs.Ytaegnbfboeeijaa
open Go.Vs
set_option linter.unusedSimpArgs false
set_option linter.unusedVariables false
attribute [local irreducible] Vs.Fn chOK areCh chTo chAt l03
set_option maxHeartbeats 2000000 in
theorem l15Step (x : Stp) (w : Int) (hs : x.text.size ≤ 1048576) : Vs.Fn Try.prog F.spec_l15Step [] [.ro (cS x), .v (.int .i64 w)] (.v (.bool (stpB x w))) [] := by
  refine Cd.spec_l15Step_ok.fn0 Try.mixed Cd.spec_l15Step_nt Cd.spec_l15Step_rs rfl fun X => ?_
  unfold Cd.spec_l15Step
  simp -dsimp only [go_sem, reduceIte, reduceCtorEq, Nat.reduceEqDiff, Nat.reduceLT, Nat.reduceLeDiff, Nat.reduceAdd, Nat.reduceMul, Nat.reduceSub, Int.reduceToNat, Int.reduceNeg, cS]
  repeat' (first
    | (refine RgK.mk rfl ?_; simp -dsimp only [go_sem, reduceIte, reduceCtorEq, Nat.reduceEqDiff, Nat.reduceLT, Nat.reduceLeDiff, Nat.reduceAdd, Nat.reduceMul, Nat.reduceSub, Int.reduceToNat, Int.reduceNeg, cS])
    | (refine Br.mk (fun h => ?_) (fun h => ?_) <;> simp -dsimp only [go_sem, reduceIte, reduceCtorEq, Nat.reduceEqDiff, Nat.reduceLT, Nat.reduceLeDiff, Nat.reduceAdd, Nat.reduceMul, Nat.reduceSub, Int.reduceToNat, Int.reduceNeg, h, cS])
    | (refine CallK.flat (by first | exact l00In _ _ _ | exact l15Tray _ | exact l15Both _ | exact l02Field _ _ _ | exact l09Text _ _ _ hs) rfl ?_; simp -dsimp only [go_sem, reduceIte, reduceCtorEq, Nat.reduceEqDiff, Nat.reduceLT, Nat.reduceLeDiff, Nat.reduceAdd, Nat.reduceMul, Nat.reduceSub, Int.reduceToNat, Int.reduceNeg, cS])
    | (refine CallK.pure (by first | exact l00In _ _ _ | exact l15Tray _ | exact l15Both _ | exact l02Field _ _ _ | exact l09Text _ _ _ hs) ?_; simp -dsimp only [go_sem, reduceIte, reduceCtorEq, Nat.reduceEqDiff, Nat.reduceLT, Nat.reduceLeDiff, Nat.reduceAdd, Nat.reduceMul, Nat.reduceSub, Int.reduceToNat, Int.reduceNeg, cS])
    | (refine And.intro (by first | rfl | decide | omega | exact ⟨rfl, rfl⟩) ?_))
  all_goals (first | (simp_all [stpB, numB, noText, l09_eq]; done) | (refine ret_eq ?_; grind [stpB, numB, noText, l09_eq]))

theorem spec_ValidStep (x : Stp) (w : Int) (hs : x.text.size ≤ 1048576) : Vs.Fn Try.prog F.spec_ValidStep [] [.agg (cS x), .v (.int .i64 w)] (.v (.bool (inB w 1 20 && stpB x w))) [] := by
  refine Cd.spec_ValidStep_ok.fn0 Try.mixed Cd.spec_ValidStep_nt Cd.spec_ValidStep_rs rfl fun X => ?_
  unfold Cd.spec_ValidStep
  simp -dsimp only [go_sem, reduceIte, reduceCtorEq, Nat.reduceEqDiff, Nat.reduceLT, Nat.reduceLeDiff, Nat.reduceAdd, Nat.reduceMul, Nat.reduceSub, Int.reduceToNat, Int.reduceNeg, cS]
  repeat' (first
    | (refine RgK.mk rfl ?_; simp -dsimp only [go_sem, reduceIte, reduceCtorEq, Nat.reduceEqDiff, Nat.reduceLT, Nat.reduceLeDiff, Nat.reduceAdd, Nat.reduceMul, Nat.reduceSub, Int.reduceToNat, Int.reduceNeg, cS])
    | (refine Br.mk (fun h => ?_) (fun h => ?_) <;> simp -dsimp only [go_sem, reduceIte, reduceCtorEq, Nat.reduceEqDiff, Nat.reduceLT, Nat.reduceLeDiff, Nat.reduceAdd, Nat.reduceMul, Nat.reduceSub, Int.reduceToNat, Int.reduceNeg, h, cS])
    | (refine CallK.flat (by first | exact l00In _ _ _ | exact l15Step x _ hs) rfl ?_; simp -dsimp only [go_sem, reduceIte, reduceCtorEq, Nat.reduceEqDiff, Nat.reduceLT, Nat.reduceLeDiff, Nat.reduceAdd, Nat.reduceMul, Nat.reduceSub, Int.reduceToNat, Int.reduceNeg, cS])
    | (refine CallK.pure (by first | exact l00In _ _ _ | exact l15Step x _ hs) ?_; simp -dsimp only [go_sem, reduceIte, reduceCtorEq, Nat.reduceEqDiff, Nat.reduceLT, Nat.reduceLeDiff, Nat.reduceAdd, Nat.reduceMul, Nat.reduceSub, Int.reduceToNat, Int.reduceNeg, cS])
    | (refine And.intro (by first | rfl | decide | omega | exact ⟨rfl, rfl⟩) ?_))
  all_goals (simp_all)

end Go.Proofs.Ytaegnbfboeeijaa
