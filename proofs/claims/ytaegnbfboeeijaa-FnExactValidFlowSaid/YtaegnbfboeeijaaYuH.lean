/- The steps of a flow: the program. -/
import Derived.Test.YtaegnbfboeeijaaYuG
namespace Go.Proofs.Ytaegnbfboeeijaa
open Go.Vs
set_option linter.unusedSimpArgs false
set_option linter.unusedVariables false
attribute [local irreducible] Vs.Fn chOK areCh chTo chAt l03

def stpB (x : Stp) (w : Int) : Bool :=
  inB x.kind 1 7 && (inB x.a 0 5 && (inB x.b 0 5 && (inB x.to 0 5 && (fldB x.f0 x.f1 w && ((x.b == 0 || inB x.kind 2 4) &&
    (if x.kind == 7 then x.to == 0 && (numB x.s0 x.s1 w && noText x.text) else (x.s0 == 0 && x.s1 == 0) && (if x.kind == 5 then areCh x.text && ((x.text.size : Int) == W (x.f1 - x.f0)) else noText x.text)))))))
set_option maxHeartbeats 2000000 in
theorem impl_ValidStep (x : Stp) (w : Int) (hs : x.text.size ≤ 1048576) : Vs.Fn Try.prog F.impl_ValidStep [] [.agg (cS x), .v (.int .i64 w)] (.v (.bool (inB w 1 20 && stpB x w))) [] := by
  refine Cd.impl_ValidStep_ok.fn0 Try.mixed Cd.impl_ValidStep_nt Cd.impl_ValidStep_rs rfl fun X => ?_
  unfold Cd.impl_ValidStep
  simp -dsimp only [go_sem, reduceIte, reduceCtorEq, Nat.reduceEqDiff, Nat.reduceLT, Nat.reduceLeDiff, Nat.reduceAdd, Nat.reduceMul, Nat.reduceSub, Int.reduceToNat, Int.reduceNeg, cS]
  repeat' (first
    | (refine RgK.mk rfl ?_; simp -dsimp only [go_sem, reduceIte, reduceCtorEq, Nat.reduceEqDiff, Nat.reduceLT, Nat.reduceLeDiff, Nat.reduceAdd, Nat.reduceMul, Nat.reduceSub, Int.reduceToNat, Int.reduceNeg, cS])
    | (refine Br.mk (fun h => ?_) (fun h => ?_) <;> simp -dsimp only [go_sem, reduceIte, reduceCtorEq, Nat.reduceEqDiff, Nat.reduceLT, Nat.reduceLeDiff, Nat.reduceAdd, Nat.reduceMul, Nat.reduceSub, Int.reduceToNat, Int.reduceNeg, h, cS])
    | (refine CallK.flat (by first | exact inside _ _ _ | exact isTray _ | exact takesTwo _ | exact isField _ _ _ | exact isNumberField _ _ _ | exact areCharacters _ hs) rfl ?_; simp -dsimp only [go_sem, reduceIte, reduceCtorEq, Nat.reduceEqDiff, Nat.reduceLT, Nat.reduceLeDiff, Nat.reduceAdd, Nat.reduceMul, Nat.reduceSub, Int.reduceToNat, Int.reduceNeg, cS])
    | (refine CallK.pure (by first | exact inside _ _ _ | exact isTray _ | exact takesTwo _ | exact isField _ _ _ | exact isNumberField _ _ _ | exact areCharacters _ hs) ?_; simp -dsimp only [go_sem, reduceIte, reduceCtorEq, Nat.reduceEqDiff, Nat.reduceLT, Nat.reduceLeDiff, Nat.reduceAdd, Nat.reduceMul, Nat.reduceSub, Int.reduceToNat, Int.reduceNeg, cS])
    | (refine And.intro (by first | rfl | decide | omega | exact ⟨rfl, rfl⟩) ?_))
  all_goals (first | (simp_all [stpB, noText]; done) | (refine ret_eq ?_; grind [stpB, noText]))

end Go.Proofs.Ytaegnbfboeeijaa
