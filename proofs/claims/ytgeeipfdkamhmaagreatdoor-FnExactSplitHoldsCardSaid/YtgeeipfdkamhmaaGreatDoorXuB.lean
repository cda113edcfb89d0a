/- Contracts of small functions. -/
import Derived.Test.YtgeeipfdkamhmaaGreatDoorXuA
namespace Go.Proofs.YtgeeipfdkamhmaaGreatDoor
open Go.Vs
set_option linter.unusedSimpArgs false
set_option linter.unusedVariables false
attribute [local irreducible] Vs.Fn
def inB (a b c : Int) : Bool := decide (a ≥ b) && decide (a ≤ c)
theorem l00In (a b c : Int) : Vs.Fn Tryz.prog F.spec_l00In [] [.v (.int .i64 a), .v (.int .i64 b), .v (.int .i64 c)] (.v (.bool (inB a b c))) [] := by
  refine Cd.spec_l00In_ok.fn0 Tryz.mixed Cd.spec_l00In_nt Cd.spec_l00In_rs rfl fun X => ?_
  unfold Cd.spec_l00In
  simp -dsimp only [go_sem, reduceIte, reduceCtorEq, Nat.reduceEqDiff, Nat.reduceLT, Nat.reduceLeDiff, Nat.reduceAdd, Nat.reduceMul, Nat.reduceSub, Int.reduceToNat, Int.reduceNeg]
  repeat' (first
    | (refine RgK.mk rfl ?_; simp -dsimp only [go_sem, reduceIte, reduceCtorEq, Nat.reduceEqDiff, Nat.reduceLT, Nat.reduceLeDiff, Nat.reduceAdd, Nat.reduceMul, Nat.reduceSub, Int.reduceToNat, Int.reduceNeg])
    | (refine Br.mk (fun h => ?_) (fun h => ?_) <;> simp -dsimp only [go_sem, reduceIte, reduceCtorEq, Nat.reduceEqDiff, Nat.reduceLT, Nat.reduceLeDiff, Nat.reduceAdd, Nat.reduceMul, Nat.reduceSub, Int.reduceToNat, Int.reduceNeg, h])
    | (refine And.intro (by first | rfl | omega | decide | (refine ⟨?_, ?_⟩ <;> (first | rfl | omega | decide)) | (refine ⟨?_, ?_, ?_⟩ <;> (first | rfl | omega | decide)) | (refine ⟨?_, ?_, ?_, ?_⟩ <;> (first | rfl | omega | decide))) ?_)
    | fail)
  all_goals (first | (simp_all [inB]; done) | (simp_all [inB]; omega))

theorem inside (a b c : Int) : Vs.Fn Tryz.prog F.impl_inside [] [.v (.int .i64 a), .v (.int .i64 b), .v (.int .i64 c)] (.v (.bool (inB a b c))) [] := by
  refine Cd.impl_inside_ok.fn0 Tryz.mixed Cd.impl_inside_nt Cd.impl_inside_rs rfl fun X => ?_
  unfold Cd.impl_inside
  simp -dsimp only [go_sem, reduceIte, reduceCtorEq, Nat.reduceEqDiff, Nat.reduceLT, Nat.reduceLeDiff, Nat.reduceAdd, Nat.reduceMul, Nat.reduceSub, Int.reduceToNat, Int.reduceNeg]
  repeat' (first
    | (refine RgK.mk rfl ?_; simp -dsimp only [go_sem, reduceIte, reduceCtorEq, Nat.reduceEqDiff, Nat.reduceLT, Nat.reduceLeDiff, Nat.reduceAdd, Nat.reduceMul, Nat.reduceSub, Int.reduceToNat, Int.reduceNeg])
    | (refine Br.mk (fun h => ?_) (fun h => ?_) <;> simp -dsimp only [go_sem, reduceIte, reduceCtorEq, Nat.reduceEqDiff, Nat.reduceLT, Nat.reduceLeDiff, Nat.reduceAdd, Nat.reduceMul, Nat.reduceSub, Int.reduceToNat, Int.reduceNeg, h])
    | (refine And.intro (by first | rfl | omega | decide | (refine ⟨?_, ?_⟩ <;> (first | rfl | omega | decide)) | (refine ⟨?_, ?_, ?_⟩ <;> (first | rfl | omega | decide)) | (refine ⟨?_, ?_, ?_, ?_⟩ <;> (first | rfl | omega | decide))) ?_)
    | fail)
  all_goals (first | (simp_all [inB]; done) | (simp_all [inB]; omega))

abbrev W (n : Int) : Int := IntKind.i64.wrap n
theorem plusC (a b c x y z t : Int) : Vs.Fn Tryz.prog F._impl_Control__plus [] [.agg [.v (.int .i64 a), .v (.int .i64 b), .v (.int .i64 c)], .agg [.v (.int .i64 x), .v (.int .i64 y), .v (.int .i64 z)], .v (.int .i64 t)] (.agg [.v (.int .i64 (W (a + W (t * x)))), .v (.int .i64 (W (b + W (t * y)))), .v (.int .i64 (W (c + W (t * z))))]) [] := by
  refine Cd._impl_Control__plus_ok.fn0 Tryz.mixed Cd._impl_Control__plus_nt Cd._impl_Control__plus_rs rfl fun X => ?_
  unfold Cd._impl_Control__plus
  simp -dsimp only [go_sem, reduceIte, reduceCtorEq, Nat.reduceEqDiff, Nat.reduceLT, Nat.reduceLeDiff, Nat.reduceAdd, Nat.reduceMul, Nat.reduceSub, Int.reduceToNat, Int.reduceNeg]
  repeat' (first
    | (refine RgK.mk rfl ?_; simp -dsimp only [go_sem, reduceIte, reduceCtorEq, Nat.reduceEqDiff, Nat.reduceLT, Nat.reduceLeDiff, Nat.reduceAdd, Nat.reduceMul, Nat.reduceSub, Int.reduceToNat, Int.reduceNeg])
    | (refine Br.mk (fun h => ?_) (fun h => ?_) <;> simp -dsimp only [go_sem, reduceIte, reduceCtorEq, Nat.reduceEqDiff, Nat.reduceLT, Nat.reduceLeDiff, Nat.reduceAdd, Nat.reduceMul, Nat.reduceSub, Int.reduceToNat, Int.reduceNeg, h])
    | (refine And.intro (by first | rfl | omega | decide | (refine ⟨?_, ?_⟩ <;> (first | rfl | omega | decide)) | (refine ⟨?_, ?_, ?_⟩ <;> (first | rfl | omega | decide)) | (refine ⟨?_, ?_, ?_, ?_⟩ <;> (first | rfl | omega | decide))) ?_)
    | fail)
  all_goals (exact ⟨_, _, rfl, rfl⟩)

end Go.Proofs.YtgeeipfdkamhmaaGreatDoor
