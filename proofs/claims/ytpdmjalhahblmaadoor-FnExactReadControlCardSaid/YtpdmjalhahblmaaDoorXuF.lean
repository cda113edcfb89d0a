/- Characters, fields, specifications and steps. -/
import Derived.Test.YtpdmjalhahblmaaDoorVsB
import Derived.Test.YtpdmjalhahblmaaDoorXuB
import Derived.Test.YtpdmjalhahblmaaDoorVtJ
namespace Go.Proofs.YtpdmjalhahblmaaDoor
open Go.Vs
set_option linter.unusedSectionVars false
variable [Vs.Tab 5 Vs.powP]
set_option linter.unusedSimpArgs false
set_option linter.unusedVariables false
attribute [local irreducible] Vs.Fn
structure Stp where
  kind : Int
  a : Int
  b : Int
  to : Int
  f0 : Int
  f1 : Int
  s0 : Int
  s1 : Int
  text : ByteArray
end Go.Proofs.YtpdmjalhahblmaaDoor

namespace Go.Proofs.YtpdmjalhahblmaaDoor
open Go.Vs
set_option linter.unusedSectionVars false
variable [Vs.Tab 5 Vs.powP]
set_option linter.unusedSimpArgs false
set_option linter.unusedVariables false
attribute [local irreducible] Vs.Fn
def isDig (n : Int) : Bool := decide (n ≥ 48) && decide (n ≤ 57)
theorem l01Digit (n : Int) : Vs.Fn Tryd.prog F.spec_l01Digit [] [.v (.int .u8 n)] (.v (.bool (isDig n))) [] := by
  refine Cd.spec_l01Digit_ok.fn0 Tryd.mixed Cd.spec_l01Digit_nt Cd.spec_l01Digit_rs rfl fun X => ?_
  unfold Cd.spec_l01Digit
  simp -dsimp only [go_sem, reduceIte, reduceCtorEq, Nat.reduceEqDiff, Nat.reduceLT, Nat.reduceLeDiff, Nat.reduceAdd, Nat.reduceMul, Nat.reduceSub, Int.reduceToNat, Int.reduceNeg]
  repeat' (first
    | (refine RgK.mk rfl ?_; simp -dsimp only [go_sem, reduceIte, reduceCtorEq, Nat.reduceEqDiff, Nat.reduceLT, Nat.reduceLeDiff, Nat.reduceAdd, Nat.reduceMul, Nat.reduceSub, Int.reduceToNat, Int.reduceNeg])
    | (refine Br.mk (fun h => ?_) (fun h => ?_) <;> simp -dsimp only [go_sem, reduceIte, reduceCtorEq, Nat.reduceEqDiff, Nat.reduceLT, Nat.reduceLeDiff, Nat.reduceAdd, Nat.reduceMul, Nat.reduceSub, Int.reduceToNat, Int.reduceNeg, h])
    | (refine And.intro (by first | rfl | omega | decide | (refine ⟨?_, ?_⟩ <;> (first | rfl | omega | decide)) | (refine ⟨?_, ?_, ?_⟩ <;> (first | rfl | omega | decide)) | (refine ⟨?_, ?_, ?_, ?_⟩ <;> (first | rfl | omega | decide))) ?_)
    | fail)
  all_goals (first | (simp_all [isDig]; done) | (simp_all [isDig]; omega))

structure Spc where
  w0 : Int
  w1 : Int
  text : ByteArray
  g0 : Int
  g1 : Int
  s0 : Int
  s1 : Int
end Go.Proofs.YtpdmjalhahblmaaDoor
