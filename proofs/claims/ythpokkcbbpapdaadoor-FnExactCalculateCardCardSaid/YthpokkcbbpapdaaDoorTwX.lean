/- The program's Calculate, walked. -/
import Derived.Test.YthpokkcbbpapdaaDoorTwT
namespace Go.Proofs.YthpokkcbbpapdaaDoor
open Go.Vs
set_option linter.unusedSimpArgs false
set_option linter.unusedVariables false
attribute [local irreducible] Vs.Fn
theorem spec_QuotientBy (a b : Int) : Vs.Fn Tryd.prog F.spec_QuotientBy [] [.v (.int .i64 a), .v (.int .i64 b)] (.tup (cT4 (quoT a b))) [] := by
  refine Cd.spec_QuotientBy_ok.fn0 Tryd.mixed Cd.spec_QuotientBy_nt Cd.spec_QuotientBy_rs rfl fun X => ?_
  unfold Cd.spec_QuotientBy
  simp -dsimp only [go_sem, reduceIte, reduceCtorEq, Nat.reduceEqDiff, Nat.reduceLT, Nat.reduceLeDiff, Nat.reduceAdd, Nat.reduceMul, Nat.reduceSub, Int.reduceToNat, Int.reduceNeg]
  cases ha : inB a (-999999999999) 999999999999 with
  | false =>
    repeat' (first
      | (refine RgK.mk rfl ?_; simp -dsimp only [go_sem, reduceIte, reduceCtorEq, Nat.reduceEqDiff, Nat.reduceLT, Nat.reduceLeDiff, Nat.reduceAdd, Nat.reduceMul, Nat.reduceSub, Int.reduceToNat, Int.reduceNeg, ha])
      | (refine Br.mk (fun h => ?_) (fun h => ?_) <;> simp -dsimp only [go_sem, reduceIte, reduceCtorEq, Nat.reduceEqDiff, Nat.reduceLT, Nat.reduceLeDiff, Nat.reduceAdd, Nat.reduceMul, Nat.reduceSub, Int.reduceToNat, Int.reduceNeg, h, ha])
      | (refine CallK.flat (by first | exact l14Number _) rfl ?_; simp -dsimp only [go_sem, reduceIte, reduceCtorEq, Nat.reduceEqDiff, Nat.reduceLT, Nat.reduceLeDiff, Nat.reduceAdd, Nat.reduceMul, Nat.reduceSub, Int.reduceToNat, Int.reduceNeg, ha])
      | (refine CallK.pure (by first | exact l14Number _) ?_; simp -dsimp only [go_sem, reduceIte, reduceCtorEq, Nat.reduceEqDiff, Nat.reduceLT, Nat.reduceLeDiff, Nat.reduceAdd, Nat.reduceMul, Nat.reduceSub, Int.reduceToNat, Int.reduceNeg, ha])
      | (refine And.intro (by first | rfl | omega | decide | (refine ⟨?_, ?_⟩ <;> (first | rfl | omega | decide)) | (refine ⟨?_, ?_, ?_⟩ <;> (first | rfl | omega | decide)) | (refine ⟨?_, ?_, ?_, ?_⟩ <;> (first | rfl | omega | decide))) ?_)
      | fail)

    all_goals simp [quoT, nrB, ha, cT4]
  | true =>
    cases hb : inB b (-999999) 999999 with
    | false =>
      repeat' (first
        | (refine RgK.mk rfl ?_; simp -dsimp only [go_sem, reduceIte, reduceCtorEq, Nat.reduceEqDiff, Nat.reduceLT, Nat.reduceLeDiff, Nat.reduceAdd, Nat.reduceMul, Nat.reduceSub, Int.reduceToNat, Int.reduceNeg, ha, hb])
        | (refine Br.mk (fun h => ?_) (fun h => ?_) <;> simp -dsimp only [go_sem, reduceIte, reduceCtorEq, Nat.reduceEqDiff, Nat.reduceLT, Nat.reduceLeDiff, Nat.reduceAdd, Nat.reduceMul, Nat.reduceSub, Int.reduceToNat, Int.reduceNeg, h, ha, hb])
        | (refine CallK.flat (by first | exact l14Number _ | exact l14Factor _) rfl ?_; simp -dsimp only [go_sem, reduceIte, reduceCtorEq, Nat.reduceEqDiff, Nat.reduceLT, Nat.reduceLeDiff, Nat.reduceAdd, Nat.reduceMul, Nat.reduceSub, Int.reduceToNat, Int.reduceNeg, ha, hb])
        | (refine CallK.pure (by first | exact l14Number _ | exact l14Factor _) ?_; simp -dsimp only [go_sem, reduceIte, reduceCtorEq, Nat.reduceEqDiff, Nat.reduceLT, Nat.reduceLeDiff, Nat.reduceAdd, Nat.reduceMul, Nat.reduceSub, Int.reduceToNat, Int.reduceNeg, ha, hb])
        | (refine And.intro (by first | rfl | omega | decide | (refine ⟨?_, ?_⟩ <;> (first | rfl | omega | decide)) | (refine ⟨?_, ?_, ?_⟩ <;> (first | rfl | omega | decide)) | (refine ⟨?_, ?_, ?_, ?_⟩ <;> (first | rfl | omega | decide))) ?_)
        | fail)

      all_goals simp [quoT, nrB, ha, hb, cT4]
    | true =>
      have ga := nr_in ha
      have gb := fct_in hb
      by_cases hz : b = 0
      · have ez : (b == 0) = true := beq_iff_eq.2 hz
        have hT : quoT a b = (0, 0, 0, 6) := by unfold quoT nrB; rw [ha, hb]; simp [hz]
        repeat' (first
          | (refine RgK.mk rfl ?_; simp -dsimp only [go_sem, reduceIte, reduceCtorEq, Nat.reduceEqDiff, Nat.reduceLT, Nat.reduceLeDiff, Nat.reduceAdd, Nat.reduceMul, Nat.reduceSub, Int.reduceToNat, Int.reduceNeg, ha, hb, ez])
          | (refine Br.mk (fun h => ?_) (fun h => ?_) <;> simp -dsimp only [go_sem, reduceIte, reduceCtorEq, Nat.reduceEqDiff, Nat.reduceLT, Nat.reduceLeDiff, Nat.reduceAdd, Nat.reduceMul, Nat.reduceSub, Int.reduceToNat, Int.reduceNeg, h, ha, hb, ez])
          | (refine CallK.flat (by first | exact l14Number _ | exact l14Factor _) rfl ?_; simp -dsimp only [go_sem, reduceIte, reduceCtorEq, Nat.reduceEqDiff, Nat.reduceLT, Nat.reduceLeDiff, Nat.reduceAdd, Nat.reduceMul, Nat.reduceSub, Int.reduceToNat, Int.reduceNeg, ha, hb, ez])
          | (refine CallK.pure (by first | exact l14Number _ | exact l14Factor _) ?_; simp -dsimp only [go_sem, reduceIte, reduceCtorEq, Nat.reduceEqDiff, Nat.reduceLT, Nat.reduceLeDiff, Nat.reduceAdd, Nat.reduceMul, Nat.reduceSub, Int.reduceToNat, Int.reduceNeg, ha, hb, ez])
          | (refine And.intro (by first | rfl | omega | decide | (refine ⟨?_, ?_⟩ <;> (first | rfl | omega | decide)) | (refine ⟨?_, ?_, ?_⟩ <;> (first | rfl | omega | decide)) | (refine ⟨?_, ?_, ?_, ?_⟩ <;> (first | rfl | omega | decide))) ?_)
          | fail)

        all_goals simp [hT, cT4]
      · have ez : (b == 0) = false := beq_eq_false_iff_ne.2 hz
        obtain ⟨d1, d2, d3⟩ := div_sgn a b
        have hle := Nat.div_le_self a.natAbs b.natAbs
        have hml : a.natAbs % b.natAbs ≤ a.natAbs := Nat.mod_le _ _
        have hw1 : IntKind.i64.wrap (0 - ((a.natAbs / b.natAbs : Nat) : Int)) = -((a.natAbs / b.natAbs : Nat) : Int) := by
          generalize a.natAbs / b.natAbs = q at *
          rw [wrap_in (by omega) (by omega)]; omega
        have hw2 : IntKind.i64.wrap (0 - ((a.natAbs % b.natAbs : Nat) : Int)) = -((a.natAbs % b.natAbs : Nat) : Int) := by
          generalize a.natAbs % b.natAbs = q at *
          rw [wrap_in (by omega) (by omega)]; omega
        have hD := l14Divide a.natAbs b.natAbs (by omega) (by omega) (by omega)
        have hT : quoT a b = (a.tdiv b, a.tmod b, ((dsN (a.tdiv b).natAbs + Lib.nDigits (a.tdiv b).natAbs : Nat) : Int), 0) := by unfold quoT nrB; rw [ha, hb]; simp [hz]
        by_cases hA : a < 0 <;> by_cases hB : b < 0
        all_goals
          simp only [hA, hB, decide_true, decide_false, bne_self_eq_false, Bool.false_eq_true, if_false, if_true, Bool.true_bne, Bool.false_bne, Bool.not_true, Bool.not_false] at d2 d3
          have hn : decide (a < 0) = decide (a < 0) := rfl
          have hT2 := hT
          rw [d1, d2, d3] at hT2
          repeat' (first
            | (refine RgK.mk rfl ?_; simp -dsimp only [go_sem, reduceIte, reduceCtorEq, Nat.reduceEqDiff, Nat.reduceLT, Nat.reduceLeDiff, Nat.reduceAdd, Nat.reduceMul, Nat.reduceSub, Int.reduceToNat, Int.reduceNeg, ha, hb, ez, hA, hB, hw1, hw2, Bool.true_beq, Bool.false_beq, decide_true, decide_false, Bool.not_true, Bool.not_false])
            | (refine Br.mk (fun h => ?_) (fun h => ?_) <;> simp -dsimp only [go_sem, reduceIte, reduceCtorEq, Nat.reduceEqDiff, Nat.reduceLT, Nat.reduceLeDiff, Nat.reduceAdd, Nat.reduceMul, Nat.reduceSub, Int.reduceToNat, Int.reduceNeg, h, ha, hb, ez, hA, hB, hw1, hw2, Bool.true_beq, Bool.false_beq, decide_true, decide_false, Bool.not_true, Bool.not_false])
            | (refine CallK.flat (by first | exact l14Number _ | exact l14Factor _ | exact l14Size _ (by omega) (by omega) | exact hD) rfl ?_; simp -dsimp only [go_sem, reduceIte, reduceCtorEq, Nat.reduceEqDiff, Nat.reduceLT, Nat.reduceLeDiff, Nat.reduceAdd, Nat.reduceMul, Nat.reduceSub, Int.reduceToNat, Int.reduceNeg, ha, hb, ez, hA, hB, hw1, hw2, Bool.true_beq, Bool.false_beq, decide_true, decide_false, Bool.not_true, Bool.not_false])
            | (refine CallK.pure (by first | exact l14Number _ | exact l14Factor _ | exact l14Size _ (by omega) (by omega) | exact hD) ?_; simp -dsimp only [go_sem, reduceIte, reduceCtorEq, Nat.reduceEqDiff, Nat.reduceLT, Nat.reduceLeDiff, Nat.reduceAdd, Nat.reduceMul, Nat.reduceSub, Int.reduceToNat, Int.reduceNeg, ha, hb, ez, hA, hB, hw1, hw2, Bool.true_beq, Bool.false_beq, decide_true, decide_false, Bool.not_true, Bool.not_false])
            | (refine And.intro (by first | rfl | omega | decide | (refine ⟨?_, ?_⟩ <;> (first | rfl | omega | decide)) | (refine ⟨?_, ?_, ?_⟩ <;> (first | rfl | omega | decide)) | (refine ⟨?_, ?_, ?_, ?_⟩ <;> (first | rfl | omega | decide))) ?_)
            | fail)

          all_goals simp [hT2, cT4]

theorem impl_QuotientBy (a b : Int) : Vs.Fn Tryd.prog F.impl_QuotientBy [] [.v (.int .i64 a), .v (.int .i64 b)] (.tup (cT4 (quoT a b))) [] := by
  refine Cd.impl_QuotientBy_ok.fn0 Tryd.mixed Cd.impl_QuotientBy_nt Cd.impl_QuotientBy_rs rfl fun X => ?_
  unfold Cd.impl_QuotientBy
  simp -dsimp only [go_sem, reduceIte, reduceCtorEq, Nat.reduceEqDiff, Nat.reduceLT, Nat.reduceLeDiff, Nat.reduceAdd, Nat.reduceMul, Nat.reduceSub, Int.reduceToNat, Int.reduceNeg]
  cases ha : inB a (-999999999999) 999999999999 with
  | false =>
    repeat' (first
      | (refine RgK.mk rfl ?_; simp -dsimp only [go_sem, reduceIte, reduceCtorEq, Nat.reduceEqDiff, Nat.reduceLT, Nat.reduceLeDiff, Nat.reduceAdd, Nat.reduceMul, Nat.reduceSub, Int.reduceToNat, Int.reduceNeg, ha])
      | (refine Br.mk (fun h => ?_) (fun h => ?_) <;> simp -dsimp only [go_sem, reduceIte, reduceCtorEq, Nat.reduceEqDiff, Nat.reduceLT, Nat.reduceLeDiff, Nat.reduceAdd, Nat.reduceMul, Nat.reduceSub, Int.reduceToNat, Int.reduceNeg, h, ha])
      | (refine CallK.flat (by first | exact isNumber _) rfl ?_; simp -dsimp only [go_sem, reduceIte, reduceCtorEq, Nat.reduceEqDiff, Nat.reduceLT, Nat.reduceLeDiff, Nat.reduceAdd, Nat.reduceMul, Nat.reduceSub, Int.reduceToNat, Int.reduceNeg, ha])
      | (refine CallK.pure (by first | exact isNumber _) ?_; simp -dsimp only [go_sem, reduceIte, reduceCtorEq, Nat.reduceEqDiff, Nat.reduceLT, Nat.reduceLeDiff, Nat.reduceAdd, Nat.reduceMul, Nat.reduceSub, Int.reduceToNat, Int.reduceNeg, ha])
      | (refine And.intro (by first | rfl | omega | decide | (refine ⟨?_, ?_⟩ <;> (first | rfl | omega | decide)) | (refine ⟨?_, ?_, ?_⟩ <;> (first | rfl | omega | decide)) | (refine ⟨?_, ?_, ?_, ?_⟩ <;> (first | rfl | omega | decide))) ?_)
      | fail)

    all_goals simp [quoT, nrB, ha, cT4]
  | true =>
    cases hb : inB b (-999999) 999999 with
    | false =>
      repeat' (first
        | (refine RgK.mk rfl ?_; simp -dsimp only [go_sem, reduceIte, reduceCtorEq, Nat.reduceEqDiff, Nat.reduceLT, Nat.reduceLeDiff, Nat.reduceAdd, Nat.reduceMul, Nat.reduceSub, Int.reduceToNat, Int.reduceNeg, ha, hb])
        | (refine Br.mk (fun h => ?_) (fun h => ?_) <;> simp -dsimp only [go_sem, reduceIte, reduceCtorEq, Nat.reduceEqDiff, Nat.reduceLT, Nat.reduceLeDiff, Nat.reduceAdd, Nat.reduceMul, Nat.reduceSub, Int.reduceToNat, Int.reduceNeg, h, ha, hb])
        | (refine CallK.flat (by first | exact isNumber _ | exact isFactor _) rfl ?_; simp -dsimp only [go_sem, reduceIte, reduceCtorEq, Nat.reduceEqDiff, Nat.reduceLT, Nat.reduceLeDiff, Nat.reduceAdd, Nat.reduceMul, Nat.reduceSub, Int.reduceToNat, Int.reduceNeg, ha, hb])
        | (refine CallK.pure (by first | exact isNumber _ | exact isFactor _) ?_; simp -dsimp only [go_sem, reduceIte, reduceCtorEq, Nat.reduceEqDiff, Nat.reduceLT, Nat.reduceLeDiff, Nat.reduceAdd, Nat.reduceMul, Nat.reduceSub, Int.reduceToNat, Int.reduceNeg, ha, hb])
        | (refine And.intro (by first | rfl | omega | decide | (refine ⟨?_, ?_⟩ <;> (first | rfl | omega | decide)) | (refine ⟨?_, ?_, ?_⟩ <;> (first | rfl | omega | decide)) | (refine ⟨?_, ?_, ?_, ?_⟩ <;> (first | rfl | omega | decide))) ?_)
        | fail)

      all_goals simp [quoT, nrB, ha, hb, cT4]
    | true =>
      have ga := nr_in ha
      have gb := fct_in hb
      by_cases hz : b = 0
      · have ez : (b == 0) = true := beq_iff_eq.2 hz
        have hT : quoT a b = (0, 0, 0, 6) := by unfold quoT nrB; rw [ha, hb]; simp [hz]
        repeat' (first
          | (refine RgK.mk rfl ?_; simp -dsimp only [go_sem, reduceIte, reduceCtorEq, Nat.reduceEqDiff, Nat.reduceLT, Nat.reduceLeDiff, Nat.reduceAdd, Nat.reduceMul, Nat.reduceSub, Int.reduceToNat, Int.reduceNeg, ha, hb, ez])
          | (refine Br.mk (fun h => ?_) (fun h => ?_) <;> simp -dsimp only [go_sem, reduceIte, reduceCtorEq, Nat.reduceEqDiff, Nat.reduceLT, Nat.reduceLeDiff, Nat.reduceAdd, Nat.reduceMul, Nat.reduceSub, Int.reduceToNat, Int.reduceNeg, h, ha, hb, ez])
          | (refine CallK.flat (by first | exact isNumber _ | exact isFactor _) rfl ?_; simp -dsimp only [go_sem, reduceIte, reduceCtorEq, Nat.reduceEqDiff, Nat.reduceLT, Nat.reduceLeDiff, Nat.reduceAdd, Nat.reduceMul, Nat.reduceSub, Int.reduceToNat, Int.reduceNeg, ha, hb, ez])
          | (refine CallK.pure (by first | exact isNumber _ | exact isFactor _) ?_; simp -dsimp only [go_sem, reduceIte, reduceCtorEq, Nat.reduceEqDiff, Nat.reduceLT, Nat.reduceLeDiff, Nat.reduceAdd, Nat.reduceMul, Nat.reduceSub, Int.reduceToNat, Int.reduceNeg, ha, hb, ez])
          | (refine And.intro (by first | rfl | omega | decide | (refine ⟨?_, ?_⟩ <;> (first | rfl | omega | decide)) | (refine ⟨?_, ?_, ?_⟩ <;> (first | rfl | omega | decide)) | (refine ⟨?_, ?_, ?_, ?_⟩ <;> (first | rfl | omega | decide))) ?_)
          | fail)

        all_goals simp [hT, cT4]
      · have ez : (b == 0) = false := beq_eq_false_iff_ne.2 hz
        obtain ⟨d1, d2, d3⟩ := div_sgn a b
        have hle := Nat.div_le_self a.natAbs b.natAbs
        have hml : a.natAbs % b.natAbs ≤ a.natAbs := Nat.mod_le _ _
        have hT : quoT a b = (a.tdiv b, a.tmod b, ((dsN (a.tdiv b).natAbs + Lib.nDigits (a.tdiv b).natAbs : Nat) : Int), 0) := by unfold quoT nrB; rw [ha, hb]; simp [hz]
        have hqa : (a.tdiv b).natAbs ≤ a.natAbs := by rw [d1]; exact hle
        have hbz : b ≠ 0 := hz
        clear d2 d3 d1
        obtain ⟨q, hq⟩ : ∃ q, a.tdiv b = q := ⟨_, rfl⟩
        rw [hq] at hT hqa
        have hw1 : IntKind.i64.wrap q = q := wrap_in (by omega) (by omega)
        have hds := dsN_le q.natAbs
        have hnd := nDigits_le (n := q.natAbs) (by omega)
        have hlen := wl_length (Lib.nDigits q.natAbs) q.natAbs
        have hw2 : IntKind.i64.wrap ((dsN q.natAbs : Int) + ((Lib.nDigits q.natAbs : Nat) : Int)) = ((dsN q.natAbs + Lib.nDigits q.natAbs : Nat) : Int) := by rw [wrap_in (by omega) (by omega)]; omega
        skip
        repeat' (first
          | (refine RgK.mk rfl ?_; simp -dsimp only [go_sem, reduceIte, reduceCtorEq, Nat.reduceEqDiff, Nat.reduceLT, Nat.reduceLeDiff, Nat.reduceAdd, Nat.reduceMul, Nat.reduceSub, Int.reduceToNat, Int.reduceNeg, ha, hb, ez, hq, hw1, hw2, hlen])
          | (refine Br.mk (fun h => ?_) (fun h => ?_) <;> simp -dsimp only [go_sem, reduceIte, reduceCtorEq, Nat.reduceEqDiff, Nat.reduceLT, Nat.reduceLeDiff, Nat.reduceAdd, Nat.reduceMul, Nat.reduceSub, Int.reduceToNat, Int.reduceNeg, h, ha, hb, ez, hq, hw1, hw2, hlen])
          | (refine CallK.flat (by first | exact isNumber _ | exact isFactor _ | exact digitSum q (by omega) (by omega) | exact digitList q (by omega) (by omega) | exact sizeI _) rfl ?_; simp -dsimp only [go_sem, reduceIte, reduceCtorEq, Nat.reduceEqDiff, Nat.reduceLT, Nat.reduceLeDiff, Nat.reduceAdd, Nat.reduceMul, Nat.reduceSub, Int.reduceToNat, Int.reduceNeg, ha, hb, ez, hq, hw1, hw2, hlen])
          | (refine CallK.pure (by first | exact isNumber _ | exact isFactor _ | exact digitSum q (by omega) (by omega) | exact digitList q (by omega) (by omega) | exact sizeI _) ?_; simp -dsimp only [go_sem, reduceIte, reduceCtorEq, Nat.reduceEqDiff, Nat.reduceLT, Nat.reduceLeDiff, Nat.reduceAdd, Nat.reduceMul, Nat.reduceSub, Int.reduceToNat, Int.reduceNeg, ha, hb, ez, hq, hw1, hw2, hlen])
          | (refine And.intro (by first | rfl | omega | decide | exact hbz | exact ⟨rfl, hbz⟩ | (refine ⟨?_, ?_⟩ <;> (first | rfl | omega | decide | exact hbz | exact ⟨rfl, hbz⟩)) | (refine ⟨?_, ?_, ?_⟩ <;> (first | rfl | omega | decide | exact hbz | exact ⟨rfl, hbz⟩)) | (refine ⟨?_, ?_, ?_, ?_⟩ <;> (first | rfl | omega | decide | exact hbz | exact ⟨rfl, hbz⟩))) ?_)
          | fail)

        all_goals simp [hT, cT4]

end Go.Proofs.YthpokkcbbpapdaaDoor

namespace Go.Proofs.YthpokkcbbpapdaaDoor
open Go.Vs
set_option linter.unusedSimpArgs false
set_option linter.unusedVariables false
attribute [local irreducible] Vs.Fn

def nnB (a : Int) : Bool := inB a (-999999999999) 999999999999
/-- what a kind gives for two numbers: result, cycles, code -/
def calT (k a b : Int) : Int × Int × Int :=
  if k = 3 then proT a b
  else if k = 4 then ((quoT a b).1, (quoT a b).2.2.1, (quoT a b).2.2.2)
  else if nnB a && nnB b then (if nnB (if k = 2 then W (a - b) else W (a + b)) then ((if k = 2 then W (a - b) else W (a + b)), 2, 0) else (0, 0, 5))
  else (0, 0, 2)
theorem l14Do (k a b : Int) : Vs.Fn Tryd.prog F.spec_l14Do [] [.v (.int .i64 k), .v (.int .i64 a), .v (.int .i64 b)] (.tup (cT3 (calT k a b))) [] := by
  refine Cd.spec_l14Do_ok.fn0 Tryd.mixed Cd.spec_l14Do_nt Cd.spec_l14Do_rs rfl fun X => ?_
  unfold Cd.spec_l14Do
  simp -dsimp only [go_sem, reduceIte, reduceCtorEq, Nat.reduceEqDiff, Nat.reduceLT, Nat.reduceLeDiff, Nat.reduceAdd, Nat.reduceMul, Nat.reduceSub, Int.reduceToNat, Int.reduceNeg, cT3, cT4]
  repeat' (first
    | (refine RgK.mk rfl ?_; simp -dsimp only [go_sem, reduceIte, reduceCtorEq, Nat.reduceEqDiff, Nat.reduceLT, Nat.reduceLeDiff, Nat.reduceAdd, Nat.reduceMul, Nat.reduceSub, Int.reduceToNat, Int.reduceNeg, cT3, cT4])
    | (refine Br.mk (fun h => ?_) (fun h => ?_) <;> simp -dsimp only [go_sem, reduceIte, reduceCtorEq, Nat.reduceEqDiff, Nat.reduceLT, Nat.reduceLeDiff, Nat.reduceAdd, Nat.reduceMul, Nat.reduceSub, Int.reduceToNat, Int.reduceNeg, h, cT3, cT4])
    | (refine CallK.flat (by first | exact spec_ProductBy a b | exact spec_QuotientBy a b | exact l14Number _) rfl ?_; simp -dsimp only [go_sem, reduceIte, reduceCtorEq, Nat.reduceEqDiff, Nat.reduceLT, Nat.reduceLeDiff, Nat.reduceAdd, Nat.reduceMul, Nat.reduceSub, Int.reduceToNat, Int.reduceNeg, cT3, cT4])
    | (refine CallK.pure (by first | exact spec_ProductBy a b | exact spec_QuotientBy a b | exact l14Number _) ?_; simp -dsimp only [go_sem, reduceIte, reduceCtorEq, Nat.reduceEqDiff, Nat.reduceLT, Nat.reduceLeDiff, Nat.reduceAdd, Nat.reduceMul, Nat.reduceSub, Int.reduceToNat, Int.reduceNeg, cT3, cT4])
    | (refine And.intro (by first | rfl | omega | decide | (refine ⟨?_, ?_⟩ <;> (first | rfl | omega | decide)) | (refine ⟨?_, ?_, ?_⟩ <;> (first | rfl | omega | decide)) | (refine ⟨?_, ?_, ?_, ?_⟩ <;> (first | rfl | omega | decide))) ?_)
    | fail)
  all_goals (first | (simp_all [calT, cT3, cT4, nnB]; done) | (refine ret_eq ?_; simp_all [calT, cT3, cT4, nnB]))

end Go.Proofs.YthpokkcbbpapdaaDoor

namespace Go.Proofs.YthpokkcbbpapdaaDoor
open Go.Vs
set_option linter.unusedSimpArgs false
set_option linter.unusedVariables false
attribute [local irreducible] Vs.Fn

theorem proT_cases (a b : Int) : ((proT a b).2.2 = 0 ∧ nnB (proT a b).1 = true) ∨ proT a b = (0, 0, 2) := by
  unfold proT
  cases h : fctB a b
  · exact .inr rfl
  · refine .inl ⟨rfl, ?_⟩
    simp only [fctB, Bool.and_eq_true] at h
    have ga := fct_in h.1
    have gb := fct_in h.2
    have hab : a.natAbs * b.natAbs ≤ 999999 * 999999 := Nat.mul_le_mul (by omega) (by omega)
    have := mul_sgn a b
    simp only [if_true, nnB, inB, Bool.and_eq_true, decide_eq_true_eq]
    split at this <;> omega
theorem quoT_cases (a b : Int) : ((quoT a b).2.2.2 = 0 ∧ nnB (quoT a b).1 = true) ∨ ((quoT a b).1 = 0 ∧ (quoT a b).2.2.1 = 0 ∧ (quoT a b).2.2.2 ≠ 0) := by
  unfold quoT
  cases h : nrB a b
  · exact .inr ⟨rfl, rfl, fun h => absurd (show (2 : Int) = 0 from h) (by decide)⟩
  · by_cases hz : b = 0
    · simp [hz]
    · simp only [nrB, Bool.and_eq_true] at h
      have ga := nr_in h.1
      have h1 := (div_sgn a b).1
      have h2 := Nat.div_le_self a.natAbs b.natAbs
      simp only [if_true, hz, if_false, nnB, inB, Bool.and_eq_true, decide_eq_true_eq]
      exact .inl ⟨trivial, by omega, by omega⟩
end Go.Proofs.YthpokkcbbpapdaaDoor

namespace Go.Proofs.YthpokkcbbpapdaaDoor
open Go.Vs
set_option linter.unusedSimpArgs false
set_option linter.unusedVariables false
attribute [local irreducible] Vs.Fn
set_option maxHeartbeats 1000000 in
theorem calculate (k a b : Int) (hk : inB k 1 4 = true) : Vs.Fn Tryd.prog F.impl_Calculate [] [.v (.int .i64 k), .v (.int .i64 a), .v (.int .i64 b)] (.tup (cT3 (calT k a b))) [] := by
  have hk4 : k = 1 ∨ k = 2 ∨ k = 3 ∨ k = 4 := by
    simp only [inB, Bool.and_eq_true, decide_eq_true_eq] at hk; omega
  have z11 : ((1 : Int) == 1) = true := rfl
  have z12 : ((1 : Int) == 2) = false := rfl
  have z21 : ((2 : Int) == 1) = false := rfl
  have z22 : ((2 : Int) == 2) = true := rfl
  have z31 : ((3 : Int) == 1) = false := rfl
  have z32 : ((3 : Int) == 2) = false := rfl
  have z33 : ((3 : Int) == 3) = true := rfl
  have z41 : ((4 : Int) == 1) = false := rfl
  have z42 : ((4 : Int) == 2) = false := rfl
  have z43 : ((4 : Int) == 3) = false := rfl
  have z44 : ((4 : Int) == 4) = true := rfl
  rcases hk4 with rfl | rfl | rfl | rfl
  · refine Cd.impl_Calculate_ok.fn0 Tryd.mixed Cd.impl_Calculate_nt Cd.impl_Calculate_rs rfl fun X => ?_
    unfold Cd.impl_Calculate
    simp -dsimp only [go_sem, reduceIte, reduceCtorEq, Nat.reduceEqDiff, Nat.reduceLT, Nat.reduceLeDiff, Nat.reduceAdd, Nat.reduceMul, Nat.reduceSub, Int.reduceToNat, Int.reduceNeg, z11, z21, z22, z31, z32, z33, z41, z42, z43, z44, z12, cT3, cT4]
    repeat' (first
      | (refine RgK.mk rfl ?_; simp -dsimp only [go_sem, reduceIte, reduceCtorEq, Nat.reduceEqDiff, Nat.reduceLT, Nat.reduceLeDiff, Nat.reduceAdd, Nat.reduceMul, Nat.reduceSub, Int.reduceToNat, Int.reduceNeg, z11, z21, z22, z31, z32, z33, z41, z42, z43, z44, z12, cT3, cT4])
      | (refine Br.mk (fun h => ?_) (fun h => ?_) <;> simp -dsimp only [go_sem, reduceIte, reduceCtorEq, Nat.reduceEqDiff, Nat.reduceLT, Nat.reduceLeDiff, Nat.reduceAdd, Nat.reduceMul, Nat.reduceSub, Int.reduceToNat, Int.reduceNeg, h, z11, z21, z22, z31, z32, z33, z41, z42, z43, z44, z12, cT3, cT4])
      | (refine CallK.flat (by first | exact impl_ProductBy a b | exact impl_QuotientBy a b | exact isNumber _) rfl ?_; simp -dsimp only [go_sem, reduceIte, reduceCtorEq, Nat.reduceEqDiff, Nat.reduceLT, Nat.reduceLeDiff, Nat.reduceAdd, Nat.reduceMul, Nat.reduceSub, Int.reduceToNat, Int.reduceNeg, z11, z21, z22, z31, z32, z33, z41, z42, z43, z44, z12, cT3, cT4])
      | (refine CallK.pure (by first | exact impl_ProductBy a b | exact impl_QuotientBy a b | exact isNumber _) ?_; simp -dsimp only [go_sem, reduceIte, reduceCtorEq, Nat.reduceEqDiff, Nat.reduceLT, Nat.reduceLeDiff, Nat.reduceAdd, Nat.reduceMul, Nat.reduceSub, Int.reduceToNat, Int.reduceNeg, z11, z21, z22, z31, z32, z33, z41, z42, z43, z44, z12, cT3, cT4])
      | (refine And.intro (by first | rfl | omega | decide | (refine ⟨?_, ?_⟩ <;> (first | rfl | omega | decide)) | (refine ⟨?_, ?_, ?_⟩ <;> (first | rfl | omega | decide)) | (refine ⟨?_, ?_, ?_, ?_⟩ <;> (first | rfl | omega | decide))) ?_)
      | fail)

    all_goals (first | (simp_all [calT, cT3, cT4, nnB]; done) | (refine ret_eq ?_; simp_all [calT, cT3, cT4, nnB]))
  · refine Cd.impl_Calculate_ok.fn0 Tryd.mixed Cd.impl_Calculate_nt Cd.impl_Calculate_rs rfl fun X => ?_
    unfold Cd.impl_Calculate
    simp -dsimp only [go_sem, reduceIte, reduceCtorEq, Nat.reduceEqDiff, Nat.reduceLT, Nat.reduceLeDiff, Nat.reduceAdd, Nat.reduceMul, Nat.reduceSub, Int.reduceToNat, Int.reduceNeg, z11, z21, z22, z31, z32, z33, z41, z42, z43, z44, z12, cT3, cT4]
    repeat' (first
      | (refine RgK.mk rfl ?_; simp -dsimp only [go_sem, reduceIte, reduceCtorEq, Nat.reduceEqDiff, Nat.reduceLT, Nat.reduceLeDiff, Nat.reduceAdd, Nat.reduceMul, Nat.reduceSub, Int.reduceToNat, Int.reduceNeg, z11, z21, z22, z31, z32, z33, z41, z42, z43, z44, z12, cT3, cT4])
      | (refine Br.mk (fun h => ?_) (fun h => ?_) <;> simp -dsimp only [go_sem, reduceIte, reduceCtorEq, Nat.reduceEqDiff, Nat.reduceLT, Nat.reduceLeDiff, Nat.reduceAdd, Nat.reduceMul, Nat.reduceSub, Int.reduceToNat, Int.reduceNeg, h, z11, z21, z22, z31, z32, z33, z41, z42, z43, z44, z12, cT3, cT4])
      | (refine CallK.flat (by first | exact impl_ProductBy a b | exact impl_QuotientBy a b | exact isNumber _) rfl ?_; simp -dsimp only [go_sem, reduceIte, reduceCtorEq, Nat.reduceEqDiff, Nat.reduceLT, Nat.reduceLeDiff, Nat.reduceAdd, Nat.reduceMul, Nat.reduceSub, Int.reduceToNat, Int.reduceNeg, z11, z21, z22, z31, z32, z33, z41, z42, z43, z44, z12, cT3, cT4])
      | (refine CallK.pure (by first | exact impl_ProductBy a b | exact impl_QuotientBy a b | exact isNumber _) ?_; simp -dsimp only [go_sem, reduceIte, reduceCtorEq, Nat.reduceEqDiff, Nat.reduceLT, Nat.reduceLeDiff, Nat.reduceAdd, Nat.reduceMul, Nat.reduceSub, Int.reduceToNat, Int.reduceNeg, z11, z21, z22, z31, z32, z33, z41, z42, z43, z44, z12, cT3, cT4])
      | (refine And.intro (by first | rfl | omega | decide | (refine ⟨?_, ?_⟩ <;> (first | rfl | omega | decide)) | (refine ⟨?_, ?_, ?_⟩ <;> (first | rfl | omega | decide)) | (refine ⟨?_, ?_, ?_, ?_⟩ <;> (first | rfl | omega | decide))) ?_)
      | fail)

    all_goals (first | (simp_all [calT, cT3, cT4, nnB]; done) | (refine ret_eq ?_; simp_all [calT, cT3, cT4, nnB]))
  · refine Cd.impl_Calculate_ok.fn0 Tryd.mixed Cd.impl_Calculate_nt Cd.impl_Calculate_rs rfl fun X => ?_
    unfold Cd.impl_Calculate
    rcases proT_cases a b with ⟨hc, hn⟩ | hc
    all_goals
      simp -dsimp only [go_sem, reduceIte, reduceCtorEq, Nat.reduceEqDiff, Nat.reduceLT, Nat.reduceLeDiff, Nat.reduceAdd, Nat.reduceMul, Nat.reduceSub, Int.reduceToNat, Int.reduceNeg, z11, z21, z22, z31, z32, z33, z41, z42, z43, z44, z12, cT3, cT4]
      repeat' (first
        | (refine RgK.mk rfl ?_; simp -dsimp only [go_sem, reduceIte, reduceCtorEq, Nat.reduceEqDiff, Nat.reduceLT, Nat.reduceLeDiff, Nat.reduceAdd, Nat.reduceMul, Nat.reduceSub, Int.reduceToNat, Int.reduceNeg, z11, z21, z22, z31, z32, z33, z41, z42, z43, z44, z12, cT3, cT4])
        | (refine Br.mk (fun h => ?_) (fun h => ?_) <;> simp -dsimp only [go_sem, reduceIte, reduceCtorEq, Nat.reduceEqDiff, Nat.reduceLT, Nat.reduceLeDiff, Nat.reduceAdd, Nat.reduceMul, Nat.reduceSub, Int.reduceToNat, Int.reduceNeg, h, z11, z21, z22, z31, z32, z33, z41, z42, z43, z44, z12, cT3, cT4])
        | (refine CallK.flat (by first | exact impl_ProductBy a b | exact impl_QuotientBy a b | exact isNumber _) rfl ?_; simp -dsimp only [go_sem, reduceIte, reduceCtorEq, Nat.reduceEqDiff, Nat.reduceLT, Nat.reduceLeDiff, Nat.reduceAdd, Nat.reduceMul, Nat.reduceSub, Int.reduceToNat, Int.reduceNeg, z11, z21, z22, z31, z32, z33, z41, z42, z43, z44, z12, cT3, cT4])
        | (refine CallK.pure (by first | exact impl_ProductBy a b | exact impl_QuotientBy a b | exact isNumber _) ?_; simp -dsimp only [go_sem, reduceIte, reduceCtorEq, Nat.reduceEqDiff, Nat.reduceLT, Nat.reduceLeDiff, Nat.reduceAdd, Nat.reduceMul, Nat.reduceSub, Int.reduceToNat, Int.reduceNeg, z11, z21, z22, z31, z32, z33, z41, z42, z43, z44, z12, cT3, cT4])
        | (refine And.intro (by first | rfl | omega | decide | (refine ⟨?_, ?_⟩ <;> (first | rfl | omega | decide)) | (refine ⟨?_, ?_, ?_⟩ <;> (first | rfl | omega | decide)) | (refine ⟨?_, ?_, ?_, ?_⟩ <;> (first | rfl | omega | decide))) ?_)
        | fail)

      all_goals (first | (simp_all [calT, cT3, cT4, nnB]; done) | (refine ret_eq ?_; simp_all [calT, cT3, cT4, nnB]))
  · refine Cd.impl_Calculate_ok.fn0 Tryd.mixed Cd.impl_Calculate_nt Cd.impl_Calculate_rs rfl fun X => ?_
    unfold Cd.impl_Calculate
    rcases quoT_cases a b with ⟨hc, hn⟩ | hc
    all_goals
      simp -dsimp only [go_sem, reduceIte, reduceCtorEq, Nat.reduceEqDiff, Nat.reduceLT, Nat.reduceLeDiff, Nat.reduceAdd, Nat.reduceMul, Nat.reduceSub, Int.reduceToNat, Int.reduceNeg, z11, z21, z22, z31, z32, z33, z41, z42, z43, z44, z12, cT3, cT4]
      repeat' (first
        | (refine RgK.mk rfl ?_; simp -dsimp only [go_sem, reduceIte, reduceCtorEq, Nat.reduceEqDiff, Nat.reduceLT, Nat.reduceLeDiff, Nat.reduceAdd, Nat.reduceMul, Nat.reduceSub, Int.reduceToNat, Int.reduceNeg, z11, z21, z22, z31, z32, z33, z41, z42, z43, z44, z12, cT3, cT4])
        | (refine Br.mk (fun h => ?_) (fun h => ?_) <;> simp -dsimp only [go_sem, reduceIte, reduceCtorEq, Nat.reduceEqDiff, Nat.reduceLT, Nat.reduceLeDiff, Nat.reduceAdd, Nat.reduceMul, Nat.reduceSub, Int.reduceToNat, Int.reduceNeg, h, z11, z21, z22, z31, z32, z33, z41, z42, z43, z44, z12, cT3, cT4])
        | (refine CallK.flat (by first | exact impl_ProductBy a b | exact impl_QuotientBy a b | exact isNumber _) rfl ?_; simp -dsimp only [go_sem, reduceIte, reduceCtorEq, Nat.reduceEqDiff, Nat.reduceLT, Nat.reduceLeDiff, Nat.reduceAdd, Nat.reduceMul, Nat.reduceSub, Int.reduceToNat, Int.reduceNeg, z11, z21, z22, z31, z32, z33, z41, z42, z43, z44, z12, cT3, cT4])
        | (refine CallK.pure (by first | exact impl_ProductBy a b | exact impl_QuotientBy a b | exact isNumber _) ?_; simp -dsimp only [go_sem, reduceIte, reduceCtorEq, Nat.reduceEqDiff, Nat.reduceLT, Nat.reduceLeDiff, Nat.reduceAdd, Nat.reduceMul, Nat.reduceSub, Int.reduceToNat, Int.reduceNeg, z11, z21, z22, z31, z32, z33, z41, z42, z43, z44, z12, cT3, cT4])
        | (refine And.intro (by first | rfl | omega | decide | (refine ⟨?_, ?_⟩ <;> (first | rfl | omega | decide)) | (refine ⟨?_, ?_, ?_⟩ <;> (first | rfl | omega | decide)) | (refine ⟨?_, ?_, ?_, ?_⟩ <;> (first | rfl | omega | decide))) ?_)
        | fail)

      all_goals (first | (simp_all [calT, cT3, cT4, nnB]; done) | (refine ret_eq ?_; simp_all [calT, cT3, cT4, nnB]))
end Go.Proofs.YthpokkcbbpapdaaDoor
