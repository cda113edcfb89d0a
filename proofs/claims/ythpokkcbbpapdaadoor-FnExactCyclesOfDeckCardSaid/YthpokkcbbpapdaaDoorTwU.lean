/- Quotients, both sides. -/
import Derived.Test.YthpokkcbbpapdaaDoorTwT
namespace Go.Proofs.YthpokkcbbpapdaaDoor
open Go.Vs
set_option linter.unusedSimpArgs false
set_option linter.unusedVariables false
attribute [local irreducible] Vs.Fn
theorem spec_QuotientBy (a b : Int) : Vs.Fn Tryd.prog F.spec_QuotientBy [] [.v (.int .i64 a), .v (.int .i64 b)] (.tup (cT4 (quoT a b))) [] := by
  refine Cd.spec_QuotientBy_ok.fn0 Tryd.mixed Cd.spec_QuotientBy_nt Cd.spec_QuotientBy_rs rfl fun X => ?_
  unfold Cd.spec_QuotientBy
  simp -dsimp only [go_sem, reduceIte, reduceCtorEq, Nat.reduceEqDiff, Nat.reduceLT, Nat.reduceLeDiff, Nat.reduceAdd, Nat.reduceMul, Nat.reduceSub, Int.reduceToNat, Int.reduceNeg]
  cases ha : inB a (-999999999999) 999999999999 with
  | false =>
    repeat' (first
      | (refine RgK.mk rfl ?_; simp -dsimp only [go_sem, reduceIte, reduceCtorEq, Nat.reduceEqDiff, Nat.reduceLT, Nat.reduceLeDiff, Nat.reduceAdd, Nat.reduceMul, Nat.reduceSub, Int.reduceToNat, Int.reduceNeg, ha])
      | (refine Br.mk (fun h => ?_) (fun h => ?_) <;> simp -dsimp only [go_sem, reduceIte, reduceCtorEq, Nat.reduceEqDiff, Nat.reduceLT, Nat.reduceLeDiff, Nat.reduceAdd, Nat.reduceMul, Nat.reduceSub, Int.reduceToNat, Int.reduceNeg, h, ha])
      | (refine CallK.flat (by first | exact l14Number _) rfl ?_; simp -dsimp only [go_sem, reduceIte, reduceCtorEq, Nat.reduceEqDiff, Nat.reduceLT, Nat.reduceLeDiff, Nat.reduceAdd, Nat.reduceMul, Nat.reduceSub, Int.reduceToNat, Int.reduceNeg, ha])
      | (refine CallK.pure (by first | exact l14Number _) ?_; simp -dsimp only [go_sem, reduceIte, reduceCtorEq, Nat.reduceEqDiff, Nat.reduceLT, Nat.reduceLeDiff, Nat.reduceAdd, Nat.reduceMul, Nat.reduceSub, Int.reduceToNat, Int.reduceNeg, ha])
      | (refine And.intro (by first | rfl | omega | decide | (refine ⟨?_, ?_⟩ <;> (first | rfl | omega | decide)) | (refine ⟨?_, ?_, ?_⟩ <;> (first | rfl | omega | decide)) | (refine ⟨?_, ?_, ?_, ?_⟩ <;> (first | rfl | omega | decide))) ?_)
      | fail)

    all_goals simp [quoT, nrB, ha, cT4]
  | true =>
    cases hb : inB b (-999999) 999999 with
    | false =>
      repeat' (first
        | (refine RgK.mk rfl ?_; simp -dsimp only [go_sem, reduceIte, reduceCtorEq, Nat.reduceEqDiff, Nat.reduceLT, Nat.reduceLeDiff, Nat.reduceAdd, Nat.reduceMul, Nat.reduceSub, Int.reduceToNat, Int.reduceNeg, ha, hb])
        | (refine Br.mk (fun h => ?_) (fun h => ?_) <;> simp -dsimp only [go_sem, reduceIte, reduceCtorEq, Nat.reduceEqDiff, Nat.reduceLT, Nat.reduceLeDiff, Nat.reduceAdd, Nat.reduceMul, Nat.reduceSub, Int.reduceToNat, Int.reduceNeg, h, ha, hb])
        | (refine CallK.flat (by first | exact l14Number _ | exact l14Factor _) rfl ?_; simp -dsimp only [go_sem, reduceIte, reduceCtorEq, Nat.reduceEqDiff, Nat.reduceLT, Nat.reduceLeDiff, Nat.reduceAdd, Nat.reduceMul, Nat.reduceSub, Int.reduceToNat, Int.reduceNeg, ha, hb])
        | (refine CallK.pure (by first | exact l14Number _ | exact l14Factor _) ?_; simp -dsimp only [go_sem, reduceIte, reduceCtorEq, Nat.reduceEqDiff, Nat.reduceLT, Nat.reduceLeDiff, Nat.reduceAdd, Nat.reduceMul, Nat.reduceSub, Int.reduceToNat, Int.reduceNeg, ha, hb])
        | (refine And.intro (by first | rfl | omega | decide | (refine ⟨?_, ?_⟩ <;> (first | rfl | omega | decide)) | (refine ⟨?_, ?_, ?_⟩ <;> (first | rfl | omega | decide)) | (refine ⟨?_, ?_, ?_, ?_⟩ <;> (first | rfl | omega | decide))) ?_)
        | fail)

      all_goals simp [quoT, nrB, ha, hb, cT4]
    | true =>
      have ga := nr_in ha
      have gb := fct_in hb
      by_cases hz : b = 0
      · have ez : (b == 0) = true := beq_iff_eq.2 hz
        have hT : quoT a b = (0, 0, 0, 6) := by unfold quoT nrB; rw [ha, hb]; simp [hz]
        repeat' (first
          | (refine RgK.mk rfl ?_; simp -dsimp only [go_sem, reduceIte, reduceCtorEq, Nat.reduceEqDiff, Nat.reduceLT, Nat.reduceLeDiff, Nat.reduceAdd, Nat.reduceMul, Nat.reduceSub, Int.reduceToNat, Int.reduceNeg, ha, hb, ez])
          | (refine Br.mk (fun h => ?_) (fun h => ?_) <;> simp -dsimp only [go_sem, reduceIte, reduceCtorEq, Nat.reduceEqDiff, Nat.reduceLT, Nat.reduceLeDiff, Nat.reduceAdd, Nat.reduceMul, Nat.reduceSub, Int.reduceToNat, Int.reduceNeg, h, ha, hb, ez])
          | (refine CallK.flat (by first | exact l14Number _ | exact l14Factor _) rfl ?_; simp -dsimp only [go_sem, reduceIte, reduceCtorEq, Nat.reduceEqDiff, Nat.reduceLT, Nat.reduceLeDiff, Nat.reduceAdd, Nat.reduceMul, Nat.reduceSub, Int.reduceToNat, Int.reduceNeg, ha, hb, ez])
          | (refine CallK.pure (by first | exact l14Number _ | exact l14Factor _) ?_; simp -dsimp only [go_sem, reduceIte, reduceCtorEq, Nat.reduceEqDiff, Nat.reduceLT, Nat.reduceLeDiff, Nat.reduceAdd, Nat.reduceMul, Nat.reduceSub, Int.reduceToNat, Int.reduceNeg, ha, hb, ez])
          | (refine And.intro (by first | rfl | omega | decide | (refine ⟨?_, ?_⟩ <;> (first | rfl | omega | decide)) | (refine ⟨?_, ?_, ?_⟩ <;> (first | rfl | omega | decide)) | (refine ⟨?_, ?_, ?_, ?_⟩ <;> (first | rfl | omega | decide))) ?_)
          | fail)

        all_goals simp [hT, cT4]
      · have ez : (b == 0) = false := beq_eq_false_iff_ne.2 hz
        obtain ⟨d1, d2, d3⟩ := div_sgn a b
        have hle := Nat.div_le_self a.natAbs b.natAbs
        have hml : a.natAbs % b.natAbs ≤ a.natAbs := Nat.mod_le _ _
        have hw1 : IntKind.i64.wrap (0 - ((a.natAbs / b.natAbs : Nat) : Int)) = -((a.natAbs / b.natAbs : Nat) : Int) := by
          generalize a.natAbs / b.natAbs = q at *
          rw [wrap_in (by omega) (by omega)]; omega
        have hw2 : IntKind.i64.wrap (0 - ((a.natAbs % b.natAbs : Nat) : Int)) = -((a.natAbs % b.natAbs : Nat) : Int) := by
          generalize a.natAbs % b.natAbs = q at *
          rw [wrap_in (by omega) (by omega)]; omega
        have hD := l14Divide a.natAbs b.natAbs (by omega) (by omega) (by omega)
        have hT : quoT a b = (a.tdiv b, a.tmod b, ((dsN (a.tdiv b).natAbs + Lib.nDigits (a.tdiv b).natAbs : Nat) : Int), 0) := by unfold quoT nrB; rw [ha, hb]; simp [hz]
        by_cases hA : a < 0 <;> by_cases hB : b < 0
        all_goals
          simp only [hA, hB, decide_true, decide_false, bne_self_eq_false, Bool.false_eq_true, if_false, if_true, Bool.true_bne, Bool.false_bne, Bool.not_true, Bool.not_false] at d2 d3
          have hn : decide (a < 0) = decide (a < 0) := rfl
          have hT2 := hT
          rw [d1, d2, d3] at hT2
          repeat' (first
            | (refine RgK.mk rfl ?_; simp -dsimp only [go_sem, reduceIte, reduceCtorEq, Nat.reduceEqDiff, Nat.reduceLT, Nat.reduceLeDiff, Nat.reduceAdd, Nat.reduceMul, Nat.reduceSub, Int.reduceToNat, Int.reduceNeg, ha, hb, ez, hA, hB, hw1, hw2, Bool.true_beq, Bool.false_beq, decide_true, decide_false, Bool.not_true, Bool.not_false])
            | (refine Br.mk (fun h => ?_) (fun h => ?_) <;> simp -dsimp only [go_sem, reduceIte, reduceCtorEq, Nat.reduceEqDiff, Nat.reduceLT, Nat.reduceLeDiff, Nat.reduceAdd, Nat.reduceMul, Nat.reduceSub, Int.reduceToNat, Int.reduceNeg, h, ha, hb, ez, hA, hB, hw1, hw2, Bool.true_beq, Bool.false_beq, decide_true, decide_false, Bool.not_true, Bool.not_false])
            | (refine CallK.flat (by first | exact l14Number _ | exact l14Factor _ | exact l14Size _ (by omega) (by omega) | exact hD) rfl ?_; simp -dsimp only [go_sem, reduceIte, reduceCtorEq, Nat.reduceEqDiff, Nat.reduceLT, Nat.reduceLeDiff, Nat.reduceAdd, Nat.reduceMul, Nat.reduceSub, Int.reduceToNat, Int.reduceNeg, ha, hb, ez, hA, hB, hw1, hw2, Bool.true_beq, Bool.false_beq, decide_true, decide_false, Bool.not_true, Bool.not_false])
            | (refine CallK.pure (by first | exact l14Number _ | exact l14Factor _ | exact l14Size _ (by omega) (by omega) | exact hD) ?_; simp -dsimp only [go_sem, reduceIte, reduceCtorEq, Nat.reduceEqDiff, Nat.reduceLT, Nat.reduceLeDiff, Nat.reduceAdd, Nat.reduceMul, Nat.reduceSub, Int.reduceToNat, Int.reduceNeg, ha, hb, ez, hA, hB, hw1, hw2, Bool.true_beq, Bool.false_beq, decide_true, decide_false, Bool.not_true, Bool.not_false])
            | (refine And.intro (by first | rfl | omega | decide | (refine ⟨?_, ?_⟩ <;> (first | rfl | omega | decide)) | (refine ⟨?_, ?_, ?_⟩ <;> (first | rfl | omega | decide)) | (refine ⟨?_, ?_, ?_, ?_⟩ <;> (first | rfl | omega | decide))) ?_)
            | fail)

          all_goals simp [hT2, cT4]

theorem impl_QuotientBy (a b : Int) : Vs.Fn Tryd.prog F.impl_QuotientBy [] [.v (.int .i64 a), .v (.int .i64 b)] (.tup (cT4 (quoT a b))) [] := by
  refine Cd.impl_QuotientBy_ok.fn0 Tryd.mixed Cd.impl_QuotientBy_nt Cd.impl_QuotientBy_rs rfl fun X => ?_
  unfold Cd.impl_QuotientBy
  simp -dsimp only [go_sem, reduceIte, reduceCtorEq, Nat.reduceEqDiff, Nat.reduceLT, Nat.reduceLeDiff, Nat.reduceAdd, Nat.reduceMul, Nat.reduceSub, Int.reduceToNat, Int.reduceNeg]
  cases ha : inB a (-999999999999) 999999999999 with
  | false =>
    repeat' (first
      | (refine RgK.mk rfl ?_; simp -dsimp only [go_sem, reduceIte, reduceCtorEq, Nat.reduceEqDiff, Nat.reduceLT, Nat.reduceLeDiff, Nat.reduceAdd, Nat.reduceMul, Nat.reduceSub, Int.reduceToNat, Int.reduceNeg, ha])
      | (refine Br.mk (fun h => ?_) (fun h => ?_) <;> simp -dsimp only [go_sem, reduceIte, reduceCtorEq, Nat.reduceEqDiff, Nat.reduceLT, Nat.reduceLeDiff, Nat.reduceAdd, Nat.reduceMul, Nat.reduceSub, Int.reduceToNat, Int.reduceNeg, h, ha])
      | (refine CallK.flat (by first | exact isNumber _) rfl ?_; simp -dsimp only [go_sem, reduceIte, reduceCtorEq, Nat.reduceEqDiff, Nat.reduceLT, Nat.reduceLeDiff, Nat.reduceAdd, Nat.reduceMul, Nat.reduceSub, Int.reduceToNat, Int.reduceNeg, ha])
      | (refine CallK.pure (by first | exact isNumber _) ?_; simp -dsimp only [go_sem, reduceIte, reduceCtorEq, Nat.reduceEqDiff, Nat.reduceLT, Nat.reduceLeDiff, Nat.reduceAdd, Nat.reduceMul, Nat.reduceSub, Int.reduceToNat, Int.reduceNeg, ha])
      | (refine And.intro (by first | rfl | omega | decide | (refine ⟨?_, ?_⟩ <;> (first | rfl | omega | decide)) | (refine ⟨?_, ?_, ?_⟩ <;> (first | rfl | omega | decide)) | (refine ⟨?_, ?_, ?_, ?_⟩ <;> (first | rfl | omega | decide))) ?_)
      | fail)

    all_goals simp [quoT, nrB, ha, cT4]
  | true =>
    cases hb : inB b (-999999) 999999 with
    | false =>
      repeat' (first
        | (refine RgK.mk rfl ?_; simp -dsimp only [go_sem, reduceIte, reduceCtorEq, Nat.reduceEqDiff, Nat.reduceLT, Nat.reduceLeDiff, Nat.reduceAdd, Nat.reduceMul, Nat.reduceSub, Int.reduceToNat, Int.reduceNeg, ha, hb])
        | (refine Br.mk (fun h => ?_) (fun h => ?_) <;> simp -dsimp only [go_sem, reduceIte, reduceCtorEq, Nat.reduceEqDiff, Nat.reduceLT, Nat.reduceLeDiff, Nat.reduceAdd, Nat.reduceMul, Nat.reduceSub, Int.reduceToNat, Int.reduceNeg, h, ha, hb])
        | (refine CallK.flat (by first | exact isNumber _ | exact isFactor _) rfl ?_; simp -dsimp only [go_sem, reduceIte, reduceCtorEq, Nat.reduceEqDiff, Nat.reduceLT, Nat.reduceLeDiff, Nat.reduceAdd, Nat.reduceMul, Nat.reduceSub, Int.reduceToNat, Int.reduceNeg, ha, hb])
        | (refine CallK.pure (by first | exact isNumber _ | exact isFactor _) ?_; simp -dsimp only [go_sem, reduceIte, reduceCtorEq, Nat.reduceEqDiff, Nat.reduceLT, Nat.reduceLeDiff, Nat.reduceAdd, Nat.reduceMul, Nat.reduceSub, Int.reduceToNat, Int.reduceNeg, ha, hb])
        | (refine And.intro (by first | rfl | omega | decide | (refine ⟨?_, ?_⟩ <;> (first | rfl | omega | decide)) | (refine ⟨?_, ?_, ?_⟩ <;> (first | rfl | omega | decide)) | (refine ⟨?_, ?_, ?_, ?_⟩ <;> (first | rfl | omega | decide))) ?_)
        | fail)

      all_goals simp [quoT, nrB, ha, hb, cT4]
    | true =>
      have ga := nr_in ha
      have gb := fct_in hb
      by_cases hz : b = 0
      · have ez : (b == 0) = true := beq_iff_eq.2 hz
        have hT : quoT a b = (0, 0, 0, 6) := by unfold quoT nrB; rw [ha, hb]; simp [hz]
        repeat' (first
          | (refine RgK.mk rfl ?_; simp -dsimp only [go_sem, reduceIte, reduceCtorEq, Nat.reduceEqDiff, Nat.reduceLT, Nat.reduceLeDiff, Nat.reduceAdd, Nat.reduceMul, Nat.reduceSub, Int.reduceToNat, Int.reduceNeg, ha, hb, ez])
          | (refine Br.mk (fun h => ?_) (fun h => ?_) <;> simp -dsimp only [go_sem, reduceIte, reduceCtorEq, Nat.reduceEqDiff, Nat.reduceLT, Nat.reduceLeDiff, Nat.reduceAdd, Nat.reduceMul, Nat.reduceSub, Int.reduceToNat, Int.reduceNeg, h, ha, hb, ez])
          | (refine CallK.flat (by first | exact isNumber _ | exact isFactor _) rfl ?_; simp -dsimp only [go_sem, reduceIte, reduceCtorEq, Nat.reduceEqDiff, Nat.reduceLT, Nat.reduceLeDiff, Nat.reduceAdd, Nat.reduceMul, Nat.reduceSub, Int.reduceToNat, Int.reduceNeg, ha, hb, ez])
          | (refine CallK.pure (by first | exact isNumber _ | exact isFactor _) ?_; simp -dsimp only [go_sem, reduceIte, reduceCtorEq, Nat.reduceEqDiff, Nat.reduceLT, Nat.reduceLeDiff, Nat.reduceAdd, Nat.reduceMul, Nat.reduceSub, Int.reduceToNat, Int.reduceNeg, ha, hb, ez])
          | (refine And.intro (by first | rfl | omega | decide | (refine ⟨?_, ?_⟩ <;> (first | rfl | omega | decide)) | (refine ⟨?_, ?_, ?_⟩ <;> (first | rfl | omega | decide)) | (refine ⟨?_, ?_, ?_, ?_⟩ <;> (first | rfl | omega | decide))) ?_)
          | fail)

        all_goals simp [hT, cT4]
      · have ez : (b == 0) = false := beq_eq_false_iff_ne.2 hz
        obtain ⟨d1, d2, d3⟩ := div_sgn a b
        have hle := Nat.div_le_self a.natAbs b.natAbs
        have hml : a.natAbs % b.natAbs ≤ a.natAbs := Nat.mod_le _ _
        have hT : quoT a b = (a.tdiv b, a.tmod b, ((dsN (a.tdiv b).natAbs + Lib.nDigits (a.tdiv b).natAbs : Nat) : Int), 0) := by unfold quoT nrB; rw [ha, hb]; simp [hz]
        have hqa : (a.tdiv b).natAbs ≤ a.natAbs := by rw [d1]; exact hle
        have hbz : b ≠ 0 := hz
        clear d2 d3 d1
        obtain ⟨q, hq⟩ : ∃ q, a.tdiv b = q := ⟨_, rfl⟩
        rw [hq] at hT hqa
        have hw1 : IntKind.i64.wrap q = q := wrap_in (by omega) (by omega)
        have hds := dsN_le q.natAbs
        have hnd := nDigits_le (n := q.natAbs) (by omega)
        have hlen := wl_length (Lib.nDigits q.natAbs) q.natAbs
        have hw2 : IntKind.i64.wrap ((dsN q.natAbs : Int) + ((Lib.nDigits q.natAbs : Nat) : Int)) = ((dsN q.natAbs + Lib.nDigits q.natAbs : Nat) : Int) := by rw [wrap_in (by omega) (by omega)]; omega
        skip
        repeat' (first
          | (refine RgK.mk rfl ?_; simp -dsimp only [go_sem, reduceIte, reduceCtorEq, Nat.reduceEqDiff, Nat.reduceLT, Nat.reduceLeDiff, Nat.reduceAdd, Nat.reduceMul, Nat.reduceSub, Int.reduceToNat, Int.reduceNeg, ha, hb, ez, hq, hw1, hw2, hlen])
          | (refine Br.mk (fun h => ?_) (fun h => ?_) <;> simp -dsimp only [go_sem, reduceIte, reduceCtorEq, Nat.reduceEqDiff, Nat.reduceLT, Nat.reduceLeDiff, Nat.reduceAdd, Nat.reduceMul, Nat.reduceSub, Int.reduceToNat, Int.reduceNeg, h, ha, hb, ez, hq, hw1, hw2, hlen])
          | (refine CallK.flat (by first | exact isNumber _ | exact isFactor _ | exact digitSum q (by omega) (by omega) | exact digitList q (by omega) (by omega) | exact sizeI _) rfl ?_; simp -dsimp only [go_sem, reduceIte, reduceCtorEq, Nat.reduceEqDiff, Nat.reduceLT, Nat.reduceLeDiff, Nat.reduceAdd, Nat.reduceMul, Nat.reduceSub, Int.reduceToNat, Int.reduceNeg, ha, hb, ez, hq, hw1, hw2, hlen])
          | (refine CallK.pure (by first | exact isNumber _ | exact isFactor _ | exact digitSum q (by omega) (by omega) | exact digitList q (by omega) (by omega) | exact sizeI _) ?_; simp -dsimp only [go_sem, reduceIte, reduceCtorEq, Nat.reduceEqDiff, Nat.reduceLT, Nat.reduceLeDiff, Nat.reduceAdd, Nat.reduceMul, Nat.reduceSub, Int.reduceToNat, Int.reduceNeg, ha, hb, ez, hq, hw1, hw2, hlen])
          | (refine And.intro (by first | rfl | omega | decide | exact hbz | exact ⟨rfl, hbz⟩ | (refine ⟨?_, ?_⟩ <;> (first | rfl | omega | decide | exact hbz | exact ⟨rfl, hbz⟩)) | (refine ⟨?_, ?_, ?_⟩ <;> (first | rfl | omega | decide | exact hbz | exact ⟨rfl, hbz⟩)) | (refine ⟨?_, ?_, ?_, ?_⟩ <;> (first | rfl | omega | decide | exact hbz | exact ⟨rfl, hbz⟩))) ?_)
          | fail)

        all_goals simp [hT, cT4]

end Go.Proofs.YthpokkcbbpapdaaDoor
