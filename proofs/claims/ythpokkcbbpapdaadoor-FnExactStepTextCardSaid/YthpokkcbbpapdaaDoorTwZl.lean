/- The texts of steps, as the program gives them. -/
import Derived.Test.YthpokkcbbpapdaaDoorTwZk
namespace Go.Proofs.YthpokkcbbpapdaaDoor
open Go.Vs
set_option linter.unusedSimpArgs false
set_option linter.unusedVariables false
attribute [local irreducible] Vs.Fn chOK areCh chTo chAt l03
set_option maxHeartbeats 4000000 in
theorem impl_StepText (x : Stp) (hs : x.text.size ≤ 1048576) : Vs.Fn Tryd.prog F.impl_StepText [] [.agg (cS x)] (.v (.string (stT x))) [] := by
  have i20 : inB 20 1 20 = true := by decide
  cases hk : stpB x 20
  · have hT : stT x = ⟨#[]⟩ := by simp [stT, hk]
    rw [hT]
    refine Cd.impl_StepText_ok.fn0 Tryd.mixed Cd.impl_StepText_nt Cd.impl_StepText_rs rfl fun X => ?_
    unfold Cd.impl_StepText
    simp -dsimp only [go_sem, reduceIte, reduceCtorEq, Nat.reduceEqDiff, Nat.reduceLT, Nat.reduceLeDiff, Nat.reduceAdd, Nat.reduceMul, Nat.reduceSub, Int.reduceToNat, Int.reduceNeg, cS, hk]
    repeat' (first
      | (refine RgK.mk rfl ?_; simp -dsimp only [go_sem, reduceIte, reduceCtorEq, Nat.reduceEqDiff, Nat.reduceLT, Nat.reduceLeDiff, Nat.reduceAdd, Nat.reduceMul, Nat.reduceSub, Int.reduceToNat, Int.reduceNeg, cS, hk, i20, Bool.and_false, Bool.and_true])
      | (refine Br.mk (fun h => ?_) (fun h => ?_) <;> simp -dsimp only [go_sem, reduceIte, reduceCtorEq, Nat.reduceEqDiff, Nat.reduceLT, Nat.reduceLeDiff, Nat.reduceAdd, Nat.reduceMul, Nat.reduceSub, Int.reduceToNat, Int.reduceNeg, h, cS, hk, i20, Bool.and_false, Bool.and_true])
      | (refine CallK.flat (by first | exact impl_ValidStep x _ hs) rfl ?_; simp -dsimp only [go_sem, reduceIte, reduceCtorEq, Nat.reduceEqDiff, Nat.reduceLT, Nat.reduceLeDiff, Nat.reduceAdd, Nat.reduceMul, Nat.reduceSub, Int.reduceToNat, Int.reduceNeg, cS, hk, i20, Bool.and_false, Bool.and_true])
      | (refine CallK.pure (by first | exact impl_ValidStep x _ hs) ?_; simp -dsimp only [go_sem, reduceIte, reduceCtorEq, Nat.reduceEqDiff, Nat.reduceLT, Nat.reduceLeDiff, Nat.reduceAdd, Nat.reduceMul, Nat.reduceSub, Int.reduceToNat, Int.reduceNeg, cS, hk, i20, Bool.and_false, Bool.and_true])
      | (refine And.intro (by first | rfl | omega | decide | (refine ⟨?_, ?_⟩ <;> (first | rfl | omega | decide)) | (refine ⟨?_, ?_, ?_⟩ <;> (first | rfl | omega | decide)) | (refine ⟨?_, ?_, ?_, ?_⟩ <;> (first | rfl | omega | decide))) ?_)
      | fail)
    all_goals exact ret_eq rfl
  · have hT : stT x = stX x := by simp [stT, hk]
    rw [hT]
    obtain ⟨⟨a1, a2, a3⟩, ⟨a4, a5⟩, ⟨a6, a7⟩, hkd⟩ := stpB_rng hk
    have d1 := dcl_size a1.1 a1.2
    have d2 := dcl_size a2.1 a2.2
    have d3 := dcl_size a3.1 a3.2
    have d4 := spnX_size a4 a5
    have d5 := spnX_size a6 a7
    rcases hkd with h | h | h | h | h | h | h
    · obtain ⟨xk, xa, xb, xt, xf0, xf1, xs0, xs1, xtx⟩ := x
      dsimp only at h
      subst h
      dsimp only at a1 a2 a3 a4 a5 a6 a7 d1 d2 d3 d4 d5 hs
      have e5 : ((1 : Int) == 5) = false := rfl
      have e7 : ((1 : Int) == 7) = false := rfl
      have hB : inB 1 2 4 = false := by decide
      have wk : IntKind.i64.wrap ((1 : Int) - 1) = 0 := by decide
      refine Cd.impl_StepText_ok.fn0 Tryd.mixed Cd.impl_StepText_nt Cd.impl_StepText_rs rfl fun X => ?_
      unfold Cd.impl_StepText
      simp -dsimp only [go_sem, reduceIte, reduceCtorEq, Nat.reduceEqDiff, Nat.reduceLT, Nat.reduceLeDiff, Nat.reduceAdd, Nat.reduceMul, Nat.reduceSub, Int.reduceToNat, Int.reduceNeg, cS, hk]
      repeat' (first
        | (refine RgK.mk rfl ?_; simp -dsimp only [go_sem, reduceIte, reduceCtorEq, Nat.reduceEqDiff, Nat.reduceLT, Nat.reduceLeDiff, Nat.reduceAdd, Nat.reduceMul, Nat.reduceSub, Int.reduceToNat, Int.reduceNeg, e5, e7, hB, wk, Int.reduceToNat, List.getD_cons_zero, List.getD_cons_succ, cS, hk, i20, Bool.and_false, Bool.and_true, List.replicate_succ, List.replicate_zero, List.flatten_cons, List.flatten_nil, List.cons_append, List.nil_append, List.set_cons_zero, List.set_cons_succ, List.length_cons, List.length_nil, List.length_set])
        | (refine Br.mk (fun h => ?_) (fun h => ?_) <;> simp -dsimp only [go_sem, reduceIte, reduceCtorEq, Nat.reduceEqDiff, Nat.reduceLT, Nat.reduceLeDiff, Nat.reduceAdd, Nat.reduceMul, Nat.reduceSub, Int.reduceToNat, Int.reduceNeg, h, e5, e7, hB, wk, Int.reduceToNat, List.getD_cons_zero, List.getD_cons_succ, cS, hk, i20, Bool.and_false, Bool.and_true, List.replicate_succ, List.replicate_zero, List.flatten_cons, List.flatten_nil, List.cons_append, List.nil_append, List.set_cons_zero, List.set_cons_succ, List.length_cons, List.length_nil, List.length_set])
        | (refine CallK.flat (by first | exact impl_ValidStep ⟨1, xa, xb, xt, xf0, xf1, xs0, xs1, xtx⟩ _ hs | exact decimalA xa a1.1 a1.2 | exact decimalA xb a2.1 a2.2 | exact decimalA xt a3.1 a3.2 | exact span xf0 xf1 a4 a5 | exact span xs0 xs1 a6 a7 | exact takesTwo _) rfl ?_; simp -dsimp only [go_sem, reduceIte, reduceCtorEq, Nat.reduceEqDiff, Nat.reduceLT, Nat.reduceLeDiff, Nat.reduceAdd, Nat.reduceMul, Nat.reduceSub, Int.reduceToNat, Int.reduceNeg, e5, e7, hB, wk, Int.reduceToNat, List.getD_cons_zero, List.getD_cons_succ, cS, hk, i20, Bool.and_false, Bool.and_true, List.replicate_succ, List.replicate_zero, List.flatten_cons, List.flatten_nil, List.cons_append, List.nil_append, List.set_cons_zero, List.set_cons_succ, List.length_cons, List.length_nil, List.length_set])
        | (refine CallK.pure (by first | exact impl_ValidStep ⟨1, xa, xb, xt, xf0, xf1, xs0, xs1, xtx⟩ _ hs | exact decimalA xa a1.1 a1.2 | exact decimalA xb a2.1 a2.2 | exact decimalA xt a3.1 a3.2 | exact span xf0 xf1 a4 a5 | exact span xs0 xs1 a6 a7 | exact takesTwo _) ?_; simp -dsimp only [go_sem, reduceIte, reduceCtorEq, Nat.reduceEqDiff, Nat.reduceLT, Nat.reduceLeDiff, Nat.reduceAdd, Nat.reduceMul, Nat.reduceSub, Int.reduceToNat, Int.reduceNeg, e5, e7, hB, wk, Int.reduceToNat, List.getD_cons_zero, List.getD_cons_succ, cS, hk, i20, Bool.and_false, Bool.and_true, List.replicate_succ, List.replicate_zero, List.flatten_cons, List.flatten_nil, List.cons_append, List.nil_append, List.set_cons_zero, List.set_cons_succ, List.length_cons, List.length_nil, List.length_set])
        | (refine And.intro (by first | rfl | omega | decide | exact (by simp only [ByteArray.size_append, bsz, List.size_toArray, List.length_cons, List.length_nil]; omega) | (refine ⟨?_, ?_⟩ <;> (first | rfl | omega | decide | exact (by simp only [ByteArray.size_append, bsz, List.size_toArray, List.length_cons, List.length_nil]; omega))) | (refine ⟨?_, ?_, ?_⟩ <;> (first | rfl | omega | decide | exact (by simp only [ByteArray.size_append, bsz, List.size_toArray, List.length_cons, List.length_nil]; omega))) | (refine ⟨?_, ?_, ?_, ?_⟩ <;> (first | rfl | omega | decide | exact (by simp only [ByteArray.size_append, bsz, List.size_toArray, List.length_cons, List.length_nil]; omega)))) ?_)
        | fail)
      all_goals exact ret_eq (by simp only [stX, stF, stG, stH, stW, hB]; rfl)
    · obtain ⟨xk, xa, xb, xt, xf0, xf1, xs0, xs1, xtx⟩ := x
      dsimp only at h
      subst h
      dsimp only at a1 a2 a3 a4 a5 a6 a7 d1 d2 d3 d4 d5 hs
      have e5 : ((2 : Int) == 5) = false := rfl
      have e7 : ((2 : Int) == 7) = false := rfl
      have hB : inB 2 2 4 = true := by decide
      have wk : IntKind.i64.wrap ((2 : Int) - 1) = 1 := by decide
      refine Cd.impl_StepText_ok.fn0 Tryd.mixed Cd.impl_StepText_nt Cd.impl_StepText_rs rfl fun X => ?_
      unfold Cd.impl_StepText
      simp -dsimp only [go_sem, reduceIte, reduceCtorEq, Nat.reduceEqDiff, Nat.reduceLT, Nat.reduceLeDiff, Nat.reduceAdd, Nat.reduceMul, Nat.reduceSub, Int.reduceToNat, Int.reduceNeg, cS, hk]
      repeat' (first
        | (refine RgK.mk rfl ?_; simp -dsimp only [go_sem, reduceIte, reduceCtorEq, Nat.reduceEqDiff, Nat.reduceLT, Nat.reduceLeDiff, Nat.reduceAdd, Nat.reduceMul, Nat.reduceSub, Int.reduceToNat, Int.reduceNeg, e5, e7, hB, wk, Int.reduceToNat, List.getD_cons_zero, List.getD_cons_succ, cS, hk, i20, Bool.and_false, Bool.and_true, List.replicate_succ, List.replicate_zero, List.flatten_cons, List.flatten_nil, List.cons_append, List.nil_append, List.set_cons_zero, List.set_cons_succ, List.length_cons, List.length_nil, List.length_set])
        | (refine Br.mk (fun h => ?_) (fun h => ?_) <;> simp -dsimp only [go_sem, reduceIte, reduceCtorEq, Nat.reduceEqDiff, Nat.reduceLT, Nat.reduceLeDiff, Nat.reduceAdd, Nat.reduceMul, Nat.reduceSub, Int.reduceToNat, Int.reduceNeg, h, e5, e7, hB, wk, Int.reduceToNat, List.getD_cons_zero, List.getD_cons_succ, cS, hk, i20, Bool.and_false, Bool.and_true, List.replicate_succ, List.replicate_zero, List.flatten_cons, List.flatten_nil, List.cons_append, List.nil_append, List.set_cons_zero, List.set_cons_succ, List.length_cons, List.length_nil, List.length_set])
        | (refine CallK.flat (by first | exact impl_ValidStep ⟨2, xa, xb, xt, xf0, xf1, xs0, xs1, xtx⟩ _ hs | exact decimalA xa a1.1 a1.2 | exact decimalA xb a2.1 a2.2 | exact decimalA xt a3.1 a3.2 | exact span xf0 xf1 a4 a5 | exact span xs0 xs1 a6 a7 | exact takesTwo _) rfl ?_; simp -dsimp only [go_sem, reduceIte, reduceCtorEq, Nat.reduceEqDiff, Nat.reduceLT, Nat.reduceLeDiff, Nat.reduceAdd, Nat.reduceMul, Nat.reduceSub, Int.reduceToNat, Int.reduceNeg, e5, e7, hB, wk, Int.reduceToNat, List.getD_cons_zero, List.getD_cons_succ, cS, hk, i20, Bool.and_false, Bool.and_true, List.replicate_succ, List.replicate_zero, List.flatten_cons, List.flatten_nil, List.cons_append, List.nil_append, List.set_cons_zero, List.set_cons_succ, List.length_cons, List.length_nil, List.length_set])
        | (refine CallK.pure (by first | exact impl_ValidStep ⟨2, xa, xb, xt, xf0, xf1, xs0, xs1, xtx⟩ _ hs | exact decimalA xa a1.1 a1.2 | exact decimalA xb a2.1 a2.2 | exact decimalA xt a3.1 a3.2 | exact span xf0 xf1 a4 a5 | exact span xs0 xs1 a6 a7 | exact takesTwo _) ?_; simp -dsimp only [go_sem, reduceIte, reduceCtorEq, Nat.reduceEqDiff, Nat.reduceLT, Nat.reduceLeDiff, Nat.reduceAdd, Nat.reduceMul, Nat.reduceSub, Int.reduceToNat, Int.reduceNeg, e5, e7, hB, wk, Int.reduceToNat, List.getD_cons_zero, List.getD_cons_succ, cS, hk, i20, Bool.and_false, Bool.and_true, List.replicate_succ, List.replicate_zero, List.flatten_cons, List.flatten_nil, List.cons_append, List.nil_append, List.set_cons_zero, List.set_cons_succ, List.length_cons, List.length_nil, List.length_set])
        | (refine And.intro (by first | rfl | omega | decide | exact (by simp only [ByteArray.size_append, bsz, List.size_toArray, List.length_cons, List.length_nil]; omega) | (refine ⟨?_, ?_⟩ <;> (first | rfl | omega | decide | exact (by simp only [ByteArray.size_append, bsz, List.size_toArray, List.length_cons, List.length_nil]; omega))) | (refine ⟨?_, ?_, ?_⟩ <;> (first | rfl | omega | decide | exact (by simp only [ByteArray.size_append, bsz, List.size_toArray, List.length_cons, List.length_nil]; omega))) | (refine ⟨?_, ?_, ?_, ?_⟩ <;> (first | rfl | omega | decide | exact (by simp only [ByteArray.size_append, bsz, List.size_toArray, List.length_cons, List.length_nil]; omega)))) ?_)
        | fail)
      all_goals exact ret_eq (by simp only [stX, stF, stG, stH, stW, hB]; rfl)
    · obtain ⟨xk, xa, xb, xt, xf0, xf1, xs0, xs1, xtx⟩ := x
      dsimp only at h
      subst h
      dsimp only at a1 a2 a3 a4 a5 a6 a7 d1 d2 d3 d4 d5 hs
      have e5 : ((3 : Int) == 5) = false := rfl
      have e7 : ((3 : Int) == 7) = false := rfl
      have hB : inB 3 2 4 = true := by decide
      have wk : IntKind.i64.wrap ((3 : Int) - 1) = 2 := by decide
      refine Cd.impl_StepText_ok.fn0 Tryd.mixed Cd.impl_StepText_nt Cd.impl_StepText_rs rfl fun X => ?_
      unfold Cd.impl_StepText
      simp -dsimp only [go_sem, reduceIte, reduceCtorEq, Nat.reduceEqDiff, Nat.reduceLT, Nat.reduceLeDiff, Nat.reduceAdd, Nat.reduceMul, Nat.reduceSub, Int.reduceToNat, Int.reduceNeg, cS, hk]
      repeat' (first
        | (refine RgK.mk rfl ?_; simp -dsimp only [go_sem, reduceIte, reduceCtorEq, Nat.reduceEqDiff, Nat.reduceLT, Nat.reduceLeDiff, Nat.reduceAdd, Nat.reduceMul, Nat.reduceSub, Int.reduceToNat, Int.reduceNeg, e5, e7, hB, wk, Int.reduceToNat, List.getD_cons_zero, List.getD_cons_succ, cS, hk, i20, Bool.and_false, Bool.and_true, List.replicate_succ, List.replicate_zero, List.flatten_cons, List.flatten_nil, List.cons_append, List.nil_append, List.set_cons_zero, List.set_cons_succ, List.length_cons, List.length_nil, List.length_set])
        | (refine Br.mk (fun h => ?_) (fun h => ?_) <;> simp -dsimp only [go_sem, reduceIte, reduceCtorEq, Nat.reduceEqDiff, Nat.reduceLT, Nat.reduceLeDiff, Nat.reduceAdd, Nat.reduceMul, Nat.reduceSub, Int.reduceToNat, Int.reduceNeg, h, e5, e7, hB, wk, Int.reduceToNat, List.getD_cons_zero, List.getD_cons_succ, cS, hk, i20, Bool.and_false, Bool.and_true, List.replicate_succ, List.replicate_zero, List.flatten_cons, List.flatten_nil, List.cons_append, List.nil_append, List.set_cons_zero, List.set_cons_succ, List.length_cons, List.length_nil, List.length_set])
        | (refine CallK.flat (by first | exact impl_ValidStep ⟨3, xa, xb, xt, xf0, xf1, xs0, xs1, xtx⟩ _ hs | exact decimalA xa a1.1 a1.2 | exact decimalA xb a2.1 a2.2 | exact decimalA xt a3.1 a3.2 | exact span xf0 xf1 a4 a5 | exact span xs0 xs1 a6 a7 | exact takesTwo _) rfl ?_; simp -dsimp only [go_sem, reduceIte, reduceCtorEq, Nat.reduceEqDiff, Nat.reduceLT, Nat.reduceLeDiff, Nat.reduceAdd, Nat.reduceMul, Nat.reduceSub, Int.reduceToNat, Int.reduceNeg, e5, e7, hB, wk, Int.reduceToNat, List.getD_cons_zero, List.getD_cons_succ, cS, hk, i20, Bool.and_false, Bool.and_true, List.replicate_succ, List.replicate_zero, List.flatten_cons, List.flatten_nil, List.cons_append, List.nil_append, List.set_cons_zero, List.set_cons_succ, List.length_cons, List.length_nil, List.length_set])
        | (refine CallK.pure (by first | exact impl_ValidStep ⟨3, xa, xb, xt, xf0, xf1, xs0, xs1, xtx⟩ _ hs | exact decimalA xa a1.1 a1.2 | exact decimalA xb a2.1 a2.2 | exact decimalA xt a3.1 a3.2 | exact span xf0 xf1 a4 a5 | exact span xs0 xs1 a6 a7 | exact takesTwo _) ?_; simp -dsimp only [go_sem, reduceIte, reduceCtorEq, Nat.reduceEqDiff, Nat.reduceLT, Nat.reduceLeDiff, Nat.reduceAdd, Nat.reduceMul, Nat.reduceSub, Int.reduceToNat, Int.reduceNeg, e5, e7, hB, wk, Int.reduceToNat, List.getD_cons_zero, List.getD_cons_succ, cS, hk, i20, Bool.and_false, Bool.and_true, List.replicate_succ, List.replicate_zero, List.flatten_cons, List.flatten_nil, List.cons_append, List.nil_append, List.set_cons_zero, List.set_cons_succ, List.length_cons, List.length_nil, List.length_set])
        | (refine And.intro (by first | rfl | omega | decide | exact (by simp only [ByteArray.size_append, bsz, List.size_toArray, List.length_cons, List.length_nil]; omega) | (refine ⟨?_, ?_⟩ <;> (first | rfl | omega | decide | exact (by simp only [ByteArray.size_append, bsz, List.size_toArray, List.length_cons, List.length_nil]; omega))) | (refine ⟨?_, ?_, ?_⟩ <;> (first | rfl | omega | decide | exact (by simp only [ByteArray.size_append, bsz, List.size_toArray, List.length_cons, List.length_nil]; omega))) | (refine ⟨?_, ?_, ?_, ?_⟩ <;> (first | rfl | omega | decide | exact (by simp only [ByteArray.size_append, bsz, List.size_toArray, List.length_cons, List.length_nil]; omega)))) ?_)
        | fail)
      all_goals exact ret_eq (by simp only [stX, stF, stG, stH, stW, hB]; rfl)
    · obtain ⟨xk, xa, xb, xt, xf0, xf1, xs0, xs1, xtx⟩ := x
      dsimp only at h
      subst h
      dsimp only at a1 a2 a3 a4 a5 a6 a7 d1 d2 d3 d4 d5 hs
      have e5 : ((4 : Int) == 5) = false := rfl
      have e7 : ((4 : Int) == 7) = false := rfl
      have hB : inB 4 2 4 = true := by decide
      have wk : IntKind.i64.wrap ((4 : Int) - 1) = 3 := by decide
      refine Cd.impl_StepText_ok.fn0 Tryd.mixed Cd.impl_StepText_nt Cd.impl_StepText_rs rfl fun X => ?_
      unfold Cd.impl_StepText
      simp -dsimp only [go_sem, reduceIte, reduceCtorEq, Nat.reduceEqDiff, Nat.reduceLT, Nat.reduceLeDiff, Nat.reduceAdd, Nat.reduceMul, Nat.reduceSub, Int.reduceToNat, Int.reduceNeg, cS, hk]
      repeat' (first
        | (refine RgK.mk rfl ?_; simp -dsimp only [go_sem, reduceIte, reduceCtorEq, Nat.reduceEqDiff, Nat.reduceLT, Nat.reduceLeDiff, Nat.reduceAdd, Nat.reduceMul, Nat.reduceSub, Int.reduceToNat, Int.reduceNeg, e5, e7, hB, wk, Int.reduceToNat, List.getD_cons_zero, List.getD_cons_succ, cS, hk, i20, Bool.and_false, Bool.and_true, List.replicate_succ, List.replicate_zero, List.flatten_cons, List.flatten_nil, List.cons_append, List.nil_append, List.set_cons_zero, List.set_cons_succ, List.length_cons, List.length_nil, List.length_set])
        | (refine Br.mk (fun h => ?_) (fun h => ?_) <;> simp -dsimp only [go_sem, reduceIte, reduceCtorEq, Nat.reduceEqDiff, Nat.reduceLT, Nat.reduceLeDiff, Nat.reduceAdd, Nat.reduceMul, Nat.reduceSub, Int.reduceToNat, Int.reduceNeg, h, e5, e7, hB, wk, Int.reduceToNat, List.getD_cons_zero, List.getD_cons_succ, cS, hk, i20, Bool.and_false, Bool.and_true, List.replicate_succ, List.replicate_zero, List.flatten_cons, List.flatten_nil, List.cons_append, List.nil_append, List.set_cons_zero, List.set_cons_succ, List.length_cons, List.length_nil, List.length_set])
        | (refine CallK.flat (by first | exact impl_ValidStep ⟨4, xa, xb, xt, xf0, xf1, xs0, xs1, xtx⟩ _ hs | exact decimalA xa a1.1 a1.2 | exact decimalA xb a2.1 a2.2 | exact decimalA xt a3.1 a3.2 | exact span xf0 xf1 a4 a5 | exact span xs0 xs1 a6 a7 | exact takesTwo _) rfl ?_; simp -dsimp only [go_sem, reduceIte, reduceCtorEq, Nat.reduceEqDiff, Nat.reduceLT, Nat.reduceLeDiff, Nat.reduceAdd, Nat.reduceMul, Nat.reduceSub, Int.reduceToNat, Int.reduceNeg, e5, e7, hB, wk, Int.reduceToNat, List.getD_cons_zero, List.getD_cons_succ, cS, hk, i20, Bool.and_false, Bool.and_true, List.replicate_succ, List.replicate_zero, List.flatten_cons, List.flatten_nil, List.cons_append, List.nil_append, List.set_cons_zero, List.set_cons_succ, List.length_cons, List.length_nil, List.length_set])
        | (refine CallK.pure (by first | exact impl_ValidStep ⟨4, xa, xb, xt, xf0, xf1, xs0, xs1, xtx⟩ _ hs | exact decimalA xa a1.1 a1.2 | exact decimalA xb a2.1 a2.2 | exact decimalA xt a3.1 a3.2 | exact span xf0 xf1 a4 a5 | exact span xs0 xs1 a6 a7 | exact takesTwo _) ?_; simp -dsimp only [go_sem, reduceIte, reduceCtorEq, Nat.reduceEqDiff, Nat.reduceLT, Nat.reduceLeDiff, Nat.reduceAdd, Nat.reduceMul, Nat.reduceSub, Int.reduceToNat, Int.reduceNeg, e5, e7, hB, wk, Int.reduceToNat, List.getD_cons_zero, List.getD_cons_succ, cS, hk, i20, Bool.and_false, Bool.and_true, List.replicate_succ, List.replicate_zero, List.flatten_cons, List.flatten_nil, List.cons_append, List.nil_append, List.set_cons_zero, List.set_cons_succ, List.length_cons, List.length_nil, List.length_set])
        | (refine And.intro (by first | rfl | omega | decide | exact (by simp only [ByteArray.size_append, bsz, List.size_toArray, List.length_cons, List.length_nil]; omega) | (refine ⟨?_, ?_⟩ <;> (first | rfl | omega | decide | exact (by simp only [ByteArray.size_append, bsz, List.size_toArray, List.length_cons, List.length_nil]; omega))) | (refine ⟨?_, ?_, ?_⟩ <;> (first | rfl | omega | decide | exact (by simp only [ByteArray.size_append, bsz, List.size_toArray, List.length_cons, List.length_nil]; omega))) | (refine ⟨?_, ?_, ?_, ?_⟩ <;> (first | rfl | omega | decide | exact (by simp only [ByteArray.size_append, bsz, List.size_toArray, List.length_cons, List.length_nil]; omega)))) ?_)
        | fail)
      all_goals exact ret_eq (by simp only [stX, stF, stG, stH, stW, hB]; rfl)
    · obtain ⟨xk, xa, xb, xt, xf0, xf1, xs0, xs1, xtx⟩ := x
      dsimp only at h
      subst h
      dsimp only at a1 a2 a3 a4 a5 a6 a7 d1 d2 d3 d4 d5 hs
      have e5 : ((5 : Int) == 5) = true := rfl
      have e7 : ((5 : Int) == 7) = false := rfl
      have hB : inB 5 2 4 = false := by decide
      have wk : IntKind.i64.wrap ((5 : Int) - 1) = 4 := by decide
      refine Cd.impl_StepText_ok.fn0 Tryd.mixed Cd.impl_StepText_nt Cd.impl_StepText_rs rfl fun X => ?_
      unfold Cd.impl_StepText
      simp -dsimp only [go_sem, reduceIte, reduceCtorEq, Nat.reduceEqDiff, Nat.reduceLT, Nat.reduceLeDiff, Nat.reduceAdd, Nat.reduceMul, Nat.reduceSub, Int.reduceToNat, Int.reduceNeg, cS, hk]
      repeat' (first
        | (refine RgK.mk rfl ?_; simp -dsimp only [go_sem, reduceIte, reduceCtorEq, Nat.reduceEqDiff, Nat.reduceLT, Nat.reduceLeDiff, Nat.reduceAdd, Nat.reduceMul, Nat.reduceSub, Int.reduceToNat, Int.reduceNeg, e5, e7, hB, wk, Int.reduceToNat, List.getD_cons_zero, List.getD_cons_succ, cS, hk, i20, Bool.and_false, Bool.and_true, List.replicate_succ, List.replicate_zero, List.flatten_cons, List.flatten_nil, List.cons_append, List.nil_append, List.set_cons_zero, List.set_cons_succ, List.length_cons, List.length_nil, List.length_set])
        | (refine Br.mk (fun h => ?_) (fun h => ?_) <;> simp -dsimp only [go_sem, reduceIte, reduceCtorEq, Nat.reduceEqDiff, Nat.reduceLT, Nat.reduceLeDiff, Nat.reduceAdd, Nat.reduceMul, Nat.reduceSub, Int.reduceToNat, Int.reduceNeg, h, e5, e7, hB, wk, Int.reduceToNat, List.getD_cons_zero, List.getD_cons_succ, cS, hk, i20, Bool.and_false, Bool.and_true, List.replicate_succ, List.replicate_zero, List.flatten_cons, List.flatten_nil, List.cons_append, List.nil_append, List.set_cons_zero, List.set_cons_succ, List.length_cons, List.length_nil, List.length_set])
        | (refine CallK.flat (by first | exact impl_ValidStep ⟨5, xa, xb, xt, xf0, xf1, xs0, xs1, xtx⟩ _ hs | exact decimalA xa a1.1 a1.2 | exact decimalA xb a2.1 a2.2 | exact decimalA xt a3.1 a3.2 | exact span xf0 xf1 a4 a5 | exact span xs0 xs1 a6 a7 | exact takesTwo _) rfl ?_; simp -dsimp only [go_sem, reduceIte, reduceCtorEq, Nat.reduceEqDiff, Nat.reduceLT, Nat.reduceLeDiff, Nat.reduceAdd, Nat.reduceMul, Nat.reduceSub, Int.reduceToNat, Int.reduceNeg, e5, e7, hB, wk, Int.reduceToNat, List.getD_cons_zero, List.getD_cons_succ, cS, hk, i20, Bool.and_false, Bool.and_true, List.replicate_succ, List.replicate_zero, List.flatten_cons, List.flatten_nil, List.cons_append, List.nil_append, List.set_cons_zero, List.set_cons_succ, List.length_cons, List.length_nil, List.length_set])
        | (refine CallK.pure (by first | exact impl_ValidStep ⟨5, xa, xb, xt, xf0, xf1, xs0, xs1, xtx⟩ _ hs | exact decimalA xa a1.1 a1.2 | exact decimalA xb a2.1 a2.2 | exact decimalA xt a3.1 a3.2 | exact span xf0 xf1 a4 a5 | exact span xs0 xs1 a6 a7 | exact takesTwo _) ?_; simp -dsimp only [go_sem, reduceIte, reduceCtorEq, Nat.reduceEqDiff, Nat.reduceLT, Nat.reduceLeDiff, Nat.reduceAdd, Nat.reduceMul, Nat.reduceSub, Int.reduceToNat, Int.reduceNeg, e5, e7, hB, wk, Int.reduceToNat, List.getD_cons_zero, List.getD_cons_succ, cS, hk, i20, Bool.and_false, Bool.and_true, List.replicate_succ, List.replicate_zero, List.flatten_cons, List.flatten_nil, List.cons_append, List.nil_append, List.set_cons_zero, List.set_cons_succ, List.length_cons, List.length_nil, List.length_set])
        | (refine And.intro (by first | rfl | omega | decide | exact (by simp only [ByteArray.size_append, bsz, List.size_toArray, List.length_cons, List.length_nil]; omega) | (refine ⟨?_, ?_⟩ <;> (first | rfl | omega | decide | exact (by simp only [ByteArray.size_append, bsz, List.size_toArray, List.length_cons, List.length_nil]; omega))) | (refine ⟨?_, ?_, ?_⟩ <;> (first | rfl | omega | decide | exact (by simp only [ByteArray.size_append, bsz, List.size_toArray, List.length_cons, List.length_nil]; omega))) | (refine ⟨?_, ?_, ?_, ?_⟩ <;> (first | rfl | omega | decide | exact (by simp only [ByteArray.size_append, bsz, List.size_toArray, List.length_cons, List.length_nil]; omega)))) ?_)
        | fail)
      all_goals exact ret_eq (by simp only [stX, stF, stG, stH, stW, hB]; rfl)
    · obtain ⟨xk, xa, xb, xt, xf0, xf1, xs0, xs1, xtx⟩ := x
      dsimp only at h
      subst h
      dsimp only at a1 a2 a3 a4 a5 a6 a7 d1 d2 d3 d4 d5 hs
      have e5 : ((6 : Int) == 5) = false := rfl
      have e7 : ((6 : Int) == 7) = false := rfl
      have hB : inB 6 2 4 = false := by decide
      have wk : IntKind.i64.wrap ((6 : Int) - 1) = 5 := by decide
      refine Cd.impl_StepText_ok.fn0 Tryd.mixed Cd.impl_StepText_nt Cd.impl_StepText_rs rfl fun X => ?_
      unfold Cd.impl_StepText
      simp -dsimp only [go_sem, reduceIte, reduceCtorEq, Nat.reduceEqDiff, Nat.reduceLT, Nat.reduceLeDiff, Nat.reduceAdd, Nat.reduceMul, Nat.reduceSub, Int.reduceToNat, Int.reduceNeg, cS, hk]
      repeat' (first
        | (refine RgK.mk rfl ?_; simp -dsimp only [go_sem, reduceIte, reduceCtorEq, Nat.reduceEqDiff, Nat.reduceLT, Nat.reduceLeDiff, Nat.reduceAdd, Nat.reduceMul, Nat.reduceSub, Int.reduceToNat, Int.reduceNeg, e5, e7, hB, wk, Int.reduceToNat, List.getD_cons_zero, List.getD_cons_succ, cS, hk, i20, Bool.and_false, Bool.and_true, List.replicate_succ, List.replicate_zero, List.flatten_cons, List.flatten_nil, List.cons_append, List.nil_append, List.set_cons_zero, List.set_cons_succ, List.length_cons, List.length_nil, List.length_set])
        | (refine Br.mk (fun h => ?_) (fun h => ?_) <;> simp -dsimp only [go_sem, reduceIte, reduceCtorEq, Nat.reduceEqDiff, Nat.reduceLT, Nat.reduceLeDiff, Nat.reduceAdd, Nat.reduceMul, Nat.reduceSub, Int.reduceToNat, Int.reduceNeg, h, e5, e7, hB, wk, Int.reduceToNat, List.getD_cons_zero, List.getD_cons_succ, cS, hk, i20, Bool.and_false, Bool.and_true, List.replicate_succ, List.replicate_zero, List.flatten_cons, List.flatten_nil, List.cons_append, List.nil_append, List.set_cons_zero, List.set_cons_succ, List.length_cons, List.length_nil, List.length_set])
        | (refine CallK.flat (by first | exact impl_ValidStep ⟨6, xa, xb, xt, xf0, xf1, xs0, xs1, xtx⟩ _ hs | exact decimalA xa a1.1 a1.2 | exact decimalA xb a2.1 a2.2 | exact decimalA xt a3.1 a3.2 | exact span xf0 xf1 a4 a5 | exact span xs0 xs1 a6 a7 | exact takesTwo _) rfl ?_; simp -dsimp only [go_sem, reduceIte, reduceCtorEq, Nat.reduceEqDiff, Nat.reduceLT, Nat.reduceLeDiff, Nat.reduceAdd, Nat.reduceMul, Nat.reduceSub, Int.reduceToNat, Int.reduceNeg, e5, e7, hB, wk, Int.reduceToNat, List.getD_cons_zero, List.getD_cons_succ, cS, hk, i20, Bool.and_false, Bool.and_true, List.replicate_succ, List.replicate_zero, List.flatten_cons, List.flatten_nil, List.cons_append, List.nil_append, List.set_cons_zero, List.set_cons_succ, List.length_cons, List.length_nil, List.length_set])
        | (refine CallK.pure (by first | exact impl_ValidStep ⟨6, xa, xb, xt, xf0, xf1, xs0, xs1, xtx⟩ _ hs | exact decimalA xa a1.1 a1.2 | exact decimalA xb a2.1 a2.2 | exact decimalA xt a3.1 a3.2 | exact span xf0 xf1 a4 a5 | exact span xs0 xs1 a6 a7 | exact takesTwo _) ?_; simp -dsimp only [go_sem, reduceIte, reduceCtorEq, Nat.reduceEqDiff, Nat.reduceLT, Nat.reduceLeDiff, Nat.reduceAdd, Nat.reduceMul, Nat.reduceSub, Int.reduceToNat, Int.reduceNeg, e5, e7, hB, wk, Int.reduceToNat, List.getD_cons_zero, List.getD_cons_succ, cS, hk, i20, Bool.and_false, Bool.and_true, List.replicate_succ, List.replicate_zero, List.flatten_cons, List.flatten_nil, List.cons_append, List.nil_append, List.set_cons_zero, List.set_cons_succ, List.length_cons, List.length_nil, List.length_set])
        | (refine And.intro (by first | rfl | omega | decide | exact (by simp only [ByteArray.size_append, bsz, List.size_toArray, List.length_cons, List.length_nil]; omega) | (refine ⟨?_, ?_⟩ <;> (first | rfl | omega | decide | exact (by simp only [ByteArray.size_append, bsz, List.size_toArray, List.length_cons, List.length_nil]; omega))) | (refine ⟨?_, ?_, ?_⟩ <;> (first | rfl | omega | decide | exact (by simp only [ByteArray.size_append, bsz, List.size_toArray, List.length_cons, List.length_nil]; omega))) | (refine ⟨?_, ?_, ?_, ?_⟩ <;> (first | rfl | omega | decide | exact (by simp only [ByteArray.size_append, bsz, List.size_toArray, List.length_cons, List.length_nil]; omega)))) ?_)
        | fail)
      all_goals exact ret_eq (by simp only [stX, stF, stG, stH, stW, hB]; rfl)
    · obtain ⟨xk, xa, xb, xt, xf0, xf1, xs0, xs1, xtx⟩ := x
      dsimp only at h
      subst h
      dsimp only at a1 a2 a3 a4 a5 a6 a7 d1 d2 d3 d4 d5 hs
      have e5 : ((7 : Int) == 5) = false := rfl
      have e7 : ((7 : Int) == 7) = true := rfl
      have hB : inB 7 2 4 = false := by decide
      have wk : IntKind.i64.wrap ((7 : Int) - 1) = 6 := by decide
      refine Cd.impl_StepText_ok.fn0 Tryd.mixed Cd.impl_StepText_nt Cd.impl_StepText_rs rfl fun X => ?_
      unfold Cd.impl_StepText
      simp -dsimp only [go_sem, reduceIte, reduceCtorEq, Nat.reduceEqDiff, Nat.reduceLT, Nat.reduceLeDiff, Nat.reduceAdd, Nat.reduceMul, Nat.reduceSub, Int.reduceToNat, Int.reduceNeg, cS, hk]
      repeat' (first
        | (refine RgK.mk rfl ?_; simp -dsimp only [go_sem, reduceIte, reduceCtorEq, Nat.reduceEqDiff, Nat.reduceLT, Nat.reduceLeDiff, Nat.reduceAdd, Nat.reduceMul, Nat.reduceSub, Int.reduceToNat, Int.reduceNeg, e5, e7, hB, wk, Int.reduceToNat, List.getD_cons_zero, List.getD_cons_succ, cS, hk, i20, Bool.and_false, Bool.and_true, List.replicate_succ, List.replicate_zero, List.flatten_cons, List.flatten_nil, List.cons_append, List.nil_append, List.set_cons_zero, List.set_cons_succ, List.length_cons, List.length_nil, List.length_set])
        | (refine Br.mk (fun h => ?_) (fun h => ?_) <;> simp -dsimp only [go_sem, reduceIte, reduceCtorEq, Nat.reduceEqDiff, Nat.reduceLT, Nat.reduceLeDiff, Nat.reduceAdd, Nat.reduceMul, Nat.reduceSub, Int.reduceToNat, Int.reduceNeg, h, e5, e7, hB, wk, Int.reduceToNat, List.getD_cons_zero, List.getD_cons_succ, cS, hk, i20, Bool.and_false, Bool.and_true, List.replicate_succ, List.replicate_zero, List.flatten_cons, List.flatten_nil, List.cons_append, List.nil_append, List.set_cons_zero, List.set_cons_succ, List.length_cons, List.length_nil, List.length_set])
        | (refine CallK.flat (by first | exact impl_ValidStep ⟨7, xa, xb, xt, xf0, xf1, xs0, xs1, xtx⟩ _ hs | exact decimalA xa a1.1 a1.2 | exact decimalA xb a2.1 a2.2 | exact decimalA xt a3.1 a3.2 | exact span xf0 xf1 a4 a5 | exact span xs0 xs1 a6 a7 | exact takesTwo _) rfl ?_; simp -dsimp only [go_sem, reduceIte, reduceCtorEq, Nat.reduceEqDiff, Nat.reduceLT, Nat.reduceLeDiff, Nat.reduceAdd, Nat.reduceMul, Nat.reduceSub, Int.reduceToNat, Int.reduceNeg, e5, e7, hB, wk, Int.reduceToNat, List.getD_cons_zero, List.getD_cons_succ, cS, hk, i20, Bool.and_false, Bool.and_true, List.replicate_succ, List.replicate_zero, List.flatten_cons, List.flatten_nil, List.cons_append, List.nil_append, List.set_cons_zero, List.set_cons_succ, List.length_cons, List.length_nil, List.length_set])
        | (refine CallK.pure (by first | exact impl_ValidStep ⟨7, xa, xb, xt, xf0, xf1, xs0, xs1, xtx⟩ _ hs | exact decimalA xa a1.1 a1.2 | exact decimalA xb a2.1 a2.2 | exact decimalA xt a3.1 a3.2 | exact span xf0 xf1 a4 a5 | exact span xs0 xs1 a6 a7 | exact takesTwo _) ?_; simp -dsimp only [go_sem, reduceIte, reduceCtorEq, Nat.reduceEqDiff, Nat.reduceLT, Nat.reduceLeDiff, Nat.reduceAdd, Nat.reduceMul, Nat.reduceSub, Int.reduceToNat, Int.reduceNeg, e5, e7, hB, wk, Int.reduceToNat, List.getD_cons_zero, List.getD_cons_succ, cS, hk, i20, Bool.and_false, Bool.and_true, List.replicate_succ, List.replicate_zero, List.flatten_cons, List.flatten_nil, List.cons_append, List.nil_append, List.set_cons_zero, List.set_cons_succ, List.length_cons, List.length_nil, List.length_set])
        | (refine And.intro (by first | rfl | omega | decide | exact (by simp only [ByteArray.size_append, bsz, List.size_toArray, List.length_cons, List.length_nil]; omega) | (refine ⟨?_, ?_⟩ <;> (first | rfl | omega | decide | exact (by simp only [ByteArray.size_append, bsz, List.size_toArray, List.length_cons, List.length_nil]; omega))) | (refine ⟨?_, ?_, ?_⟩ <;> (first | rfl | omega | decide | exact (by simp only [ByteArray.size_append, bsz, List.size_toArray, List.length_cons, List.length_nil]; omega))) | (refine ⟨?_, ?_, ?_, ?_⟩ <;> (first | rfl | omega | decide | exact (by simp only [ByteArray.size_append, bsz, List.size_toArray, List.length_cons, List.length_nil]; omega)))) ?_)
        | fail)
      all_goals exact ret_eq (by simp only [stX, stF, stG, stH, stW, hB]; rfl)
theorem law_StepText (x : Stp) (hs0 : x.text.size < 2 ^ 63) : Vs.Fn Tryd.prog F.laws_FnExactStepText [] [.agg (cS x)] (.v (.bool true)) [] := by
  refine Cd.laws_FnExactStepText_ok.fn0 Tryd.mixed Cd.laws_FnExactStepText_nt Cd.laws_FnExactStepText_rs rfl fun X => ?_
  unfold Cd.laws_FnExactStepText
  simp -dsimp only [go_sem, reduceIte, reduceCtorEq, Nat.reduceEqDiff, Nat.reduceLT, Nat.reduceLeDiff, Nat.reduceAdd, Nat.reduceMul, Nat.reduceSub, Int.reduceToNat, Int.reduceNeg, cS]
  refine CallK.flat (szStep x _) rfl ?_
  simp -dsimp only [go_sem, reduceIte, reduceCtorEq, Nat.reduceEqDiff, Nat.reduceLT, Nat.reduceLeDiff, Nat.reduceAdd, Nat.reduceMul, Nat.reduceSub, Int.reduceToNat, Int.reduceNeg, cS]
  refine Br.mk (fun h1 => by simp -dsimp only [go_sem, reduceIte, reduceCtorEq, Nat.reduceEqDiff, Nat.reduceLT, Nat.reduceLeDiff, Nat.reduceAdd, Nat.reduceMul, Nat.reduceSub, Int.reduceToNat, Int.reduceNeg, cS]; simp) (fun h1 => ?_)
  simp -dsimp only [go_sem, reduceIte, reduceCtorEq, Nat.reduceEqDiff, Nat.reduceLT, Nat.reduceLeDiff, Nat.reduceAdd, Nat.reduceMul, Nat.reduceSub, Int.reduceToNat, Int.reduceNeg, cS]
  have hs : x.text.size ≤ 1048576 := by
    have h2 : ¬ szT x.text 1048576 < 0 := of_decide_eq_false h1
    have := (szT_le hs0 (n := 1048576) (by omega) (by omega) (by omega)).2
    omega
  repeat' (first
    | (refine RgK.mk rfl ?_; simp -dsimp only [go_sem, reduceIte, reduceCtorEq, Nat.reduceEqDiff, Nat.reduceLT, Nat.reduceLeDiff, Nat.reduceAdd, Nat.reduceMul, Nat.reduceSub, Int.reduceToNat, Int.reduceNeg, cS])
    | (refine Br.mk (fun h => ?_) (fun h => ?_) <;> simp -dsimp only [go_sem, reduceIte, reduceCtorEq, Nat.reduceEqDiff, Nat.reduceLT, Nat.reduceLeDiff, Nat.reduceAdd, Nat.reduceMul, Nat.reduceSub, Int.reduceToNat, Int.reduceNeg, h, cS])
    | (refine CallK.flat (by first | exact toStep x | exact spec_StepText x hs | exact impl_StepText x hs) rfl ?_; simp -dsimp only [go_sem, reduceIte, reduceCtorEq, Nat.reduceEqDiff, Nat.reduceLT, Nat.reduceLeDiff, Nat.reduceAdd, Nat.reduceMul, Nat.reduceSub, Int.reduceToNat, Int.reduceNeg, cS])
    | (refine CallK.pure (by first | exact toStep x | exact spec_StepText x hs | exact impl_StepText x hs) ?_; simp -dsimp only [go_sem, reduceIte, reduceCtorEq, Nat.reduceEqDiff, Nat.reduceLT, Nat.reduceLeDiff, Nat.reduceAdd, Nat.reduceMul, Nat.reduceSub, Int.reduceToNat, Int.reduceNeg, cS])
    | (refine And.intro (by first | rfl | omega | decide | (refine ⟨?_, ?_⟩ <;> (first | rfl | omega | decide)) | (refine ⟨?_, ?_, ?_⟩ <;> (first | rfl | omega | decide)) | (refine ⟨?_, ?_, ?_, ?_⟩ <;> (first | rfl | omega | decide))) ?_)
    | fail)
  all_goals simp_all

end Go.Proofs.YthpokkcbbpapdaaDoor
