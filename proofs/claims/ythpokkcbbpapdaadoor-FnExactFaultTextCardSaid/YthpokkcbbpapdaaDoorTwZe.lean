/- The texts of faults, as the program gives them and as the reference does. -/
import Derived.Test.YthpokkcbbpapdaaDoorTwZd
namespace Go.Proofs.YthpokkcbbpapdaaDoor
open Go.Vs
set_option linter.unusedSimpArgs false
set_option linter.unusedVariables false
attribute [local irreducible] Vs.Fn

/-- a fault in words -/
def flX (f : Flt) : ByteArray := if f.kind = 1 then ⟨#[99, 97, 114, 100, 32]⟩ ++ dcl f.card ++ ⟨#[32, 108, 111, 115, 116]⟩ else if f.kind = 2 then ⟨#[99, 97, 114, 100, 32]⟩ ++ dcl f.card ++ ⟨#[32, 100, 111, 117, 98, 108, 101, 100]⟩ else ⟨#[99, 97, 114, 100, 32]⟩ ++ dcl f.card ++ ⟨#[32, 112, 108, 97, 99, 101, 32]⟩ ++ dcl f.place ++ ⟨#[32, 114, 101, 97, 100, 32]⟩ ++ dcl f.digit
def flB (f : Flt) : Bool := isF f && inB f.card 0 11
def flT (f : Flt) : ByteArray := if flB f then flX f else ⟨#[]⟩
theorem flB_rng {f : Flt} (h : flB f = true) : (0 ≤ f.card ∧ f.card ≤ 11) ∧ (0 ≤ f.place ∧ f.place ≤ 3) ∧ (0 ≤ f.digit ∧ f.digit ≤ 9) := by
  simp only [flB, isF, inB, Bool.and_eq_true, decide_eq_true_eq] at h
  obtain ⟨h1, h2⟩ := h
  split at h1
  · simp only [Bool.and_eq_true, decide_eq_true_eq] at h1; omega
  · simp only [Bool.and_eq_true, decide_eq_true_eq, beq_iff_eq] at h1; omega
theorem toFaultO (f : Flt) : Vs.Fn Tryd.prog F.laws_toFault [] [.agg (cF f)] (.agg (cF f)) [] := by
  refine Cd.laws_toFault_ok.fn0 Tryd.mixed Cd.laws_toFault_nt Cd.laws_toFault_rs rfl fun X => ?_
  unfold Cd.laws_toFault
  simp -dsimp only [go_sem, reduceIte, reduceCtorEq, Nat.reduceEqDiff, Nat.reduceLT, Nat.reduceLeDiff, Nat.reduceAdd, Nat.reduceMul, Nat.reduceSub, Int.reduceToNat, Int.reduceNeg, cF]
  repeat' (first
    | (refine RgK.mk rfl ?_; simp -dsimp only [go_sem, reduceIte, reduceCtorEq, Nat.reduceEqDiff, Nat.reduceLT, Nat.reduceLeDiff, Nat.reduceAdd, Nat.reduceMul, Nat.reduceSub, Int.reduceToNat, Int.reduceNeg, cF])
    | (refine Br.mk (fun h => ?_) (fun h => ?_) <;> simp -dsimp only [go_sem, reduceIte, reduceCtorEq, Nat.reduceEqDiff, Nat.reduceLT, Nat.reduceLeDiff, Nat.reduceAdd, Nat.reduceMul, Nat.reduceSub, Int.reduceToNat, Int.reduceNeg, h, cF])
    | (refine And.intro (by first | rfl | omega | decide | (refine ⟨?_, ?_⟩ <;> (first | rfl | omega | decide)) | (refine ⟨?_, ?_, ?_⟩ <;> (first | rfl | omega | decide)) | (refine ⟨?_, ?_, ?_, ?_⟩ <;> (first | rfl | omega | decide))) ?_)
    | fail)
  all_goals (exact ⟨_, _, rfl, rfl⟩)
theorem spec_FaultText (f : Flt) : Vs.Fn Tryd.prog F.spec_FaultText [] [.agg (cF f)] (.v (.string (flT f))) [] := by
  cases hk : flB f
  · have hT : flT f = ⟨#[]⟩ := by simp [flT, hk]
    rw [hT]
    unfold flB at hk
    refine Cd.spec_FaultText_ok.fn0 Tryd.mixed Cd.spec_FaultText_nt Cd.spec_FaultText_rs rfl fun X => ?_
    unfold Cd.spec_FaultText
    simp -dsimp only [go_sem, reduceIte, reduceCtorEq, Nat.reduceEqDiff, Nat.reduceLT, Nat.reduceLeDiff, Nat.reduceAdd, Nat.reduceMul, Nat.reduceSub, Int.reduceToNat, Int.reduceNeg, cF, hk]
    repeat' (first
      | (refine RgK.mk rfl ?_; simp -dsimp only [go_sem, reduceIte, reduceCtorEq, Nat.reduceEqDiff, Nat.reduceLT, Nat.reduceLeDiff, Nat.reduceAdd, Nat.reduceMul, Nat.reduceSub, Int.reduceToNat, Int.reduceNeg, cF, hk])
      | (refine Br.mk (fun h => ?_) (fun h => ?_) <;> simp -dsimp only [go_sem, reduceIte, reduceCtorEq, Nat.reduceEqDiff, Nat.reduceLT, Nat.reduceLeDiff, Nat.reduceAdd, Nat.reduceMul, Nat.reduceSub, Int.reduceToNat, Int.reduceNeg, h, cF, hk])
      | (refine CallK.flat (by first | exact l19Form f) rfl ?_; simp -dsimp only [go_sem, reduceIte, reduceCtorEq, Nat.reduceEqDiff, Nat.reduceLT, Nat.reduceLeDiff, Nat.reduceAdd, Nat.reduceMul, Nat.reduceSub, Int.reduceToNat, Int.reduceNeg, cF, hk])
      | (refine CallK.pure (by first | exact l19Form f) ?_; simp -dsimp only [go_sem, reduceIte, reduceCtorEq, Nat.reduceEqDiff, Nat.reduceLT, Nat.reduceLeDiff, Nat.reduceAdd, Nat.reduceMul, Nat.reduceSub, Int.reduceToNat, Int.reduceNeg, cF, hk])
      | (refine And.intro (by first | rfl | omega | decide | (refine ⟨?_, ?_⟩ <;> (first | rfl | omega | decide)) | (refine ⟨?_, ?_, ?_⟩ <;> (first | rfl | omega | decide)) | (refine ⟨?_, ?_, ?_, ?_⟩ <;> (first | rfl | omega | decide))) ?_)
      | fail)
    all_goals first | exact ret_eq rfl | (exfalso; simp_all)
  · have hT : flT f = flX f := by simp [flT, hk]
    rw [hT]
    obtain ⟨⟨ha0, ha1⟩, ⟨hb0, hb1⟩, hc0, hc1⟩ := flB_rng hk
    have da := dcl_size (n := f.card) (by omega) (by omega)
    have db := dcl_size (n := f.place) (by omega) (by omega)
    have dc := dcl_size (n := f.digit) (by omega) (by omega)
    have hk2 := hk
    unfold flB at hk2
    have hk3 : isF f = true := by simp only [Bool.and_eq_true] at hk2; exact hk2.1
    have hk4 : inB f.card 0 11 = true := by simp only [Bool.and_eq_true] at hk2; exact hk2.2
    by_cases h1 : f.kind = 1
    · have e1 : (f.kind == 1) = true := beq_iff_eq.2 h1
      refine Cd.spec_FaultText_ok.fn0 Tryd.mixed Cd.spec_FaultText_nt Cd.spec_FaultText_rs rfl fun X => ?_
      unfold Cd.spec_FaultText
      simp -dsimp only [go_sem, reduceIte, reduceCtorEq, Nat.reduceEqDiff, Nat.reduceLT, Nat.reduceLeDiff, Nat.reduceAdd, Nat.reduceMul, Nat.reduceSub, Int.reduceToNat, Int.reduceNeg, cF, hk2, hk3, hk4, e1]
      repeat' (first
        | (refine RgK.mk rfl ?_; simp -dsimp only [go_sem, reduceIte, reduceCtorEq, Nat.reduceEqDiff, Nat.reduceLT, Nat.reduceLeDiff, Nat.reduceAdd, Nat.reduceMul, Nat.reduceSub, Int.reduceToNat, Int.reduceNeg, cF, hk2, hk3, hk4, e1])
        | (refine Br.mk (fun h => ?_) (fun h => ?_) <;> simp -dsimp only [go_sem, reduceIte, reduceCtorEq, Nat.reduceEqDiff, Nat.reduceLT, Nat.reduceLeDiff, Nat.reduceAdd, Nat.reduceMul, Nat.reduceSub, Int.reduceToNat, Int.reduceNeg, h, cF, hk2, hk3, hk4, e1])
        | (refine CallK.flat (by first | exact l19Form f | exact l01Dec f.card (by omega) (by omega) | exact l01Dec f.place (by omega) (by omega) | exact l01Dec f.digit (by omega) (by omega)) rfl ?_; simp -dsimp only [go_sem, reduceIte, reduceCtorEq, Nat.reduceEqDiff, Nat.reduceLT, Nat.reduceLeDiff, Nat.reduceAdd, Nat.reduceMul, Nat.reduceSub, Int.reduceToNat, Int.reduceNeg, cF, hk2, hk3, hk4, e1])
        | (refine CallK.pure (by first | exact l19Form f | exact l01Dec f.card (by omega) (by omega) | exact l01Dec f.place (by omega) (by omega) | exact l01Dec f.digit (by omega) (by omega)) ?_; simp -dsimp only [go_sem, reduceIte, reduceCtorEq, Nat.reduceEqDiff, Nat.reduceLT, Nat.reduceLeDiff, Nat.reduceAdd, Nat.reduceMul, Nat.reduceSub, Int.reduceToNat, Int.reduceNeg, cF, hk2, hk3, hk4, e1])
        | (refine And.intro (by first | rfl | omega | decide | exact (by simp only [ByteArray.size_append, bsz, List.size_toArray, List.length_cons, List.length_nil]; omega) | (refine ⟨?_, ?_⟩ <;> (first | rfl | omega | decide | exact (by simp only [ByteArray.size_append, bsz, List.size_toArray, List.length_cons, List.length_nil]; omega))) | (refine ⟨?_, ?_, ?_⟩ <;> (first | rfl | omega | decide | exact (by simp only [ByteArray.size_append, bsz, List.size_toArray, List.length_cons, List.length_nil]; omega))) | (refine ⟨?_, ?_, ?_, ?_⟩ <;> (first | rfl | omega | decide | exact (by simp only [ByteArray.size_append, bsz, List.size_toArray, List.length_cons, List.length_nil]; omega)))) ?_)
        | fail)
      all_goals exact ret_eq (by simp [flX, *])
    have e1 : (f.kind == 1) = false := beq_eq_false_iff_ne.2 h1
    by_cases h2 : f.kind = 2
    · have e2 : (f.kind == 2) = true := beq_iff_eq.2 h2
      refine Cd.spec_FaultText_ok.fn0 Tryd.mixed Cd.spec_FaultText_nt Cd.spec_FaultText_rs rfl fun X => ?_
      unfold Cd.spec_FaultText
      simp -dsimp only [go_sem, reduceIte, reduceCtorEq, Nat.reduceEqDiff, Nat.reduceLT, Nat.reduceLeDiff, Nat.reduceAdd, Nat.reduceMul, Nat.reduceSub, Int.reduceToNat, Int.reduceNeg, cF, hk2, hk3, hk4, e1, e2]
      repeat' (first
        | (refine RgK.mk rfl ?_; simp -dsimp only [go_sem, reduceIte, reduceCtorEq, Nat.reduceEqDiff, Nat.reduceLT, Nat.reduceLeDiff, Nat.reduceAdd, Nat.reduceMul, Nat.reduceSub, Int.reduceToNat, Int.reduceNeg, cF, hk2, hk3, hk4, e1, e2])
        | (refine Br.mk (fun h => ?_) (fun h => ?_) <;> simp -dsimp only [go_sem, reduceIte, reduceCtorEq, Nat.reduceEqDiff, Nat.reduceLT, Nat.reduceLeDiff, Nat.reduceAdd, Nat.reduceMul, Nat.reduceSub, Int.reduceToNat, Int.reduceNeg, h, cF, hk2, hk3, hk4, e1, e2])
        | (refine CallK.flat (by first | exact l19Form f | exact l01Dec f.card (by omega) (by omega) | exact l01Dec f.place (by omega) (by omega) | exact l01Dec f.digit (by omega) (by omega)) rfl ?_; simp -dsimp only [go_sem, reduceIte, reduceCtorEq, Nat.reduceEqDiff, Nat.reduceLT, Nat.reduceLeDiff, Nat.reduceAdd, Nat.reduceMul, Nat.reduceSub, Int.reduceToNat, Int.reduceNeg, cF, hk2, hk3, hk4, e1, e2])
        | (refine CallK.pure (by first | exact l19Form f | exact l01Dec f.card (by omega) (by omega) | exact l01Dec f.place (by omega) (by omega) | exact l01Dec f.digit (by omega) (by omega)) ?_; simp -dsimp only [go_sem, reduceIte, reduceCtorEq, Nat.reduceEqDiff, Nat.reduceLT, Nat.reduceLeDiff, Nat.reduceAdd, Nat.reduceMul, Nat.reduceSub, Int.reduceToNat, Int.reduceNeg, cF, hk2, hk3, hk4, e1, e2])
        | (refine And.intro (by first | rfl | omega | decide | exact (by simp only [ByteArray.size_append, bsz, List.size_toArray, List.length_cons, List.length_nil]; omega) | (refine ⟨?_, ?_⟩ <;> (first | rfl | omega | decide | exact (by simp only [ByteArray.size_append, bsz, List.size_toArray, List.length_cons, List.length_nil]; omega))) | (refine ⟨?_, ?_, ?_⟩ <;> (first | rfl | omega | decide | exact (by simp only [ByteArray.size_append, bsz, List.size_toArray, List.length_cons, List.length_nil]; omega))) | (refine ⟨?_, ?_, ?_, ?_⟩ <;> (first | rfl | omega | decide | exact (by simp only [ByteArray.size_append, bsz, List.size_toArray, List.length_cons, List.length_nil]; omega)))) ?_)
        | fail)
      all_goals exact ret_eq (by simp [flX, *])
    have e2 : (f.kind == 2) = false := beq_eq_false_iff_ne.2 h2
    · refine Cd.spec_FaultText_ok.fn0 Tryd.mixed Cd.spec_FaultText_nt Cd.spec_FaultText_rs rfl fun X => ?_
      unfold Cd.spec_FaultText
      simp -dsimp only [go_sem, reduceIte, reduceCtorEq, Nat.reduceEqDiff, Nat.reduceLT, Nat.reduceLeDiff, Nat.reduceAdd, Nat.reduceMul, Nat.reduceSub, Int.reduceToNat, Int.reduceNeg, cF, hk2, hk3, hk4, e1, e2]
      repeat' (first
        | (refine RgK.mk rfl ?_; simp -dsimp only [go_sem, reduceIte, reduceCtorEq, Nat.reduceEqDiff, Nat.reduceLT, Nat.reduceLeDiff, Nat.reduceAdd, Nat.reduceMul, Nat.reduceSub, Int.reduceToNat, Int.reduceNeg, cF, hk2, hk3, hk4, e1, e2])
        | (refine Br.mk (fun h => ?_) (fun h => ?_) <;> simp -dsimp only [go_sem, reduceIte, reduceCtorEq, Nat.reduceEqDiff, Nat.reduceLT, Nat.reduceLeDiff, Nat.reduceAdd, Nat.reduceMul, Nat.reduceSub, Int.reduceToNat, Int.reduceNeg, h, cF, hk2, hk3, hk4, e1, e2])
        | (refine CallK.flat (by first | exact l19Form f | exact l01Dec f.card (by omega) (by omega) | exact l01Dec f.place (by omega) (by omega) | exact l01Dec f.digit (by omega) (by omega)) rfl ?_; simp -dsimp only [go_sem, reduceIte, reduceCtorEq, Nat.reduceEqDiff, Nat.reduceLT, Nat.reduceLeDiff, Nat.reduceAdd, Nat.reduceMul, Nat.reduceSub, Int.reduceToNat, Int.reduceNeg, cF, hk2, hk3, hk4, e1, e2])
        | (refine CallK.pure (by first | exact l19Form f | exact l01Dec f.card (by omega) (by omega) | exact l01Dec f.place (by omega) (by omega) | exact l01Dec f.digit (by omega) (by omega)) ?_; simp -dsimp only [go_sem, reduceIte, reduceCtorEq, Nat.reduceEqDiff, Nat.reduceLT, Nat.reduceLeDiff, Nat.reduceAdd, Nat.reduceMul, Nat.reduceSub, Int.reduceToNat, Int.reduceNeg, cF, hk2, hk3, hk4, e1, e2])
        | (refine And.intro (by first | rfl | omega | decide | exact (by simp only [ByteArray.size_append, bsz, List.size_toArray, List.length_cons, List.length_nil]; omega) | (refine ⟨?_, ?_⟩ <;> (first | rfl | omega | decide | exact (by simp only [ByteArray.size_append, bsz, List.size_toArray, List.length_cons, List.length_nil]; omega))) | (refine ⟨?_, ?_, ?_⟩ <;> (first | rfl | omega | decide | exact (by simp only [ByteArray.size_append, bsz, List.size_toArray, List.length_cons, List.length_nil]; omega))) | (refine ⟨?_, ?_, ?_, ?_⟩ <;> (first | rfl | omega | decide | exact (by simp only [ByteArray.size_append, bsz, List.size_toArray, List.length_cons, List.length_nil]; omega)))) ?_)
        | fail)
      all_goals exact ret_eq (by simp [flX, *])
theorem impl_FaultText (f : Flt) : Vs.Fn Tryd.prog F.impl_FaultText [] [.agg (cF f)] (.v (.string (flT f))) [] := by
  cases hk : flB f
  · have hT : flT f = ⟨#[]⟩ := by simp [flT, hk]
    rw [hT]
    unfold flB at hk
    refine Cd.impl_FaultText_ok.fn0 Tryd.mixed Cd.impl_FaultText_nt Cd.impl_FaultText_rs rfl fun X => ?_
    unfold Cd.impl_FaultText
    simp -dsimp only [go_sem, reduceIte, reduceCtorEq, Nat.reduceEqDiff, Nat.reduceLT, Nat.reduceLeDiff, Nat.reduceAdd, Nat.reduceMul, Nat.reduceSub, Int.reduceToNat, Int.reduceNeg, cF, hk]
    repeat' (first
      | (refine RgK.mk rfl ?_; simp -dsimp only [go_sem, reduceIte, reduceCtorEq, Nat.reduceEqDiff, Nat.reduceLT, Nat.reduceLeDiff, Nat.reduceAdd, Nat.reduceMul, Nat.reduceSub, Int.reduceToNat, Int.reduceNeg, cF, hk])
      | (refine Br.mk (fun h => ?_) (fun h => ?_) <;> simp -dsimp only [go_sem, reduceIte, reduceCtorEq, Nat.reduceEqDiff, Nat.reduceLT, Nat.reduceLeDiff, Nat.reduceAdd, Nat.reduceMul, Nat.reduceSub, Int.reduceToNat, Int.reduceNeg, h, cF, hk])
      | (refine CallK.flat (by first | exact isFault f | exact inside _ _ _) rfl ?_; simp -dsimp only [go_sem, reduceIte, reduceCtorEq, Nat.reduceEqDiff, Nat.reduceLT, Nat.reduceLeDiff, Nat.reduceAdd, Nat.reduceMul, Nat.reduceSub, Int.reduceToNat, Int.reduceNeg, cF, hk])
      | (refine CallK.pure (by first | exact isFault f | exact inside _ _ _) ?_; simp -dsimp only [go_sem, reduceIte, reduceCtorEq, Nat.reduceEqDiff, Nat.reduceLT, Nat.reduceLeDiff, Nat.reduceAdd, Nat.reduceMul, Nat.reduceSub, Int.reduceToNat, Int.reduceNeg, cF, hk])
      | (refine And.intro (by first | rfl | omega | decide | (refine ⟨?_, ?_⟩ <;> (first | rfl | omega | decide)) | (refine ⟨?_, ?_, ?_⟩ <;> (first | rfl | omega | decide)) | (refine ⟨?_, ?_, ?_, ?_⟩ <;> (first | rfl | omega | decide))) ?_)
      | fail)
    all_goals first | exact ret_eq rfl | (exfalso; simp_all)
  · have hT : flT f = flX f := by simp [flT, hk]
    rw [hT]
    obtain ⟨⟨ha0, ha1⟩, ⟨hb0, hb1⟩, hc0, hc1⟩ := flB_rng hk
    have da := dcl_size (n := f.card) (by omega) (by omega)
    have db := dcl_size (n := f.place) (by omega) (by omega)
    have dc := dcl_size (n := f.digit) (by omega) (by omega)
    have hk2 := hk
    unfold flB at hk2
    have hk3 : isF f = true := by simp only [Bool.and_eq_true] at hk2; exact hk2.1
    have hk4 : inB f.card 0 11 = true := by simp only [Bool.and_eq_true] at hk2; exact hk2.2
    by_cases h1 : f.kind = 1
    · have e1 : (f.kind == 1) = true := beq_iff_eq.2 h1
      refine Cd.impl_FaultText_ok.fn0 Tryd.mixed Cd.impl_FaultText_nt Cd.impl_FaultText_rs rfl fun X => ?_
      unfold Cd.impl_FaultText
      simp -dsimp only [go_sem, reduceIte, reduceCtorEq, Nat.reduceEqDiff, Nat.reduceLT, Nat.reduceLeDiff, Nat.reduceAdd, Nat.reduceMul, Nat.reduceSub, Int.reduceToNat, Int.reduceNeg, cF, hk2, hk3, hk4, e1]
      repeat' (first
        | (refine RgK.mk rfl ?_; simp -dsimp only [go_sem, reduceIte, reduceCtorEq, Nat.reduceEqDiff, Nat.reduceLT, Nat.reduceLeDiff, Nat.reduceAdd, Nat.reduceMul, Nat.reduceSub, Int.reduceToNat, Int.reduceNeg, cF, hk2, hk3, hk4, e1])
        | (refine Br.mk (fun h => ?_) (fun h => ?_) <;> simp -dsimp only [go_sem, reduceIte, reduceCtorEq, Nat.reduceEqDiff, Nat.reduceLT, Nat.reduceLeDiff, Nat.reduceAdd, Nat.reduceMul, Nat.reduceSub, Int.reduceToNat, Int.reduceNeg, h, cF, hk2, hk3, hk4, e1])
        | (refine CallK.flat (by first | exact isFault f | exact inside _ _ _ | exact decimalA f.card (by omega) (by omega) | exact decimalA f.place (by omega) (by omega) | exact decimalA f.digit (by omega) (by omega)) rfl ?_; simp -dsimp only [go_sem, reduceIte, reduceCtorEq, Nat.reduceEqDiff, Nat.reduceLT, Nat.reduceLeDiff, Nat.reduceAdd, Nat.reduceMul, Nat.reduceSub, Int.reduceToNat, Int.reduceNeg, cF, hk2, hk3, hk4, e1])
        | (refine CallK.pure (by first | exact isFault f | exact inside _ _ _ | exact decimalA f.card (by omega) (by omega) | exact decimalA f.place (by omega) (by omega) | exact decimalA f.digit (by omega) (by omega)) ?_; simp -dsimp only [go_sem, reduceIte, reduceCtorEq, Nat.reduceEqDiff, Nat.reduceLT, Nat.reduceLeDiff, Nat.reduceAdd, Nat.reduceMul, Nat.reduceSub, Int.reduceToNat, Int.reduceNeg, cF, hk2, hk3, hk4, e1])
        | (refine And.intro (by first | rfl | omega | decide | exact (by simp only [ByteArray.size_append, bsz, List.size_toArray, List.length_cons, List.length_nil]; omega) | (refine ⟨?_, ?_⟩ <;> (first | rfl | omega | decide | exact (by simp only [ByteArray.size_append, bsz, List.size_toArray, List.length_cons, List.length_nil]; omega))) | (refine ⟨?_, ?_, ?_⟩ <;> (first | rfl | omega | decide | exact (by simp only [ByteArray.size_append, bsz, List.size_toArray, List.length_cons, List.length_nil]; omega))) | (refine ⟨?_, ?_, ?_, ?_⟩ <;> (first | rfl | omega | decide | exact (by simp only [ByteArray.size_append, bsz, List.size_toArray, List.length_cons, List.length_nil]; omega)))) ?_)
        | fail)
      all_goals exact ret_eq (by simp [flX, *])
    have e1 : (f.kind == 1) = false := beq_eq_false_iff_ne.2 h1
    by_cases h2 : f.kind = 2
    · have e2 : (f.kind == 2) = true := beq_iff_eq.2 h2
      refine Cd.impl_FaultText_ok.fn0 Tryd.mixed Cd.impl_FaultText_nt Cd.impl_FaultText_rs rfl fun X => ?_
      unfold Cd.impl_FaultText
      simp -dsimp only [go_sem, reduceIte, reduceCtorEq, Nat.reduceEqDiff, Nat.reduceLT, Nat.reduceLeDiff, Nat.reduceAdd, Nat.reduceMul, Nat.reduceSub, Int.reduceToNat, Int.reduceNeg, cF, hk2, hk3, hk4, e1, e2]
      repeat' (first
        | (refine RgK.mk rfl ?_; simp -dsimp only [go_sem, reduceIte, reduceCtorEq, Nat.reduceEqDiff, Nat.reduceLT, Nat.reduceLeDiff, Nat.reduceAdd, Nat.reduceMul, Nat.reduceSub, Int.reduceToNat, Int.reduceNeg, cF, hk2, hk3, hk4, e1, e2])
        | (refine Br.mk (fun h => ?_) (fun h => ?_) <;> simp -dsimp only [go_sem, reduceIte, reduceCtorEq, Nat.reduceEqDiff, Nat.reduceLT, Nat.reduceLeDiff, Nat.reduceAdd, Nat.reduceMul, Nat.reduceSub, Int.reduceToNat, Int.reduceNeg, h, cF, hk2, hk3, hk4, e1, e2])
        | (refine CallK.flat (by first | exact isFault f | exact inside _ _ _ | exact decimalA f.card (by omega) (by omega) | exact decimalA f.place (by omega) (by omega) | exact decimalA f.digit (by omega) (by omega)) rfl ?_; simp -dsimp only [go_sem, reduceIte, reduceCtorEq, Nat.reduceEqDiff, Nat.reduceLT, Nat.reduceLeDiff, Nat.reduceAdd, Nat.reduceMul, Nat.reduceSub, Int.reduceToNat, Int.reduceNeg, cF, hk2, hk3, hk4, e1, e2])
        | (refine CallK.pure (by first | exact isFault f | exact inside _ _ _ | exact decimalA f.card (by omega) (by omega) | exact decimalA f.place (by omega) (by omega) | exact decimalA f.digit (by omega) (by omega)) ?_; simp -dsimp only [go_sem, reduceIte, reduceCtorEq, Nat.reduceEqDiff, Nat.reduceLT, Nat.reduceLeDiff, Nat.reduceAdd, Nat.reduceMul, Nat.reduceSub, Int.reduceToNat, Int.reduceNeg, cF, hk2, hk3, hk4, e1, e2])
        | (refine And.intro (by first | rfl | omega | decide | exact (by simp only [ByteArray.size_append, bsz, List.size_toArray, List.length_cons, List.length_nil]; omega) | (refine ⟨?_, ?_⟩ <;> (first | rfl | omega | decide | exact (by simp only [ByteArray.size_append, bsz, List.size_toArray, List.length_cons, List.length_nil]; omega))) | (refine ⟨?_, ?_, ?_⟩ <;> (first | rfl | omega | decide | exact (by simp only [ByteArray.size_append, bsz, List.size_toArray, List.length_cons, List.length_nil]; omega))) | (refine ⟨?_, ?_, ?_, ?_⟩ <;> (first | rfl | omega | decide | exact (by simp only [ByteArray.size_append, bsz, List.size_toArray, List.length_cons, List.length_nil]; omega)))) ?_)
        | fail)
      all_goals exact ret_eq (by simp [flX, *])
    have e2 : (f.kind == 2) = false := beq_eq_false_iff_ne.2 h2
    · refine Cd.impl_FaultText_ok.fn0 Tryd.mixed Cd.impl_FaultText_nt Cd.impl_FaultText_rs rfl fun X => ?_
      unfold Cd.impl_FaultText
      simp -dsimp only [go_sem, reduceIte, reduceCtorEq, Nat.reduceEqDiff, Nat.reduceLT, Nat.reduceLeDiff, Nat.reduceAdd, Nat.reduceMul, Nat.reduceSub, Int.reduceToNat, Int.reduceNeg, cF, hk2, hk3, hk4, e1, e2]
      repeat' (first
        | (refine RgK.mk rfl ?_; simp -dsimp only [go_sem, reduceIte, reduceCtorEq, Nat.reduceEqDiff, Nat.reduceLT, Nat.reduceLeDiff, Nat.reduceAdd, Nat.reduceMul, Nat.reduceSub, Int.reduceToNat, Int.reduceNeg, cF, hk2, hk3, hk4, e1, e2])
        | (refine Br.mk (fun h => ?_) (fun h => ?_) <;> simp -dsimp only [go_sem, reduceIte, reduceCtorEq, Nat.reduceEqDiff, Nat.reduceLT, Nat.reduceLeDiff, Nat.reduceAdd, Nat.reduceMul, Nat.reduceSub, Int.reduceToNat, Int.reduceNeg, h, cF, hk2, hk3, hk4, e1, e2])
        | (refine CallK.flat (by first | exact isFault f | exact inside _ _ _ | exact decimalA f.card (by omega) (by omega) | exact decimalA f.place (by omega) (by omega) | exact decimalA f.digit (by omega) (by omega)) rfl ?_; simp -dsimp only [go_sem, reduceIte, reduceCtorEq, Nat.reduceEqDiff, Nat.reduceLT, Nat.reduceLeDiff, Nat.reduceAdd, Nat.reduceMul, Nat.reduceSub, Int.reduceToNat, Int.reduceNeg, cF, hk2, hk3, hk4, e1, e2])
        | (refine CallK.pure (by first | exact isFault f | exact inside _ _ _ | exact decimalA f.card (by omega) (by omega) | exact decimalA f.place (by omega) (by omega) | exact decimalA f.digit (by omega) (by omega)) ?_; simp -dsimp only [go_sem, reduceIte, reduceCtorEq, Nat.reduceEqDiff, Nat.reduceLT, Nat.reduceLeDiff, Nat.reduceAdd, Nat.reduceMul, Nat.reduceSub, Int.reduceToNat, Int.reduceNeg, cF, hk2, hk3, hk4, e1, e2])
        | (refine And.intro (by first | rfl | omega | decide | exact (by simp only [ByteArray.size_append, bsz, List.size_toArray, List.length_cons, List.length_nil]; omega) | (refine ⟨?_, ?_⟩ <;> (first | rfl | omega | decide | exact (by simp only [ByteArray.size_append, bsz, List.size_toArray, List.length_cons, List.length_nil]; omega))) | (refine ⟨?_, ?_, ?_⟩ <;> (first | rfl | omega | decide | exact (by simp only [ByteArray.size_append, bsz, List.size_toArray, List.length_cons, List.length_nil]; omega))) | (refine ⟨?_, ?_, ?_, ?_⟩ <;> (first | rfl | omega | decide | exact (by simp only [ByteArray.size_append, bsz, List.size_toArray, List.length_cons, List.length_nil]; omega)))) ?_)
        | fail)
      all_goals exact ret_eq (by simp [flX, *])
theorem law_FaultText (f : Flt) : Vs.Fn Tryd.prog F.laws_FnExactFaultText [] [.agg (cF f)] (.v (.bool true)) [] := by
  refine Cd.laws_FnExactFaultText_ok.fn0 Tryd.mixed Cd.laws_FnExactFaultText_nt Cd.laws_FnExactFaultText_rs rfl fun X => ?_
  unfold Cd.laws_FnExactFaultText
  simp -dsimp only [go_sem, reduceIte, reduceCtorEq, Nat.reduceEqDiff, Nat.reduceLT, Nat.reduceLeDiff, Nat.reduceAdd, Nat.reduceMul, Nat.reduceSub, Int.reduceToNat, Int.reduceNeg, cF]
  repeat' (first
    | (refine RgK.mk rfl ?_; simp -dsimp only [go_sem, reduceIte, reduceCtorEq, Nat.reduceEqDiff, Nat.reduceLT, Nat.reduceLeDiff, Nat.reduceAdd, Nat.reduceMul, Nat.reduceSub, Int.reduceToNat, Int.reduceNeg, cF])
    | (refine Br.mk (fun h => ?_) (fun h => ?_) <;> simp -dsimp only [go_sem, reduceIte, reduceCtorEq, Nat.reduceEqDiff, Nat.reduceLT, Nat.reduceLeDiff, Nat.reduceAdd, Nat.reduceMul, Nat.reduceSub, Int.reduceToNat, Int.reduceNeg, h, cF])
    | (refine CallK.flat (by first | exact toFaultO f | exact spec_FaultText f | exact impl_FaultText f) rfl ?_; simp -dsimp only [go_sem, reduceIte, reduceCtorEq, Nat.reduceEqDiff, Nat.reduceLT, Nat.reduceLeDiff, Nat.reduceAdd, Nat.reduceMul, Nat.reduceSub, Int.reduceToNat, Int.reduceNeg, cF])
    | (refine CallK.pure (by first | exact toFaultO f | exact spec_FaultText f | exact impl_FaultText f) ?_; simp -dsimp only [go_sem, reduceIte, reduceCtorEq, Nat.reduceEqDiff, Nat.reduceLT, Nat.reduceLeDiff, Nat.reduceAdd, Nat.reduceMul, Nat.reduceSub, Int.reduceToNat, Int.reduceNeg, cF])
    | (refine And.intro (by first | rfl | omega | decide | (refine ⟨?_, ?_⟩ <;> (first | rfl | omega | decide)) | (refine ⟨?_, ?_, ?_⟩ <;> (first | rfl | omega | decide)) | (refine ⟨?_, ?_, ?_, ?_⟩ <;> (first | rfl | omega | decide))) ?_)
    | fail)
  all_goals (simp_all)

end Go.Proofs.YthpokkcbbpapdaaDoor
