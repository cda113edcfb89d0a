/- The texts of control totals and of faults, as the program gives them and as the reference does. -/
import Derived.Test.YthpokkcbbpapdaaDoorTwZc
import Derived.Test.YthpokkcbbpapdaaDoorTwA
import Derived.Test.YthpokkcbbpapdaaDoorTuB
namespace Go.Proofs.YthpokkcbbpapdaaDoor
open Go.Vs
set_option linter.unusedSimpArgs false
set_option linter.unusedVariables false
attribute [local irreducible] Vs.Fn

theorem bsz (a : Array UInt8) : (ByteArray.mk a).size = a.size := rfl
theorem okC_rng {a b c : Int} (h : okC a b c = true) : (0 ≤ a ∧ a ≤ 1000000) ∧ (-1000000000000000 ≤ b ∧ b ≤ 1000000000000000) ∧ (0 ≤ c ∧ c ≤ 1000000000) := by
  simp only [okC, inB, Bool.and_eq_true, decide_eq_true_eq] at h
  omega
/-- control totals in words -/
def ctX (a b c : Int) : ByteArray := dcl a ++ ⟨#[32, 99, 97, 114, 100, 115, 32]⟩ ++ dcl b ++ ⟨#[32, 115, 117, 109, 32]⟩ ++ dcl c ++ ⟨#[32, 100, 105, 103, 105, 116, 115]⟩
def ctT (a b c : Int) : ByteArray := if okC a b c then ctX a b c else ⟨#[]⟩
theorem l18Text (a b c : Int) (hk : okC a b c = true) : Vs.Fn Tryd.prog F.spec_l18Text [] [.agg [.v (.int .i64 a), .v (.int .i64 b), .v (.int .i64 c)]] (.v (.string (ctX a b c))) [] := by
  obtain ⟨⟨ha0, ha1⟩, ⟨hb0, hb1⟩, hc0, hc1⟩ := okC_rng hk
  have da := dcl_size (n := a) (by omega) (by omega)
  have db := dcl_size (n := b) (by omega) (by omega)
  have dc := dcl_size (n := c) (by omega) (by omega)
  refine Cd.spec_l18Text_ok.fn0 Tryd.mixed Cd.spec_l18Text_nt Cd.spec_l18Text_rs rfl fun X => ?_
  unfold Cd.spec_l18Text
  simp -dsimp only [go_sem, reduceIte, reduceCtorEq, Nat.reduceEqDiff, Nat.reduceLT, Nat.reduceLeDiff, Nat.reduceAdd, Nat.reduceMul, Nat.reduceSub, Int.reduceToNat, Int.reduceNeg]
  repeat' (first
    | (refine RgK.mk rfl ?_; simp -dsimp only [go_sem, reduceIte, reduceCtorEq, Nat.reduceEqDiff, Nat.reduceLT, Nat.reduceLeDiff, Nat.reduceAdd, Nat.reduceMul, Nat.reduceSub, Int.reduceToNat, Int.reduceNeg])
    | (refine Br.mk (fun h => ?_) (fun h => ?_) <;> simp -dsimp only [go_sem, reduceIte, reduceCtorEq, Nat.reduceEqDiff, Nat.reduceLT, Nat.reduceLeDiff, Nat.reduceAdd, Nat.reduceMul, Nat.reduceSub, Int.reduceToNat, Int.reduceNeg, h])
    | (refine CallK.flat (by first | exact l01Dec a (by omega) (by omega) | exact l01Dec b (by omega) (by omega) | exact l01Dec c (by omega) (by omega)) rfl ?_; simp -dsimp only [go_sem, reduceIte, reduceCtorEq, Nat.reduceEqDiff, Nat.reduceLT, Nat.reduceLeDiff, Nat.reduceAdd, Nat.reduceMul, Nat.reduceSub, Int.reduceToNat, Int.reduceNeg])
    | (refine CallK.pure (by first | exact l01Dec a (by omega) (by omega) | exact l01Dec b (by omega) (by omega) | exact l01Dec c (by omega) (by omega)) ?_; simp -dsimp only [go_sem, reduceIte, reduceCtorEq, Nat.reduceEqDiff, Nat.reduceLT, Nat.reduceLeDiff, Nat.reduceAdd, Nat.reduceMul, Nat.reduceSub, Int.reduceToNat, Int.reduceNeg])
    | (refine And.intro (by first | rfl | omega | decide | exact (by simp only [ByteArray.size_append, bsz, List.size_toArray, List.length_cons, List.length_nil]; omega) | (refine ⟨?_, ?_⟩ <;> (first | rfl | omega | decide | exact (by simp only [ByteArray.size_append, bsz, List.size_toArray, List.length_cons, List.length_nil]; omega))) | (refine ⟨?_, ?_, ?_⟩ <;> (first | rfl | omega | decide | exact (by simp only [ByteArray.size_append, bsz, List.size_toArray, List.length_cons, List.length_nil]; omega))) | (refine ⟨?_, ?_, ?_, ?_⟩ <;> (first | rfl | omega | decide | exact (by simp only [ByteArray.size_append, bsz, List.size_toArray, List.length_cons, List.length_nil]; omega)))) ?_)
    | fail)
  all_goals (exact ret_eq rfl)

theorem spec_ControlText (a b c : Int) : Vs.Fn Tryd.prog F.spec_ControlText [] [.agg [.v (.int .i64 a), .v (.int .i64 b), .v (.int .i64 c)]] (.v (.string (ctT a b c))) [] := by
  cases hk : okC a b c
  · have hT : ctT a b c = ⟨#[]⟩ := by simp [ctT, hk]
    rw [hT]
    refine Cd.spec_ControlText_ok.fn0 Tryd.mixed Cd.spec_ControlText_nt Cd.spec_ControlText_rs rfl fun X => ?_
    unfold Cd.spec_ControlText
    simp -dsimp only [go_sem, reduceIte, reduceCtorEq, Nat.reduceEqDiff, Nat.reduceLT, Nat.reduceLeDiff, Nat.reduceAdd, Nat.reduceMul, Nat.reduceSub, Int.reduceToNat, Int.reduceNeg, hk]
    repeat' (first
      | (refine RgK.mk rfl ?_; simp -dsimp only [go_sem, reduceIte, reduceCtorEq, Nat.reduceEqDiff, Nat.reduceLT, Nat.reduceLeDiff, Nat.reduceAdd, Nat.reduceMul, Nat.reduceSub, Int.reduceToNat, Int.reduceNeg, hk])
      | (refine Br.mk (fun h => ?_) (fun h => ?_) <;> simp -dsimp only [go_sem, reduceIte, reduceCtorEq, Nat.reduceEqDiff, Nat.reduceLT, Nat.reduceLeDiff, Nat.reduceAdd, Nat.reduceMul, Nat.reduceSub, Int.reduceToNat, Int.reduceNeg, h, hk])
      | (refine CallK.flat (by first | exact l18Ok a b c) rfl ?_; simp -dsimp only [go_sem, reduceIte, reduceCtorEq, Nat.reduceEqDiff, Nat.reduceLT, Nat.reduceLeDiff, Nat.reduceAdd, Nat.reduceMul, Nat.reduceSub, Int.reduceToNat, Int.reduceNeg, hk])
      | (refine CallK.pure (by first | exact l18Ok a b c) ?_; simp -dsimp only [go_sem, reduceIte, reduceCtorEq, Nat.reduceEqDiff, Nat.reduceLT, Nat.reduceLeDiff, Nat.reduceAdd, Nat.reduceMul, Nat.reduceSub, Int.reduceToNat, Int.reduceNeg, hk])
      | (refine And.intro (by first | rfl | omega | decide | (refine ⟨?_, ?_⟩ <;> (first | rfl | omega | decide)) | (refine ⟨?_, ?_, ?_⟩ <;> (first | rfl | omega | decide)) | (refine ⟨?_, ?_, ?_, ?_⟩ <;> (first | rfl | omega | decide))) ?_)
      | fail)
    all_goals exact ret_eq rfl
  · have hT : ctT a b c = ctX a b c := by simp [ctT, hk]
    rw [hT]
    obtain ⟨⟨ha0, ha1⟩, ⟨hb0, hb1⟩, hc0, hc1⟩ := okC_rng hk
    have da := dcl_size (n := a) (by omega) (by omega)
    have db := dcl_size (n := b) (by omega) (by omega)
    have dc := dcl_size (n := c) (by omega) (by omega)
    refine Cd.spec_ControlText_ok.fn0 Tryd.mixed Cd.spec_ControlText_nt Cd.spec_ControlText_rs rfl fun X => ?_
    unfold Cd.spec_ControlText
    simp -dsimp only [go_sem, reduceIte, reduceCtorEq, Nat.reduceEqDiff, Nat.reduceLT, Nat.reduceLeDiff, Nat.reduceAdd, Nat.reduceMul, Nat.reduceSub, Int.reduceToNat, Int.reduceNeg, hk]
    repeat' (first
      | (refine RgK.mk rfl ?_; simp -dsimp only [go_sem, reduceIte, reduceCtorEq, Nat.reduceEqDiff, Nat.reduceLT, Nat.reduceLeDiff, Nat.reduceAdd, Nat.reduceMul, Nat.reduceSub, Int.reduceToNat, Int.reduceNeg, hk])
      | (refine Br.mk (fun h => ?_) (fun h => ?_) <;> simp -dsimp only [go_sem, reduceIte, reduceCtorEq, Nat.reduceEqDiff, Nat.reduceLT, Nat.reduceLeDiff, Nat.reduceAdd, Nat.reduceMul, Nat.reduceSub, Int.reduceToNat, Int.reduceNeg, h, hk])
      | (refine CallK.flat (by first | exact l18Ok a b c | exact l18Text a b c hk) rfl ?_; simp -dsimp only [go_sem, reduceIte, reduceCtorEq, Nat.reduceEqDiff, Nat.reduceLT, Nat.reduceLeDiff, Nat.reduceAdd, Nat.reduceMul, Nat.reduceSub, Int.reduceToNat, Int.reduceNeg, hk])
      | (refine CallK.pure (by first | exact l18Ok a b c | exact l18Text a b c hk) ?_; simp -dsimp only [go_sem, reduceIte, reduceCtorEq, Nat.reduceEqDiff, Nat.reduceLT, Nat.reduceLeDiff, Nat.reduceAdd, Nat.reduceMul, Nat.reduceSub, Int.reduceToNat, Int.reduceNeg, hk])
      | (refine And.intro (by first | rfl | omega | decide | exact (by simp only [ByteArray.size_append, bsz, List.size_toArray, List.length_cons, List.length_nil]; omega) | (refine ⟨?_, ?_⟩ <;> (first | rfl | omega | decide | exact (by simp only [ByteArray.size_append, bsz, List.size_toArray, List.length_cons, List.length_nil]; omega))) | (refine ⟨?_, ?_, ?_⟩ <;> (first | rfl | omega | decide | exact (by simp only [ByteArray.size_append, bsz, List.size_toArray, List.length_cons, List.length_nil]; omega))) | (refine ⟨?_, ?_, ?_, ?_⟩ <;> (first | rfl | omega | decide | exact (by simp only [ByteArray.size_append, bsz, List.size_toArray, List.length_cons, List.length_nil]; omega)))) ?_)
      | fail)
    all_goals exact ret_eq rfl
theorem impl_ControlText (a b c : Int) : Vs.Fn Tryd.prog F.impl_ControlText [] [.agg [.v (.int .i64 a), .v (.int .i64 b), .v (.int .i64 c)]] (.v (.string (ctT a b c))) [] := by
  cases hk : okC a b c
  · have hT : ctT a b c = ⟨#[]⟩ := by simp [ctT, hk]
    rw [hT]
    refine Cd.impl_ControlText_ok.fn0 Tryd.mixed Cd.impl_ControlText_nt Cd.impl_ControlText_rs rfl fun X => ?_
    unfold Cd.impl_ControlText
    simp -dsimp only [go_sem, reduceIte, reduceCtorEq, Nat.reduceEqDiff, Nat.reduceLT, Nat.reduceLeDiff, Nat.reduceAdd, Nat.reduceMul, Nat.reduceSub, Int.reduceToNat, Int.reduceNeg, hk]
    repeat' (first
      | (refine RgK.mk rfl ?_; simp -dsimp only [go_sem, reduceIte, reduceCtorEq, Nat.reduceEqDiff, Nat.reduceLT, Nat.reduceLeDiff, Nat.reduceAdd, Nat.reduceMul, Nat.reduceSub, Int.reduceToNat, Int.reduceNeg, hk])
      | (refine Br.mk (fun h => ?_) (fun h => ?_) <;> simp -dsimp only [go_sem, reduceIte, reduceCtorEq, Nat.reduceEqDiff, Nat.reduceLT, Nat.reduceLeDiff, Nat.reduceAdd, Nat.reduceMul, Nat.reduceSub, Int.reduceToNat, Int.reduceNeg, h, hk])
      | (refine CallK.flat (by first | exact isPlainControl a b c) rfl ?_; simp -dsimp only [go_sem, reduceIte, reduceCtorEq, Nat.reduceEqDiff, Nat.reduceLT, Nat.reduceLeDiff, Nat.reduceAdd, Nat.reduceMul, Nat.reduceSub, Int.reduceToNat, Int.reduceNeg, hk])
      | (refine CallK.pure (by first | exact isPlainControl a b c) ?_; simp -dsimp only [go_sem, reduceIte, reduceCtorEq, Nat.reduceEqDiff, Nat.reduceLT, Nat.reduceLeDiff, Nat.reduceAdd, Nat.reduceMul, Nat.reduceSub, Int.reduceToNat, Int.reduceNeg, hk])
      | (refine And.intro (by first | rfl | omega | decide | (refine ⟨?_, ?_⟩ <;> (first | rfl | omega | decide)) | (refine ⟨?_, ?_, ?_⟩ <;> (first | rfl | omega | decide)) | (refine ⟨?_, ?_, ?_, ?_⟩ <;> (first | rfl | omega | decide))) ?_)
      | fail)
    all_goals exact ret_eq rfl
  · have hT : ctT a b c = ctX a b c := by simp [ctT, hk]
    rw [hT]
    obtain ⟨⟨ha0, ha1⟩, ⟨hb0, hb1⟩, hc0, hc1⟩ := okC_rng hk
    have da := dcl_size (n := a) (by omega) (by omega)
    have db := dcl_size (n := b) (by omega) (by omega)
    have dc := dcl_size (n := c) (by omega) (by omega)
    refine Cd.impl_ControlText_ok.fn0 Tryd.mixed Cd.impl_ControlText_nt Cd.impl_ControlText_rs rfl fun X => ?_
    unfold Cd.impl_ControlText
    simp -dsimp only [go_sem, reduceIte, reduceCtorEq, Nat.reduceEqDiff, Nat.reduceLT, Nat.reduceLeDiff, Nat.reduceAdd, Nat.reduceMul, Nat.reduceSub, Int.reduceToNat, Int.reduceNeg, hk]
    repeat' (first
      | (refine RgK.mk rfl ?_; simp -dsimp only [go_sem, reduceIte, reduceCtorEq, Nat.reduceEqDiff, Nat.reduceLT, Nat.reduceLeDiff, Nat.reduceAdd, Nat.reduceMul, Nat.reduceSub, Int.reduceToNat, Int.reduceNeg, hk])
      | (refine Br.mk (fun h => ?_) (fun h => ?_) <;> simp -dsimp only [go_sem, reduceIte, reduceCtorEq, Nat.reduceEqDiff, Nat.reduceLT, Nat.reduceLeDiff, Nat.reduceAdd, Nat.reduceMul, Nat.reduceSub, Int.reduceToNat, Int.reduceNeg, h, hk])
      | (refine CallK.flat (by first | exact isPlainControl a b c | exact decimalA a (by omega) (by omega) | exact decimalA b (by omega) (by omega) | exact decimalA c (by omega) (by omega)) rfl ?_; simp -dsimp only [go_sem, reduceIte, reduceCtorEq, Nat.reduceEqDiff, Nat.reduceLT, Nat.reduceLeDiff, Nat.reduceAdd, Nat.reduceMul, Nat.reduceSub, Int.reduceToNat, Int.reduceNeg, hk])
      | (refine CallK.pure (by first | exact isPlainControl a b c | exact decimalA a (by omega) (by omega) | exact decimalA b (by omega) (by omega) | exact decimalA c (by omega) (by omega)) ?_; simp -dsimp only [go_sem, reduceIte, reduceCtorEq, Nat.reduceEqDiff, Nat.reduceLT, Nat.reduceLeDiff, Nat.reduceAdd, Nat.reduceMul, Nat.reduceSub, Int.reduceToNat, Int.reduceNeg, hk])
      | (refine And.intro (by first | rfl | omega | decide | exact (by simp only [ByteArray.size_append, bsz, List.size_toArray, List.length_cons, List.length_nil]; omega) | (refine ⟨?_, ?_⟩ <;> (first | rfl | omega | decide | exact (by simp only [ByteArray.size_append, bsz, List.size_toArray, List.length_cons, List.length_nil]; omega))) | (refine ⟨?_, ?_, ?_⟩ <;> (first | rfl | omega | decide | exact (by simp only [ByteArray.size_append, bsz, List.size_toArray, List.length_cons, List.length_nil]; omega))) | (refine ⟨?_, ?_, ?_, ?_⟩ <;> (first | rfl | omega | decide | exact (by simp only [ByteArray.size_append, bsz, List.size_toArray, List.length_cons, List.length_nil]; omega)))) ?_)
      | fail)
    all_goals exact ret_eq rfl
theorem law_ControlText (a b c : Int) : Vs.Fn Tryd.prog F.laws_FnExactControlText [] [.agg [.v (.int .i64 a), .v (.int .i64 b), .v (.int .i64 c)]] (.v (.bool true)) [] := by
  refine Cd.laws_FnExactControlText_ok.fn0 Tryd.mixed Cd.laws_FnExactControlText_nt Cd.laws_FnExactControlText_rs rfl fun X => ?_
  unfold Cd.laws_FnExactControlText
  simp -dsimp only [go_sem, reduceIte, reduceCtorEq, Nat.reduceEqDiff, Nat.reduceLT, Nat.reduceLeDiff, Nat.reduceAdd, Nat.reduceMul, Nat.reduceSub, Int.reduceToNat, Int.reduceNeg]
  repeat' (first
    | (refine RgK.mk rfl ?_; simp -dsimp only [go_sem, reduceIte, reduceCtorEq, Nat.reduceEqDiff, Nat.reduceLT, Nat.reduceLeDiff, Nat.reduceAdd, Nat.reduceMul, Nat.reduceSub, Int.reduceToNat, Int.reduceNeg])
    | (refine Br.mk (fun h => ?_) (fun h => ?_) <;> simp -dsimp only [go_sem, reduceIte, reduceCtorEq, Nat.reduceEqDiff, Nat.reduceLT, Nat.reduceLeDiff, Nat.reduceAdd, Nat.reduceMul, Nat.reduceSub, Int.reduceToNat, Int.reduceNeg, h])
    | (refine CallK.flat (by first | exact toControl a b c | exact spec_ControlText a b c | exact impl_ControlText a b c) rfl ?_; simp -dsimp only [go_sem, reduceIte, reduceCtorEq, Nat.reduceEqDiff, Nat.reduceLT, Nat.reduceLeDiff, Nat.reduceAdd, Nat.reduceMul, Nat.reduceSub, Int.reduceToNat, Int.reduceNeg])
    | (refine CallK.pure (by first | exact toControl a b c | exact spec_ControlText a b c | exact impl_ControlText a b c) ?_; simp -dsimp only [go_sem, reduceIte, reduceCtorEq, Nat.reduceEqDiff, Nat.reduceLT, Nat.reduceLeDiff, Nat.reduceAdd, Nat.reduceMul, Nat.reduceSub, Int.reduceToNat, Int.reduceNeg])
    | (refine And.intro (by first | rfl | omega | decide | (refine ⟨?_, ?_⟩ <;> (first | rfl | omega | decide)) | (refine ⟨?_, ?_, ?_⟩ <;> (first | rfl | omega | decide)) | (refine ⟨?_, ?_, ?_, ?_⟩ <;> (first | rfl | omega | decide))) ?_)
    | fail)
  all_goals (simp_all)

end Go.Proofs.YthpokkcbbpapdaaDoor
