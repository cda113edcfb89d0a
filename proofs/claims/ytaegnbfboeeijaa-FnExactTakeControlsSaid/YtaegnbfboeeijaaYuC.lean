/-
  The laws FnExactAddControls and FnExactTakeControls return true for every input, and their arguments read behind the call as they read before. Conditions: none beyond the given statements.
-/
import Derived.Test.YtaegnbfboeeijaaYuB
import Derived.Test.YtaegnbfboeeijaaVtE
namespace Go.Proofs.Ytaegnbfboeeijaa
open Go.Vs
set_option linter.unusedSimpArgs false
set_option linter.unusedVariables false
attribute [local irreducible] Vs.Fn

theorem okC_spec {a b c : Int} (h : okC a b c = true) : (0 ≤ a ∧ a ≤ 1000000) ∧ (-1000000000000000 ≤ b ∧ b ≤ 1000000000000000) ∧ 0 ≤ c ∧ c ≤ 1000000000 := by
  simp only [okC, inB, Bool.and_eq_true, decide_eq_true_eq] at h
  omega
theorem W_in {n : Int} (h1 : -9223372036854775808 ≤ n) (h2 : n ≤ 9223372036854775807) : W n = n := wrap_in h1 h2
theorem join_add (a b c x y z : Int) : joinR a b c x y z (W (a + W (1 * x))) (W (b + W (1 * y))) (W (c + W (1 * z))) = joinR a b c x y z (W (a + x)) (W (b + y)) (W (c + z)) := by
  unfold joinR
  split
  · rename_i h
    simp only [Bool.and_eq_true] at h
    have h1 := okC_spec h.1
    have h2 := okC_spec h.2
    rw [W_in (n := 1 * x) (by omega) (by omega), W_in (n := 1 * y) (by omega) (by omega), W_in (n := 1 * z) (by omega) (by omega)]
    simp only [Int.one_mul]
  · rfl
theorem join_take (a b c x y z : Int) : joinR a b c x y z (W (a + W (-1 * x))) (W (b + W (-1 * y))) (W (c + W (-1 * z))) = joinR a b c x y z (W (a - x)) (W (b - y)) (W (c - z)) := by
  unfold joinR
  split
  · rename_i h
    simp only [Bool.and_eq_true] at h
    have h1 := okC_spec h.1
    have h2 := okC_spec h.2
    rw [W_in (n := -1 * x) (by omega) (by omega), W_in (n := -1 * y) (by omega) (by omega), W_in (n := -1 * z) (by omega) (by omega)]
    rw [show a + -1 * x = a - x by omega, show b + -1 * y = b - y by omega, show c + -1 * z = c - z by omega]
  · rfl
theorem law_Add (a b c x y z : Int) : Vs.Fn Try.prog F.laws_FnExactAddControls [] [.agg [.v (.int .i64 a), .v (.int .i64 b), .v (.int .i64 c)], .agg [.v (.int .i64 x), .v (.int .i64 y), .v (.int .i64 z)]] (.v (.bool true)) [] := by
  refine Cd.laws_FnExactAddControls_ok.fn0 Try.mixed Cd.laws_FnExactAddControls_nt Cd.laws_FnExactAddControls_rs rfl fun X => ?_
  unfold Cd.laws_FnExactAddControls
  simp -dsimp only [go_sem, reduceIte, reduceCtorEq, Nat.reduceEqDiff, Nat.reduceLT, Nat.reduceLeDiff, Nat.reduceAdd, Nat.reduceMul, Nat.reduceSub, Int.reduceToNat, Int.reduceNeg, Ld.t24, join_add]
  repeat' (first
    | (refine RgK.mk rfl ?_; simp -dsimp only [go_sem, reduceIte, reduceCtorEq, Nat.reduceEqDiff, Nat.reduceLT, Nat.reduceLeDiff, Nat.reduceAdd, Nat.reduceMul, Nat.reduceSub, Int.reduceToNat, Int.reduceNeg, Ld.t24, join_add])
    | (refine Br.mk (fun h => ?_) (fun h => ?_) <;> simp -dsimp only [go_sem, reduceIte, reduceCtorEq, Nat.reduceEqDiff, Nat.reduceLT, Nat.reduceLeDiff, Nat.reduceAdd, Nat.reduceMul, Nat.reduceSub, Int.reduceToNat, Int.reduceNeg, h, Ld.t24, join_add])
    | (refine CallK.flat (by first | exact toControl _ _ _ | exact spec_Add _ _ _ _ _ _ | exact impl_Add _ _ _ _ _ _ | exact eqControl _ _ _ _ _ _) rfl ?_; simp -dsimp only [go_sem, reduceIte, reduceCtorEq, Nat.reduceEqDiff, Nat.reduceLT, Nat.reduceLeDiff, Nat.reduceAdd, Nat.reduceMul, Nat.reduceSub, Int.reduceToNat, Int.reduceNeg, Ld.t24, join_add])
    | (refine CallK.pure (by first | exact toControl _ _ _ | exact spec_Add _ _ _ _ _ _ | exact impl_Add _ _ _ _ _ _ | exact eqControl _ _ _ _ _ _) ?_; simp -dsimp only [go_sem, reduceIte, reduceCtorEq, Nat.reduceEqDiff, Nat.reduceLT, Nat.reduceLeDiff, Nat.reduceAdd, Nat.reduceMul, Nat.reduceSub, Int.reduceToNat, Int.reduceNeg, Ld.t24, join_add])
    | (refine And.intro (by first | rfl | decide | omega | exact ⟨rfl, rfl⟩) ?_))
  all_goals (simp_all)

theorem law_Take (a b c x y z : Int) : Vs.Fn Try.prog F.laws_FnExactTakeControls [] [.agg [.v (.int .i64 a), .v (.int .i64 b), .v (.int .i64 c)], .agg [.v (.int .i64 x), .v (.int .i64 y), .v (.int .i64 z)]] (.v (.bool true)) [] := by
  refine Cd.laws_FnExactTakeControls_ok.fn0 Try.mixed Cd.laws_FnExactTakeControls_nt Cd.laws_FnExactTakeControls_rs rfl fun X => ?_
  unfold Cd.laws_FnExactTakeControls
  simp -dsimp only [go_sem, reduceIte, reduceCtorEq, Nat.reduceEqDiff, Nat.reduceLT, Nat.reduceLeDiff, Nat.reduceAdd, Nat.reduceMul, Nat.reduceSub, Int.reduceToNat, Int.reduceNeg, Ld.t24, join_take]
  repeat' (first
    | (refine RgK.mk rfl ?_; simp -dsimp only [go_sem, reduceIte, reduceCtorEq, Nat.reduceEqDiff, Nat.reduceLT, Nat.reduceLeDiff, Nat.reduceAdd, Nat.reduceMul, Nat.reduceSub, Int.reduceToNat, Int.reduceNeg, Ld.t24, join_take])
    | (refine Br.mk (fun h => ?_) (fun h => ?_) <;> simp -dsimp only [go_sem, reduceIte, reduceCtorEq, Nat.reduceEqDiff, Nat.reduceLT, Nat.reduceLeDiff, Nat.reduceAdd, Nat.reduceMul, Nat.reduceSub, Int.reduceToNat, Int.reduceNeg, h, Ld.t24, join_take])
    | (refine CallK.flat (by first | exact toControl _ _ _ | exact spec_Take _ _ _ _ _ _ | exact impl_Take _ _ _ _ _ _ | exact eqControl _ _ _ _ _ _) rfl ?_; simp -dsimp only [go_sem, reduceIte, reduceCtorEq, Nat.reduceEqDiff, Nat.reduceLT, Nat.reduceLeDiff, Nat.reduceAdd, Nat.reduceMul, Nat.reduceSub, Int.reduceToNat, Int.reduceNeg, Ld.t24, join_take])
    | (refine CallK.pure (by first | exact toControl _ _ _ | exact spec_Take _ _ _ _ _ _ | exact impl_Take _ _ _ _ _ _ | exact eqControl _ _ _ _ _ _) ?_; simp -dsimp only [go_sem, reduceIte, reduceCtorEq, Nat.reduceEqDiff, Nat.reduceLT, Nat.reduceLeDiff, Nat.reduceAdd, Nat.reduceMul, Nat.reduceSub, Int.reduceToNat, Int.reduceNeg, Ld.t24, join_take])
    | (refine And.intro (by first | rfl | decide | omega | exact ⟨rfl, rfl⟩) ?_))
  all_goals (simp_all)


set_option maxRecDepth 100000 in
theorem opensControl : Opens Try.prog 23 3 (fun p : I64 × I64 × I64 => [.v (.int .i64 p.1.1)] ++ ([.v (.int .i64 p.2.1.1)] ++ [.v (.int .i64 p.2.2.1)])) :=
  Opens.struct Try.underlying23 (by kernel_rfl) (OpensF.cons (Opens.int Try.underlying2 (by kernel_rfl)) rfl (OpensF.cons (Opens.int Try.underlying2 (by kernel_rfl)) rfl (OpensF.one (Opens.int Try.underlying2 (by kernel_rfl)) rfl)))

set_option maxRecDepth 100000 in
theorem add_lifted (os : Os) (started : os.Started) (H : Type) (enc : TypeId × Value → H) :
    ReturnsInHanded {} Try.checked os F.laws_FnExactAddControls .any (Rows.fnExactAddControlsSpec.pre6 enc Try.prog Try.f3 Rows.fnExactAddControlsRow.domain false) (Rows.fnExactAddControlsSpec.post enc Try.prog Try.f3 false true false false) :=
  law_returns (C := Try.checked) Try.own started (by kernel_rfl) Try.func3
    (ChangeSpec.witness6 (enc := enc) (C := Try.checked) false ⟨#[], #[.agg #[.int .i64 0, .int .i64 0, .int .i64 0], .agg #[.int .i64 0, .int .i64 0, .int .i64 0]], []⟩ 8 (by kernel_rfl) (by kernel_rfl) (by kernel_rfl) (by kernel_rfl))
    Try.laidOut (by kernel_rfl) rfl Try.underlying4 rfl (fun ds h => by match ds, h with | [_, _], _ => exact ⟨rfl, rfl, rfl⟩)
    (Args.cons (Arg.struct Try.underlying23 opensControl) (Args.cons (Arg.struct Try.underlying23 opensControl) Args.nil)) (fun a => law_Add a.1.1.1 a.1.2.1.1 a.1.2.2.1 a.2.1.1.1 a.2.1.2.1.1 a.2.1.2.2.1)

theorem add_holds : Rows.FnExactAddControlsSaid :=
  OpenClaim.holds_of_wide 3 Try.f3 rfl rfl rfl rfl rfl rfl rfl ⟨rfl, rfl, rfl, rfl, rfl⟩ rfl rfl rfl rfl rfl (by kernel_rfl) Try.func3 (by kernel_rfl)
    (of_decide_eq_true (by kernel_rfl)) (by unfold Func.isWrapper; first | (rw [if_pos (by decide +kernel)]; kernel_rfl) | (rw [if_neg (by decide +kernel)]; exact ⟨rfl, rfl⟩))
    (fun os started H enc _ => add_lifted os started H enc)
#print axioms add_holds

set_option maxRecDepth 100000 in
theorem take_lifted (os : Os) (started : os.Started) (H : Type) (enc : TypeId × Value → H) :
    ReturnsInHanded {} Try.checked os F.laws_FnExactTakeControls .any (Rows.fnExactTakeControlsSpec.pre6 enc Try.prog Try.f4 Rows.fnExactTakeControlsRow.domain false) (Rows.fnExactTakeControlsSpec.post enc Try.prog Try.f4 false true false false) :=
  law_returns (C := Try.checked) Try.own started (by kernel_rfl) Try.func4
    (ChangeSpec.witness6 (enc := enc) (C := Try.checked) false ⟨#[], #[.agg #[.int .i64 0, .int .i64 0, .int .i64 0], .agg #[.int .i64 0, .int .i64 0, .int .i64 0]], []⟩ 8 (by kernel_rfl) (by kernel_rfl) (by kernel_rfl) (by kernel_rfl))
    Try.laidOut (by kernel_rfl) rfl Try.underlying4 rfl (fun ds h => by match ds, h with | [_, _], _ => exact ⟨rfl, rfl, rfl⟩)
    (Args.cons (Arg.struct Try.underlying23 opensControl) (Args.cons (Arg.struct Try.underlying23 opensControl) Args.nil)) (fun a => law_Take a.1.1.1 a.1.2.1.1 a.1.2.2.1 a.2.1.1.1 a.2.1.2.1.1 a.2.1.2.2.1)

theorem take_holds : Rows.FnExactTakeControlsSaid :=
  OpenClaim.holds_of_wide 4 Try.f4 rfl rfl rfl rfl rfl rfl rfl ⟨rfl, rfl, rfl, rfl, rfl⟩ rfl rfl rfl rfl rfl (by kernel_rfl) Try.func4 (by kernel_rfl)
    (of_decide_eq_true (by kernel_rfl)) (by unfold Func.isWrapper; first | (rw [if_pos (by decide +kernel)]; kernel_rfl) | (rw [if_neg (by decide +kernel)]; exact ⟨rfl, rfl⟩))
    (fun os started H enc _ => take_lifted os started H enc)
#print axioms take_holds
end Go.Proofs.Ytaegnbfboeeijaa
