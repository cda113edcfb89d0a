/- The law FnExactFlowFor returns true for every input, and its argument reads behind the call as it read before. Conditions: none beyond the given statement. -/
import Derived.Test.YthpokkcbbpapdaaYwXa
import Derived.Test.YthpokkcbbpapdaaYuO
import Derived.Test.YthpokkcbbpapdaaRows
namespace Go.Proofs.Ythpokkcbbpapdaa
open Go.Vs Go.ChangeShapes Go.WideShapes Go.ChangeAt Go.RowKit
set_option linter.unusedSimpArgs false
set_option linter.unusedVariables false
attribute [local irreducible] Vs.Fn chOK areCh chTo chAt l03
set_option maxHeartbeats 1000000 in
theorem law_FlowFor (x : Spc) (hs0 : x.text.size < 2 ^ 63) : Vs.Fn Try.prog F.laws_FnExactFlowFor [] [.agg (cP x)] (.v (.bool true)) [] := by
  refine Cd.laws_FnExactFlowFor_ok.fn0 Try.mixed Cd.laws_FnExactFlowFor_nt Cd.laws_FnExactFlowFor_rs rfl fun X => ?_
  unfold Cd.laws_FnExactFlowFor
  simp -dsimp only [go_sem, reduceIte, reduceCtorEq, Nat.reduceEqDiff, Nat.reduceLT, Nat.reduceLeDiff, Nat.reduceAdd, Nat.reduceMul, Nat.reduceSub, Int.reduceToNat, Int.reduceNeg, cP]
  refine CallK.flat (szSpec x _) rfl ?_
  simp -dsimp only [go_sem, reduceIte, reduceCtorEq, Nat.reduceEqDiff, Nat.reduceLT, Nat.reduceLeDiff, Nat.reduceAdd, Nat.reduceMul, Nat.reduceSub, Int.reduceToNat, Int.reduceNeg, cP]
  refine Br.mk (fun h1 => by simp -dsimp only [go_sem, reduceIte, reduceCtorEq, Nat.reduceEqDiff, Nat.reduceLT, Nat.reduceLeDiff, Nat.reduceAdd, Nat.reduceMul, Nat.reduceSub, Int.reduceToNat, Int.reduceNeg, cP]; simp) (fun h1 => ?_)
  simp -dsimp only [go_sem, reduceIte, reduceCtorEq, Nat.reduceEqDiff, Nat.reduceLT, Nat.reduceLeDiff, Nat.reduceAdd, Nat.reduceMul, Nat.reduceSub, Int.reduceToNat, Int.reduceNeg, cP]
  have hs : x.text.size ≤ 1048576 := by
    have h2 : ¬ szT x.text 1048576 < 0 := of_decide_eq_false h1
    have := (szT_le hs0 (n := 1048576) (by omega) (by omega) (by omega)).2
    omega
  cases hk : spcB x 20
  · have hn2 : ((2 : Int) != 2) = false := rfl
    have hn3 : ((1 : Int) != 1) = false := rfl
    have hn4 : decide ((1 : Int) < 0) = false := rfl
    repeat' (first
      | (refine RgK.mk rfl ?_; simp -dsimp only [go_sem, reduceIte, reduceCtorEq, Nat.reduceEqDiff, Nat.reduceLT, Nat.reduceLeDiff, Nat.reduceAdd, Nat.reduceMul, Nat.reduceSub, Int.reduceToNat, Int.reduceNeg, cP, E_take, E_len, List.drop_zero, hn2, hn3, hn4])
      | (refine Br.mk (fun h => ?_) (fun h => ?_) <;> simp -dsimp only [go_sem, reduceIte, reduceCtorEq, Nat.reduceEqDiff, Nat.reduceLT, Nat.reduceLeDiff, Nat.reduceAdd, Nat.reduceMul, Nat.reduceSub, Int.reduceToNat, Int.reduceNeg, h, cP, E_take, E_len, List.drop_zero, hn2, hn3, hn4])
      | (refine CallK.flat (B := []) (by first | exact toSpec x | exact spec_FlowFor0 x hs hk | exact impl_FlowFor0 x hs hk | exact eqNilS | exact markNilS _ | exact heldNilS _) rfl ?_; simp -dsimp only [go_sem, reduceIte, reduceCtorEq, Nat.reduceEqDiff, Nat.reduceLT, Nat.reduceLeDiff, Nat.reduceAdd, Nat.reduceMul, Nat.reduceSub, Int.reduceToNat, Int.reduceNeg, cP, E_take, E_len, List.drop_zero, hn2, hn3, hn4])
      | (refine CallK.pure (B := []) (by first | exact toSpec x | exact spec_FlowFor0 x hs hk | exact impl_FlowFor0 x hs hk | exact eqNilS | exact markNilS _ | exact heldNilS _) ?_; simp -dsimp only [go_sem, reduceIte, reduceCtorEq, Nat.reduceEqDiff, Nat.reduceLT, Nat.reduceLeDiff, Nat.reduceAdd, Nat.reduceMul, Nat.reduceSub, Int.reduceToNat, Int.reduceNeg, cP, E_take, E_len, List.drop_zero, hn2, hn3, hn4])
      | (refine And.intro (by first | rfl | omega | decide | (refine ⟨?_, ?_⟩ <;> (first | rfl | omega | decide)) | (refine ⟨?_, ?_, ?_⟩ <;> (first | rfl | omega | decide)) | (refine ⟨?_, ?_, ?_, ?_⟩ <;> (first | rfl | omega | decide))) ?_)
      | fail)

    all_goals simp_all
  · have hA : (flwF x).length ≤ 1048576 := by have := flwF_len x; omega
    have hfl : ∀ b, some b ∈ [some (Blk.arr 9 (E cS (flwF x)) false)] → Vs.flatB b := flat_one (flatB_E (fun _ => rfl))
    have hn2 : decide (((1 + 9 * (flwF x).length : Nat) : Int) < 0) = false := decide_eq_false (by omega)
    have hn3 : (((1 + 9 * (flwF x).length : Nat) : Int) != ((1 + 9 * (flwF x).length : Nat) : Int)) = false := by simp
    have hn4 : ((0 : Int) != 0) = false := rfl
    have hTk : List.take (flwF x).length (E cS (mkR (mS 1) (flwF x) (flwF x).length)) = E cS (mkR (mS 1) (flwF x) (flwF x).length) := List.take_of_length_le (by rw [E_len, mkR_length _ _ (Nat.le_refl _)]; exact Nat.le_refl _)
    repeat' (first
      | (refine RgK.mk rfl ?_; simp -dsimp only [go_sem, reduceIte, reduceCtorEq, Nat.reduceEqDiff, Nat.reduceLT, Nat.reduceLeDiff, Nat.reduceAdd, Nat.reduceMul, Nat.reduceSub, Int.reduceToNat, Int.reduceNeg, cP, E_take, E_len, List.drop_zero, hTk, hn2, hn3, hn4])
      | (refine Br.mk (fun h => ?_) (fun h => ?_) <;> simp -dsimp only [go_sem, reduceIte, reduceCtorEq, Nat.reduceEqDiff, Nat.reduceLT, Nat.reduceLeDiff, Nat.reduceAdd, Nat.reduceMul, Nat.reduceSub, Int.reduceToNat, Int.reduceNeg, h, cP, E_take, E_len, List.drop_zero, hTk, hn2, hn3, hn4])
      | (refine CallK.flat (by first | exact toSpec x | exact spec_FlowFor1 x hs hk | exact eqStepS _ hA | exact heldStepS (flwF x) 1 hA (by omega) (by omega)) rfl ?_; simp -dsimp only [go_sem, reduceIte, reduceCtorEq, Nat.reduceEqDiff, Nat.reduceLT, Nat.reduceLeDiff, Nat.reduceAdd, Nat.reduceMul, Nat.reduceSub, Int.reduceToNat, Int.reduceNeg, cP, E_take, E_len, List.drop_zero, hTk, hn2, hn3, hn4])
      | (refine CallK.pure (by first | exact toSpec x | exact spec_FlowFor1 x hs hk | exact eqStepS _ hA | exact heldStepS (flwF x) 1 hA (by omega) (by omega)) ?_; simp -dsimp only [go_sem, reduceIte, reduceCtorEq, Nat.reduceEqDiff, Nat.reduceLT, Nat.reduceLeDiff, Nat.reduceAdd, Nat.reduceMul, Nat.reduceSub, Int.reduceToNat, Int.reduceNeg, cP, E_take, E_len, List.drop_zero, hTk, hn2, hn3, hn4])
      | (refine CallK.own (by first | exact impl_FlowFor1 x hs hk) rfl ?_; simp -dsimp only [go_sem, reduceIte, reduceCtorEq, Nat.reduceEqDiff, Nat.reduceLT, Nat.reduceLeDiff, Nat.reduceAdd, Nat.reduceMul, Nat.reduceSub, Int.reduceToNat, Int.reduceNeg, cP, E_take, E_len, List.drop_zero, hTk, hn2, hn3, hn4])
      | (refine CallK.lend (by first | exact impl_FlowFor1 x hs hk) rfl hfl rfl ?_; simp -dsimp only [go_sem, reduceIte, reduceCtorEq, Nat.reduceEqDiff, Nat.reduceLT, Nat.reduceLeDiff, Nat.reduceAdd, Nat.reduceMul, Nat.reduceSub, Int.reduceToNat, Int.reduceNeg, cP, E_take, E_len, List.drop_zero, hTk, hn2, hn3, hn4])
      | (refine CallK.bor (by first | exact markStepS (flwF x) 1 hA (by omega) (by omega)) rfl ?_; simp -dsimp only [go_sem, reduceIte, reduceCtorEq, Nat.reduceEqDiff, Nat.reduceLT, Nat.reduceLeDiff, Nat.reduceAdd, Nat.reduceMul, Nat.reduceSub, Int.reduceToNat, Int.reduceNeg, cP, E_take, E_len, List.drop_zero, hTk, hn2, hn3, hn4])
      | (refine And.intro (by first | rfl | omega | decide | (refine ⟨?_, ?_⟩ <;> (first | rfl | omega | decide)) | (refine ⟨?_, ?_, ?_⟩ <;> (first | rfl | omega | decide)) | (refine ⟨?_, ?_, ?_, ?_⟩ <;> (first | rfl | omega | decide))) ?_)
      | fail)

    all_goals simp_all

def gSpc2 (p : (I64 × I64) × S63 × (I64 × I64) × (I64 × I64)) : Spc := ⟨p.1.1.1, p.1.2.1, p.2.1.1, p.2.2.1.1.1, p.2.2.1.2.1, p.2.2.2.1.1, p.2.2.2.2.1⟩

set_option maxRecDepth 100000 in
theorem flowfor_lifted (os : Os) (started : os.Started) (H : Type) (enc : TypeId × Value → H) :
    ReturnsInHanded {} Try.checked os F.laws_FnExactFlowFor .any (Rows.fnExactFlowForSpec.pre6 enc Try.prog Try.f4 Rows.fnExactFlowForRow.domain false) (Rows.fnExactFlowForSpec.post enc Try.prog Try.f4 false true false false) :=
  law_returns (C := Try.checked) rfl Try.own started (by kernel_rfl) Try.func4
    (ChangeSpec.witness6 (enc := enc) (C := Try.checked) false ⟨#[], #[.agg #[.int .i64 0, .int .i64 0, .string ⟨#[]⟩, .int .i64 0, .int .i64 0, .int .i64 0, .int .i64 0]], []⟩ 8 (by kernel_rfl) (by kernel_rfl) (by kernel_rfl) (by kernel_rfl))
    Try.laidOut (by kernel_rfl) rfl Try.underlying4 rfl (fun ds h => by match ds, h with | [_], _ => exact ⟨rfl, rfl, rfl⟩)
    (Args.cons (Arg.struct Try.underlying38 oSpec) Args.nil) (fun a => law_FlowFor (gSpc2 a.1) a.1.2.1.2)

theorem flowfor_holds : Rows.FnExactFlowForSaid :=
  OpenClaim.holds_of_wide 4 Try.f4 rfl rfl rfl rfl rfl rfl rfl ⟨rfl, rfl, rfl, rfl, rfl⟩ rfl rfl rfl rfl rfl (by kernel_rfl) Try.func4 (by kernel_rfl)
    (of_decide_eq_true (by kernel_rfl)) (by unfold Func.isWrapper; first | (rw [if_pos (by decide +kernel)]; kernel_rfl) | (rw [if_neg (by decide +kernel)]; exact ⟨rfl, rfl⟩))
    (fun os started H enc _ => flowfor_lifted os started H enc)
#print axioms flowfor_holds
end Go.Proofs.Ythpokkcbbpapdaa
