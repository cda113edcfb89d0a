/- The law FnExactAmountsAfter returns true for every input, and its arguments read behind the call as they read before. Conditions: none beyond the given statement. -/
import Derived.Test.YthpokkcbbpapdaaYwZp
import Derived.Test.YthpokkcbbpapdaaYuO
import Derived.Test.YthpokkcbbpapdaaVtR
import Derived.Test.YthpokkcbbpapdaaRows
namespace Go.Proofs.Ythpokkcbbpapdaa
open Go.Vs
set_option linter.unusedSimpArgs false
set_option linter.unusedVariables false
attribute [local irreducible] Vs.Fn

theorem flat_one {b0 : Blk} (h : Vs.flatB b0) : ∀ b, some b ∈ [some b0] → Vs.flatB b := by
  intro b hb
  have : b = b0 := by simpa using hb
  subst this; exact h
set_option maxHeartbeats 1000000 in
theorem law_AmountsAfter (l : List Int) (fs : List Flt) (hl : l.length < 2 ^ 63) (hfs : fs.length < 2 ^ 63) : Vs.Fn Try.prog F.laws_FnExactAmountsAfter [] [.sl 1 (E cI l), .sl 4 (E cF fs)] (.v (.bool true)) [] := by
  refine Cd.laws_FnExactAmountsAfter_ok.fn0 Try.mixed Cd.laws_FnExactAmountsAfter_nt Cd.laws_FnExactAmountsAfter_rs rfl fun X => ?_
  unfold Cd.laws_FnExactAmountsAfter
  simp -dsimp only [go_sem, reduceIte, reduceCtorEq, Nat.reduceEqDiff, Nat.reduceLT, Nat.reduceLeDiff, Nat.reduceAdd, Nat.reduceMul, Nat.reduceSub, Int.reduceToNat, Int.reduceNeg]
  refine Br.mk (fun h1 => by simp -dsimp only [go_sem, reduceIte, reduceCtorEq, Nat.reduceEqDiff, Nat.reduceLT, Nat.reduceLeDiff, Nat.reduceAdd, Nat.reduceMul, Nat.reduceSub, Int.reduceToNat, Int.reduceNeg]; simp) (fun h1 => ?_)
  have hl1 : l.length ≤ 1048576 := by simp at h1; omega
  simp -dsimp only [go_sem, reduceIte, reduceCtorEq, Nat.reduceEqDiff, Nat.reduceLT, Nat.reduceLeDiff, Nat.reduceAdd, Nat.reduceMul, Nat.reduceSub, Int.reduceToNat, Int.reduceNeg]
  refine CallK.flat (szFaultS fs 1048576) rfl ?_
  simp -dsimp only [go_sem, reduceIte, reduceCtorEq, Nat.reduceEqDiff, Nat.reduceLT, Nat.reduceLeDiff, Nat.reduceAdd, Nat.reduceMul, Nat.reduceSub, Int.reduceToNat, Int.reduceNeg]
  refine Br.mk (fun h2 => by simp -dsimp only [go_sem, reduceIte, reduceCtorEq, Nat.reduceEqDiff, Nat.reduceLT, Nat.reduceLeDiff, Nat.reduceAdd, Nat.reduceMul, Nat.reduceSub, Int.reduceToNat, Int.reduceNeg]; simp) (fun h2 => ?_)
  simp only [decide_eq_false_iff_not] at h2
  have hf1 : fs.length ≤ 1048576 := by have := (szN_le hfs (by omega) (by omega) (by omega : 0 ≤ szN fs.length 1048576)).2; omega
  simp -dsimp only [go_sem, reduceIte, reduceCtorEq, Nat.reduceEqDiff, Nat.reduceLT, Nat.reduceLeDiff, Nat.reduceAdd, Nat.reduceMul, Nat.reduceSub, Int.reduceToNat, Int.reduceNeg]
  have hn1 : decide (((1 + l.length + 4 * fs.length : Nat) : Int) < 0) = false := decide_eq_false (by omega)
  by_cases h0 : faC l fs = 0
  · obtain ⟨ha, hb⟩ := faC_zero h0
    have hA : (aft l fs l.length).length ≤ 1048576 := by
      have := aft_len l fs l.length (Nat.le_refl _)
      have := (amB_spec ha).1
      omega
    have hfl : ∀ b, some b ∈ [some (Blk.arr 1 (E cI (aft l fs l.length)) false)] → Vs.flatB b := flat_one (flatB_E (fun _ => rfl))
    have hn2 : decide (((1 + (aft l fs l.length).length : Nat) : Int) < 0) = false := decide_eq_false (by omega)
    have hn3 : (((1 + (aft l fs l.length).length : Nat) : Int) != ((1 + (aft l fs l.length).length : Nat) : Int)) = false := by simp
    have hn4 : ((0 : Int) != 0) = false := rfl
    have hTk : List.take (aft l fs l.length).length (E cI (mkR (mI 1) (aft l fs l.length) (aft l fs l.length).length)) = E cI (mkR (mI 1) (aft l fs l.length) (aft l fs l.length).length) := List.take_of_length_le (by rw [E_len, mkR_length _ _ (Nat.le_refl _)]; exact Nat.le_refl _)
    repeat' (first
      | (refine RgK.mk rfl ?_; simp -dsimp only [go_sem, reduceIte, reduceCtorEq, Nat.reduceEqDiff, Nat.reduceLT, Nat.reduceLeDiff, Nat.reduceAdd, Nat.reduceMul, Nat.reduceSub, Int.reduceToNat, Int.reduceNeg, E_take, E_len, List.drop_zero, hTk, hn1, hn2, hn3, hn4])
      | (refine Br.mk (fun h => ?_) (fun h => ?_) <;> simp -dsimp only [go_sem, reduceIte, reduceCtorEq, Nat.reduceEqDiff, Nat.reduceLT, Nat.reduceLeDiff, Nat.reduceAdd, Nat.reduceMul, Nat.reduceSub, Int.reduceToNat, Int.reduceNeg, h, E_take, E_len, List.drop_zero, hTk, hn1, hn2, hn3, hn4])
      | (refine CallK.flat (by first | exact spec_AA1 l fs hl1 hf1 h0 | exact eqInt64S hl1 | exact eqInt64S hA | exact eqFaultS fs hf1 | exact heldInt64S (aft l fs l.length) 1 hA (by omega)) rfl ?_; simp -dsimp only [go_sem, reduceIte, reduceCtorEq, Nat.reduceEqDiff, Nat.reduceLT, Nat.reduceLeDiff, Nat.reduceAdd, Nat.reduceMul, Nat.reduceSub, Int.reduceToNat, Int.reduceNeg, E_take, E_len, List.drop_zero, hTk, hn1, hn2, hn3, hn4])
      | (refine CallK.pure (by first | exact spec_AA1 l fs hl1 hf1 h0 | exact eqInt64S hl1 | exact eqInt64S hA | exact eqFaultS fs hf1 | exact heldInt64S (aft l fs l.length) 1 hA (by omega)) ?_; simp -dsimp only [go_sem, reduceIte, reduceCtorEq, Nat.reduceEqDiff, Nat.reduceLT, Nat.reduceLeDiff, Nat.reduceAdd, Nat.reduceMul, Nat.reduceSub, Int.reduceToNat, Int.reduceNeg, E_take, E_len, List.drop_zero, hTk, hn1, hn2, hn3, hn4])
      | (refine CallK.own (by first | exact toInt64SO hl1 | exact toFaultSO fs hf1) rfl ?_; simp -dsimp only [go_sem, reduceIte, reduceCtorEq, Nat.reduceEqDiff, Nat.reduceLT, Nat.reduceLeDiff, Nat.reduceAdd, Nat.reduceMul, Nat.reduceSub, Int.reduceToNat, Int.reduceNeg, E_take, E_len, List.drop_zero, hTk, hn1, hn2, hn3, hn4])
      | (refine CallK.lend (by first | exact impl_AA1 l fs hl1 hf1 h0) rfl hfl rfl ?_; simp -dsimp only [go_sem, reduceIte, reduceCtorEq, Nat.reduceEqDiff, Nat.reduceLT, Nat.reduceLeDiff, Nat.reduceAdd, Nat.reduceMul, Nat.reduceSub, Int.reduceToNat, Int.reduceNeg, E_take, E_len, List.drop_zero, hTk, hn1, hn2, hn3, hn4])
      | (refine CallK.bor (by first | exact markInt64S l 1 hl1 (by omega) | exact markFaultS fs (1 + l.length) hf1 (by omega) | exact markInt64S (aft l fs l.length) 1 hA (by omega)) rfl ?_; simp -dsimp only [go_sem, reduceIte, reduceCtorEq, Nat.reduceEqDiff, Nat.reduceLT, Nat.reduceLeDiff, Nat.reduceAdd, Nat.reduceMul, Nat.reduceSub, Int.reduceToNat, Int.reduceNeg, E_take, E_len, List.drop_zero, hTk, hn1, hn2, hn3, hn4])
      | (refine And.intro (by first | rfl | omega | decide | (refine ⟨?_, ?_⟩ <;> (first | rfl | omega | decide)) | (refine ⟨?_, ?_, ?_⟩ <;> (first | rfl | omega | decide)) | (refine ⟨?_, ?_, ?_, ?_⟩ <;> (first | rfl | omega | decide))) ?_)
      | fail)

    all_goals simp_all
  · have hn2 : (faC l fs != faC l fs) = false := by simp
    have hn3 : ((1 : Int) != 1) = false := rfl
    have hn4 : decide ((1 : Int) < 0) = false := rfl
    repeat' (first
      | (refine RgK.mk rfl ?_; simp -dsimp only [go_sem, reduceIte, reduceCtorEq, Nat.reduceEqDiff, Nat.reduceLT, Nat.reduceLeDiff, Nat.reduceAdd, Nat.reduceMul, Nat.reduceSub, Int.reduceToNat, Int.reduceNeg, E_take, E_len, List.drop_zero, hn1, hn2, hn3, hn4])
      | (refine Br.mk (fun h => ?_) (fun h => ?_) <;> simp -dsimp only [go_sem, reduceIte, reduceCtorEq, Nat.reduceEqDiff, Nat.reduceLT, Nat.reduceLeDiff, Nat.reduceAdd, Nat.reduceMul, Nat.reduceSub, Int.reduceToNat, Int.reduceNeg, h, E_take, E_len, List.drop_zero, hn1, hn2, hn3, hn4])
      | (refine CallK.flat (by first | exact spec_AA0 l fs hl1 hf1 h0 | exact impl_AA0 l fs hl1 hf1 h0 | exact eqInt64S hl1 | exact eqNil | exact eqFaultS fs hf1 | exact heldNil _ | exact markNil _) rfl ?_; simp -dsimp only [go_sem, reduceIte, reduceCtorEq, Nat.reduceEqDiff, Nat.reduceLT, Nat.reduceLeDiff, Nat.reduceAdd, Nat.reduceMul, Nat.reduceSub, Int.reduceToNat, Int.reduceNeg, E_take, E_len, List.drop_zero, hn1, hn2, hn3, hn4])
      | (refine CallK.pure (by first | exact spec_AA0 l fs hl1 hf1 h0 | exact impl_AA0 l fs hl1 hf1 h0 | exact eqInt64S hl1 | exact eqNil | exact eqFaultS fs hf1 | exact heldNil _ | exact markNil _) ?_; simp -dsimp only [go_sem, reduceIte, reduceCtorEq, Nat.reduceEqDiff, Nat.reduceLT, Nat.reduceLeDiff, Nat.reduceAdd, Nat.reduceMul, Nat.reduceSub, Int.reduceToNat, Int.reduceNeg, E_take, E_len, List.drop_zero, hn1, hn2, hn3, hn4])
      | (refine CallK.own (by first | exact toInt64SO hl1 | exact toFaultSO fs hf1) rfl ?_; simp -dsimp only [go_sem, reduceIte, reduceCtorEq, Nat.reduceEqDiff, Nat.reduceLT, Nat.reduceLeDiff, Nat.reduceAdd, Nat.reduceMul, Nat.reduceSub, Int.reduceToNat, Int.reduceNeg, E_take, E_len, List.drop_zero, hn1, hn2, hn3, hn4])
      | (refine CallK.bor (by first | exact markInt64S l 1 hl1 (by omega) | exact markFaultS fs (1 + l.length) hf1 (by omega)) rfl ?_; simp -dsimp only [go_sem, reduceIte, reduceCtorEq, Nat.reduceEqDiff, Nat.reduceLT, Nat.reduceLeDiff, Nat.reduceAdd, Nat.reduceMul, Nat.reduceSub, Int.reduceToNat, Int.reduceNeg, E_take, E_len, List.drop_zero, hn1, hn2, hn3, hn4])
      | (refine And.intro (by first | rfl | omega | decide | (refine ⟨?_, ?_⟩ <;> (first | rfl | omega | decide)) | (refine ⟨?_, ?_, ?_⟩ <;> (first | rfl | omega | decide)) | (refine ⟨?_, ?_, ?_, ?_⟩ <;> (first | rfl | omega | decide))) ?_)
      | fail)

    all_goals simp_all

end Go.Proofs.Ythpokkcbbpapdaa

namespace Go.Proofs.Ythpokkcbbpapdaa
open Go.Vs Go.ChangeShapes Go.WideShapes Go.ChangeAt Go.RowKit
set_option linter.unusedSimpArgs false
set_option linter.unusedVariables false
attribute [local irreducible] Vs.Fn
def gFlt3 (p : I64 × I64 × I64 × I64) : Flt := ⟨p.1.1, p.2.1.1, p.2.2.1.1, p.2.2.2.1⟩

set_option maxRecDepth 100000 in
theorem amountsafter_lifted (os : Os) (started : os.Started) (H : Type) (enc : TypeId × Value → H) :
    ReturnsInHanded {} Try.checked os F.laws_FnExactAmountsAfter .any (Rows.fnExactAmountsAfterSpec.pre6 enc Try.prog Try.f3 Rows.fnExactAmountsAfterRow.domain false) (Rows.fnExactAmountsAfterSpec.post enc Try.prog Try.f3 false true false false) :=
  law_returns (C := Try.checked) rfl Try.own started (by kernel_rfl) Try.func3
    (ChangeSpec.witness6 (enc := enc) (C := Try.checked) false ⟨#[], #[.slice none 0 0, .slice none 0 0], []⟩ 8 (by kernel_rfl) (by kernel_rfl) (by kernel_rfl) (by kernel_rfl))
    Try.laidOut (by kernel_rfl) rfl Try.underlying4 rfl (fun ds h => by match ds, h with | [_, _], _ => exact ⟨rfl, rfl, rfl⟩)
    (Args.cons (Arg.slice Try.underlying22 oInts) (Args.cons (Arg.slice Try.underlying23 oFaults) Args.nil)) (fun a => by
      have h := law_AmountsAfter (a.1.1.map fun n => n.1) (a.2.1.1.map gFlt3) (by simpa using a.1.2) (by simpa using a.2.1.2)
      rw [E_map, E_map] at h
      exact h)

theorem amountsafter_holds : Rows.FnExactAmountsAfterSaid :=
  OpenClaim.holds_of_wide 3 Try.f3 rfl rfl rfl rfl rfl rfl rfl ⟨rfl, rfl, rfl, rfl, rfl⟩ rfl rfl rfl rfl rfl (by kernel_rfl) Try.func3 (by kernel_rfl)
    (of_decide_eq_true (by kernel_rfl)) (by unfold Func.isWrapper; first | (rw [if_pos (by decide +kernel)]; kernel_rfl) | (rw [if_neg (by decide +kernel)]; exact ⟨rfl, rfl⟩))
    (fun os started H enc _ => amountsafter_lifted os started H enc)
#print axioms amountsafter_holds
end Go.Proofs.Ythpokkcbbpapdaa
