/- The steps of a flow: the reference. -/
import Derived.Test.YtgeeipfdkamhmaaGreatDoorXuF
namespace Go.Proofs.YtgeeipfdkamhmaaGreatDoor
open Go.Vs
set_option linter.unusedSimpArgs false
set_option linter.unusedVariables false
attribute [local irreducible] Vs.Fn chOK areCh chTo chAt l03

theorem szGo_mem {α : Type} {f : α → Int → Int} : ∀ {l : List α} {n : Int}, (∀ x, x ∈ l → ∀ n, 0 ≤ n → n ≤ 1048576 → 0 ≤ f x n → f x n ≤ n) → 0 ≤ n → n ≤ 1048576 → 0 ≤ szGo f l n → ∀ x, x ∈ l → ∃ m, 0 ≤ m ∧ m ≤ 1048576 ∧ 0 ≤ f x m
  | [], n, _, _, _, _, x, hx => by cases hx
  | y :: r, n, hf, h0, hn, h, x, hx => by
    simp only [szGo] at h
    split at h
    · omega
    · rename_i h1
      rcases List.mem_cons.1 hx with rfl | hx
      · exact ⟨n, h0, hn, by omega⟩
      · have h2 := hf y (by simp) n h0 hn (by omega)
        exact szGo_mem (fun z hz => hf z (by simp [hz])) (by omega) (by omega) h x hx
theorem szL_mem {α : Type} {f : α → Int → Int} {l : List α} {n : Int} (hf : ∀ x, x ∈ l → ∀ n, 0 ≤ n → n ≤ 1048576 → 0 ≤ f x n → f x n ≤ n) (hl : l.length < 2 ^ 63) (hn : 0 ≤ n ∧ n ≤ 1048576) (h : ¬ szL f l n < 0) : ∀ x, x ∈ l → ∃ m, 0 ≤ m ∧ m ≤ 1048576 ∧ 0 ≤ f x m := by
  unfold szL at h
  split at h
  · omega
  · rename_i h1
    rw [wrap_in (by omega) (by omega)] at h h1
    exact szGo_mem (n := n - l.length) hf (by omega) (by omega) (by omega)

end Go.Proofs.YtgeeipfdkamhmaaGreatDoor

namespace Go.Proofs.YtgeeipfdkamhmaaGreatDoor
open Go.Vs
set_option linter.unusedSimpArgs false
set_option linter.unusedVariables false
attribute [local irreducible] Vs.Fn chOK areCh chTo chAt l03

def stpB (x : Stp) (w : Int) : Bool :=
  inB x.kind 1 7 && (inB x.a 0 5 && (inB x.b 0 5 && (inB x.to 0 5 && (fldB x.f0 x.f1 w && ((x.b == 0 || inB x.kind 2 4) &&
    (if x.kind == 7 then x.to == 0 && (numB x.s0 x.s1 w && noText x.text) else (x.s0 == 0 && x.s1 == 0) && (if x.kind == 5 then areCh x.text && ((x.text.size : Int) == W (x.f1 - x.f0)) else noText x.text)))))))
set_option maxHeartbeats 2000000 in
theorem impl_ValidStep (x : Stp) (w : Int) (hs : x.text.size ≤ 1048576) : Vs.Fn Tryz.prog F.impl_ValidStep [] [.agg (cS x), .v (.int .i64 w)] (.v (.bool (inB w 1 20 && stpB x w))) [] := by
  refine Cd.impl_ValidStep_ok.fn0 Tryz.mixed Cd.impl_ValidStep_nt Cd.impl_ValidStep_rs rfl fun X => ?_
  unfold Cd.impl_ValidStep
  simp -dsimp only [go_sem, reduceIte, reduceCtorEq, Nat.reduceEqDiff, Nat.reduceLT, Nat.reduceLeDiff, Nat.reduceAdd, Nat.reduceMul, Nat.reduceSub, Int.reduceToNat, Int.reduceNeg, cS]
  repeat' (first
    | (refine RgK.mk rfl ?_; simp -dsimp only [go_sem, reduceIte, reduceCtorEq, Nat.reduceEqDiff, Nat.reduceLT, Nat.reduceLeDiff, Nat.reduceAdd, Nat.reduceMul, Nat.reduceSub, Int.reduceToNat, Int.reduceNeg, cS])
    | (refine Br.mk (fun h => ?_) (fun h => ?_) <;> simp -dsimp only [go_sem, reduceIte, reduceCtorEq, Nat.reduceEqDiff, Nat.reduceLT, Nat.reduceLeDiff, Nat.reduceAdd, Nat.reduceMul, Nat.reduceSub, Int.reduceToNat, Int.reduceNeg, h, cS])
    | (refine CallK.flat (by first | exact inside _ _ _ | exact isTray _ | exact takesTwo _ | exact isField _ _ _ | exact isNumberField _ _ _ | exact areCharacters _ hs) rfl ?_; simp -dsimp only [go_sem, reduceIte, reduceCtorEq, Nat.reduceEqDiff, Nat.reduceLT, Nat.reduceLeDiff, Nat.reduceAdd, Nat.reduceMul, Nat.reduceSub, Int.reduceToNat, Int.reduceNeg, cS])
    | (refine CallK.pure (by first | exact inside _ _ _ | exact isTray _ | exact takesTwo _ | exact isField _ _ _ | exact isNumberField _ _ _ | exact areCharacters _ hs) ?_; simp -dsimp only [go_sem, reduceIte, reduceCtorEq, Nat.reduceEqDiff, Nat.reduceLT, Nat.reduceLeDiff, Nat.reduceAdd, Nat.reduceMul, Nat.reduceSub, Int.reduceToNat, Int.reduceNeg, cS])
    | (refine And.intro (by first | rfl | omega | decide | (refine ⟨?_, ?_⟩ <;> (first | rfl | omega | decide)) | (refine ⟨?_, ?_, ?_⟩ <;> (first | rfl | omega | decide)) | (refine ⟨?_, ?_, ?_, ?_⟩ <;> (first | rfl | omega | decide))) ?_)
    | fail)
  all_goals (first | (simp_all [stpB, noText]; done) | (refine ret_eq ?_; grind [stpB, noText]))

end Go.Proofs.YtgeeipfdkamhmaaGreatDoor

namespace Go.Proofs.YtgeeipfdkamhmaaGreatDoor
open Go.Vs
set_option linter.unusedSimpArgs false
set_option linter.unusedVariables false
attribute [local irreducible] Vs.Fn chOK areCh chTo chAt l03
set_option maxHeartbeats 2000000 in
theorem l15Step (x : Stp) (w : Int) (hs : x.text.size ≤ 1048576) : Vs.Fn Tryz.prog F.spec_l15Step [] [.ro (cS x), .v (.int .i64 w)] (.v (.bool (stpB x w))) [] := by
  refine Cd.spec_l15Step_ok.fn0 Tryz.mixed Cd.spec_l15Step_nt Cd.spec_l15Step_rs rfl fun X => ?_
  unfold Cd.spec_l15Step
  simp -dsimp only [go_sem, reduceIte, reduceCtorEq, Nat.reduceEqDiff, Nat.reduceLT, Nat.reduceLeDiff, Nat.reduceAdd, Nat.reduceMul, Nat.reduceSub, Int.reduceToNat, Int.reduceNeg, cS]
  repeat' (first
    | (refine RgK.mk rfl ?_; simp -dsimp only [go_sem, reduceIte, reduceCtorEq, Nat.reduceEqDiff, Nat.reduceLT, Nat.reduceLeDiff, Nat.reduceAdd, Nat.reduceMul, Nat.reduceSub, Int.reduceToNat, Int.reduceNeg, cS])
    | (refine Br.mk (fun h => ?_) (fun h => ?_) <;> simp -dsimp only [go_sem, reduceIte, reduceCtorEq, Nat.reduceEqDiff, Nat.reduceLT, Nat.reduceLeDiff, Nat.reduceAdd, Nat.reduceMul, Nat.reduceSub, Int.reduceToNat, Int.reduceNeg, h, cS])
    | (refine CallK.flat (by first | exact l00In _ _ _ | exact l15Tray _ | exact l15Both _ | exact l02Field _ _ _ | exact l09Text _ _ _ hs) rfl ?_; simp -dsimp only [go_sem, reduceIte, reduceCtorEq, Nat.reduceEqDiff, Nat.reduceLT, Nat.reduceLeDiff, Nat.reduceAdd, Nat.reduceMul, Nat.reduceSub, Int.reduceToNat, Int.reduceNeg, cS])
    | (refine CallK.pure (by first | exact l00In _ _ _ | exact l15Tray _ | exact l15Both _ | exact l02Field _ _ _ | exact l09Text _ _ _ hs) ?_; simp -dsimp only [go_sem, reduceIte, reduceCtorEq, Nat.reduceEqDiff, Nat.reduceLT, Nat.reduceLeDiff, Nat.reduceAdd, Nat.reduceMul, Nat.reduceSub, Int.reduceToNat, Int.reduceNeg, cS])
    | (refine And.intro (by first | rfl | omega | decide | (refine ⟨?_, ?_⟩ <;> (first | rfl | omega | decide)) | (refine ⟨?_, ?_, ?_⟩ <;> (first | rfl | omega | decide)) | (refine ⟨?_, ?_, ?_, ?_⟩ <;> (first | rfl | omega | decide))) ?_)
    | fail)
  all_goals (first | (simp_all [stpB, numB, noText, l09_eq]; done) | (refine ret_eq ?_; grind [stpB, numB, noText, l09_eq]))

end Go.Proofs.YtgeeipfdkamhmaaGreatDoor
