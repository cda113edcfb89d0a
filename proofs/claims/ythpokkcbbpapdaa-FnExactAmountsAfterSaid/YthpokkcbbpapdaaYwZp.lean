/- The law FnExactAmountsAfter, its functions. -/
import Derived.Test.YthpokkcbbpapdaaYwZo
import Derived.Test.YthpokkcbbpapdaaYwP
namespace Go.Proofs.Ythpokkcbbpapdaa
open Go.Vs
set_option linter.unusedSimpArgs false
set_option linter.unusedVariables false
attribute [local irreducible] Vs.Fn

def faC (l : List Int) (fs : List Flt) : Int := if amB l then (if arB l fs then 0 else 2) else 1
theorem faC_zero {l : List Int} {fs : List Flt} (h : faC l fs = 0) : amB l = true ∧ arB l fs = true := by
  unfold faC at h
  split at h
  · split at h
    · exact ⟨by assumption, by assumption⟩
    · cases h
  · cases h
theorem notF {b : Bool} (h : (!b) = false) : b = true := by simpa using h
theorem l19Code (l : List Int) (fs : List Flt) (hl : l.length ≤ 1048576) (hfs : fs.length ≤ 1048576) : Vs.Fn Try.prog F.spec_l19Code [] [.sl 1 (E cI l), .sl 4 (E cF fs)] (.v (.int .i64 (faC l fs))) [] := by
  refine Cd.spec_l19Code_ok.fn0 Try.mixed Cd.spec_l19Code_nt Cd.spec_l19Code_rs rfl fun X => ?_
  unfold Cd.spec_l19Code
  simp -dsimp only [go_sem, reduceIte, reduceCtorEq, Nat.reduceEqDiff, Nat.reduceLT, Nat.reduceLeDiff, Nat.reduceAdd, Nat.reduceMul, Nat.reduceSub, Int.reduceToNat, Int.reduceNeg]
  repeat' (first
    | (refine RgK.mk rfl ?_; simp -dsimp only [go_sem, reduceIte, reduceCtorEq, Nat.reduceEqDiff, Nat.reduceLT, Nat.reduceLeDiff, Nat.reduceAdd, Nat.reduceMul, Nat.reduceSub, Int.reduceToNat, Int.reduceNeg])
    | (refine Br.mk (fun h => ?_) (fun h => ?_) <;> simp -dsimp only [go_sem, reduceIte, reduceCtorEq, Nat.reduceEqDiff, Nat.reduceLT, Nat.reduceLeDiff, Nat.reduceAdd, Nat.reduceMul, Nat.reduceSub, Int.reduceToNat, Int.reduceNeg, h])
    | (refine CallK.flat (by first | exact l19Ok l hl | exact l19Faults l fs (notF (by assumption)) hfs) rfl ?_; simp -dsimp only [go_sem, reduceIte, reduceCtorEq, Nat.reduceEqDiff, Nat.reduceLT, Nat.reduceLeDiff, Nat.reduceAdd, Nat.reduceMul, Nat.reduceSub, Int.reduceToNat, Int.reduceNeg])
    | (refine CallK.pure (by first | exact l19Ok l hl | exact l19Faults l fs (notF (by assumption)) hfs) ?_; simp -dsimp only [go_sem, reduceIte, reduceCtorEq, Nat.reduceEqDiff, Nat.reduceLT, Nat.reduceLeDiff, Nat.reduceAdd, Nat.reduceMul, Nat.reduceSub, Int.reduceToNat, Int.reduceNeg])
    | (refine And.intro (by first | rfl | omega | decide | (refine ⟨?_, ?_⟩ <;> (first | rfl | omega | decide)) | (refine ⟨?_, ?_, ?_⟩ <;> (first | rfl | omega | decide)) | (refine ⟨?_, ?_, ?_, ?_⟩ <;> (first | rfl | omega | decide))) ?_)
    | fail)
  all_goals (simp_all [faC])

theorem faultCode (l : List Int) (fs : List Flt) (hl : l.length ≤ 1048576) (hfs : fs.length ≤ 1048576) : Vs.Fn Try.prog F.impl_faultCode [] [.sl 1 (E cI l), .sl 4 (E cF fs)] (.v (.int .i64 (faC l fs))) [] := by
  refine Cd.impl_faultCode_ok.fn0 Try.mixed Cd.impl_faultCode_nt Cd.impl_faultCode_rs rfl fun X => ?_
  unfold Cd.impl_faultCode
  simp -dsimp only [go_sem, reduceIte, reduceCtorEq, Nat.reduceEqDiff, Nat.reduceLT, Nat.reduceLeDiff, Nat.reduceAdd, Nat.reduceMul, Nat.reduceSub, Int.reduceToNat, Int.reduceNeg]
  repeat' (first
    | (refine RgK.mk rfl ?_; simp -dsimp only [go_sem, reduceIte, reduceCtorEq, Nat.reduceEqDiff, Nat.reduceLT, Nat.reduceLeDiff, Nat.reduceAdd, Nat.reduceMul, Nat.reduceSub, Int.reduceToNat, Int.reduceNeg])
    | (refine Br.mk (fun h => ?_) (fun h => ?_) <;> simp -dsimp only [go_sem, reduceIte, reduceCtorEq, Nat.reduceEqDiff, Nat.reduceLT, Nat.reduceLeDiff, Nat.reduceAdd, Nat.reduceMul, Nat.reduceSub, Int.reduceToNat, Int.reduceNeg, h])
    | (refine CallK.flat (by first | exact validAmounts l hl | exact areFaults l fs (notF (by assumption)) hfs) rfl ?_; simp -dsimp only [go_sem, reduceIte, reduceCtorEq, Nat.reduceEqDiff, Nat.reduceLT, Nat.reduceLeDiff, Nat.reduceAdd, Nat.reduceMul, Nat.reduceSub, Int.reduceToNat, Int.reduceNeg])
    | (refine CallK.pure (by first | exact validAmounts l hl | exact areFaults l fs (notF (by assumption)) hfs) ?_; simp -dsimp only [go_sem, reduceIte, reduceCtorEq, Nat.reduceEqDiff, Nat.reduceLT, Nat.reduceLeDiff, Nat.reduceAdd, Nat.reduceMul, Nat.reduceSub, Int.reduceToNat, Int.reduceNeg])
    | (refine And.intro (by first | rfl | omega | decide | (refine ⟨?_, ?_⟩ <;> (first | rfl | omega | decide)) | (refine ⟨?_, ?_, ?_⟩ <;> (first | rfl | omega | decide)) | (refine ⟨?_, ?_, ?_, ?_⟩ <;> (first | rfl | omega | decide))) ?_)
    | fail)
  all_goals (simp_all [faC])

theorem spec_AA0 (l : List Int) (fs : List Flt) (hl : l.length ≤ 1048576) (hfs : fs.length ≤ 1048576) (h0 : faC l fs ≠ 0) : Vs.Fn Try.prog F.spec_AmountsAfter [] [.sl 1 (E cI l), .sl 4 (E cF fs)] (.tup [.v (.slice none 0 0), .v (.int .i64 (faC l fs))]) [] := by
  have e0 : (faC l fs != 0) = true := by simp [h0]
  refine Cd.spec_AmountsAfter_ok.fn0 Try.mixed Cd.spec_AmountsAfter_nt Cd.spec_AmountsAfter_rs rfl fun X => ?_
  unfold Cd.spec_AmountsAfter
  simp -dsimp only [go_sem, reduceIte, reduceCtorEq, Nat.reduceEqDiff, Nat.reduceLT, Nat.reduceLeDiff, Nat.reduceAdd, Nat.reduceMul, Nat.reduceSub, Int.reduceToNat, Int.reduceNeg]
  refine CallK.flat (l19Code l fs hl hfs) rfl ?_
  simp -dsimp only [go_sem, reduceIte, reduceCtorEq, Nat.reduceEqDiff, Nat.reduceLT, Nat.reduceLeDiff, Nat.reduceAdd, Nat.reduceMul, Nat.reduceSub, Int.reduceToNat, Int.reduceNeg, e0]
  repeat' (first
    | (refine RgK.mk rfl ?_; simp -dsimp only [go_sem, reduceIte, reduceCtorEq, Nat.reduceEqDiff, Nat.reduceLT, Nat.reduceLeDiff, Nat.reduceAdd, Nat.reduceMul, Nat.reduceSub, Int.reduceToNat, Int.reduceNeg, e0])
    | (refine Br.mk (fun h => ?_) (fun h => ?_) <;> simp -dsimp only [go_sem, reduceIte, reduceCtorEq, Nat.reduceEqDiff, Nat.reduceLT, Nat.reduceLeDiff, Nat.reduceAdd, Nat.reduceMul, Nat.reduceSub, Int.reduceToNat, Int.reduceNeg, h, e0])
    | (refine And.intro (by first | rfl | omega | decide | (refine ⟨?_, ?_⟩ <;> (first | rfl | omega | decide)) | (refine ⟨?_, ?_, ?_⟩ <;> (first | rfl | omega | decide)) | (refine ⟨?_, ?_, ?_, ?_⟩ <;> (first | rfl | omega | decide))) ?_)
    | fail)

  all_goals simp

theorem impl_AA0 (l : List Int) (fs : List Flt) (hl : l.length ≤ 1048576) (hfs : fs.length ≤ 1048576) (h0 : faC l fs ≠ 0) : Vs.Fn Try.prog F.impl_AmountsAfter [] [.sl 1 (E cI l), .sl 4 (E cF fs)] (.tup [.v (.slice none 0 0), .v (.int .i64 (faC l fs))]) [] := by
  have e0 : (faC l fs != 0) = true := by simp [h0]
  refine Cd.impl_AmountsAfter_ok.fn0 Try.mixed Cd.impl_AmountsAfter_nt Cd.impl_AmountsAfter_rs rfl fun X => ?_
  unfold Cd.impl_AmountsAfter
  simp -dsimp only [go_sem, reduceIte, reduceCtorEq, Nat.reduceEqDiff, Nat.reduceLT, Nat.reduceLeDiff, Nat.reduceAdd, Nat.reduceMul, Nat.reduceSub, Int.reduceToNat, Int.reduceNeg]
  refine CallK.flat (faultCode l fs hl hfs) rfl ?_
  simp -dsimp only [go_sem, reduceIte, reduceCtorEq, Nat.reduceEqDiff, Nat.reduceLT, Nat.reduceLeDiff, Nat.reduceAdd, Nat.reduceMul, Nat.reduceSub, Int.reduceToNat, Int.reduceNeg, e0]
  repeat' (first
    | (refine RgK.mk rfl ?_; simp -dsimp only [go_sem, reduceIte, reduceCtorEq, Nat.reduceEqDiff, Nat.reduceLT, Nat.reduceLeDiff, Nat.reduceAdd, Nat.reduceMul, Nat.reduceSub, Int.reduceToNat, Int.reduceNeg, e0])
    | (refine Br.mk (fun h => ?_) (fun h => ?_) <;> simp -dsimp only [go_sem, reduceIte, reduceCtorEq, Nat.reduceEqDiff, Nat.reduceLT, Nat.reduceLeDiff, Nat.reduceAdd, Nat.reduceMul, Nat.reduceSub, Int.reduceToNat, Int.reduceNeg, h, e0])
    | (refine And.intro (by first | rfl | omega | decide | (refine ⟨?_, ?_⟩ <;> (first | rfl | omega | decide)) | (refine ⟨?_, ?_, ?_⟩ <;> (first | rfl | omega | decide)) | (refine ⟨?_, ?_, ?_, ?_⟩ <;> (first | rfl | omega | decide))) ?_)
    | fail)

  all_goals simp

theorem spec_AA1 (l : List Int) (fs : List Flt) (hl : l.length ≤ 1048576) (hfs : fs.length ≤ 1048576) (h0 : faC l fs = 0) : Vs.Fn Try.prog F.spec_AmountsAfter [] [.sl 1 (E cI l), .sl 4 (E cF fs)] (.tup [.sl 1 (E cI (aft l fs l.length)), .v (.int .i64 0)]) [] := by
  have e0 : (faC l fs != 0) = false := by simp [h0]
  obtain ⟨ha, hb⟩ := faC_zero h0
  refine Cd.spec_AmountsAfter_ok.fn0 Try.mixed Cd.spec_AmountsAfter_nt Cd.spec_AmountsAfter_rs rfl fun X => ?_
  unfold Cd.spec_AmountsAfter
  simp -dsimp only [go_sem, reduceIte, reduceCtorEq, Nat.reduceEqDiff, Nat.reduceLT, Nat.reduceLeDiff, Nat.reduceAdd, Nat.reduceMul, Nat.reduceSub, Int.reduceToNat, Int.reduceNeg]
  refine CallK.flat (l19Code l fs hl hfs) rfl ?_
  simp -dsimp only [go_sem, reduceIte, reduceCtorEq, Nat.reduceEqDiff, Nat.reduceLT, Nat.reduceLeDiff, Nat.reduceAdd, Nat.reduceMul, Nat.reduceSub, Int.reduceToNat, Int.reduceNeg, e0]
  repeat' (first
    | (refine RgK.mk rfl ?_; simp -dsimp only [go_sem, reduceIte, reduceCtorEq, Nat.reduceEqDiff, Nat.reduceLT, Nat.reduceLeDiff, Nat.reduceAdd, Nat.reduceMul, Nat.reduceSub, Int.reduceToNat, Int.reduceNeg, e0])
    | (refine Br.mk (fun h => ?_) (fun h => ?_) <;> simp -dsimp only [go_sem, reduceIte, reduceCtorEq, Nat.reduceEqDiff, Nat.reduceLT, Nat.reduceLeDiff, Nat.reduceAdd, Nat.reduceMul, Nat.reduceSub, Int.reduceToNat, Int.reduceNeg, h, e0])
    | (refine CallK.flat (by first | exact l19After l fs ha hb) rfl ?_; simp -dsimp only [go_sem, reduceIte, reduceCtorEq, Nat.reduceEqDiff, Nat.reduceLT, Nat.reduceLeDiff, Nat.reduceAdd, Nat.reduceMul, Nat.reduceSub, Int.reduceToNat, Int.reduceNeg, e0])
    | (refine CallK.pure (by first | exact l19After l fs ha hb) ?_; simp -dsimp only [go_sem, reduceIte, reduceCtorEq, Nat.reduceEqDiff, Nat.reduceLT, Nat.reduceLeDiff, Nat.reduceAdd, Nat.reduceMul, Nat.reduceSub, Int.reduceToNat, Int.reduceNeg, e0])
    | (refine And.intro (by first | rfl | omega | decide | (refine ⟨?_, ?_⟩ <;> (first | rfl | omega | decide)) | (refine ⟨?_, ?_, ?_⟩ <;> (first | rfl | omega | decide)) | (refine ⟨?_, ?_, ?_, ?_⟩ <;> (first | rfl | omega | decide))) ?_)
    | fail)

  all_goals simp

theorem impl_AA1 (l : List Int) (fs : List Flt) (hl : l.length ≤ 1048576) (hfs : fs.length ≤ 1048576) (h0 : faC l fs = 0) : Vs.Fn Try.prog F.impl_AmountsAfter [] [.sl 1 (E cI l), .sl 4 (E cF fs)] (.tup [.loc (.b 0) 0 (aft l fs l.length).length, .v (.int .i64 0)]) [some (.arr 1 (E cI (aft l fs l.length)) false)] := by
  have e0 : (faC l fs != 0) = false := by simp [h0]
  obtain ⟨ha, hb⟩ := faC_zero h0
  refine Cd.impl_AmountsAfter_ok.fn Try.mixed (hin := []) 16 _ [.t 15 0] [.arr 1 (E cI (aft l fs l.length)) false] Cd.impl_AmountsAfter_nt Cd.impl_AmountsAfter_rs rfl (by simp) rfl (by simp) fun X => ?_
  unfold Cd.impl_AmountsAfter
  simp -dsimp only [go_sem, reduceIte, reduceCtorEq, Nat.reduceEqDiff, Nat.reduceLT, Nat.reduceLeDiff, Nat.reduceAdd, Nat.reduceMul, Nat.reduceSub, Int.reduceToNat, Int.reduceNeg]
  refine CallK.flat (faultCode l fs hl hfs) rfl ?_
  simp -dsimp only [go_sem, reduceIte, reduceCtorEq, Nat.reduceEqDiff, Nat.reduceLT, Nat.reduceLeDiff, Nat.reduceAdd, Nat.reduceMul, Nat.reduceSub, Int.reduceToNat, Int.reduceNeg, e0]
  refine CallK.own (amountsAfterO l fs ha hb) rfl ?_
  simp -dsimp only [go_sem, reduceIte, reduceCtorEq, Nat.reduceEqDiff, Nat.reduceLT, Nat.reduceLeDiff, Nat.reduceAdd, Nat.reduceMul, Nat.reduceSub, Int.reduceToNat, Int.reduceNeg]
  exact ⟨_, _, rfl, rfl⟩

theorem eqNil  : Vs.Fn Try.prog F.laws_eqInt64S [] [.v (.slice none 0 0), .v (.slice none 0 0)] (.v (.bool true)) [] := by
  refine Cd.laws_eqInt64S_ok.fn0 Try.mixed Cd.laws_eqInt64S_nt Cd.laws_eqInt64S_rs rfl fun X => ?_
  unfold Cd.laws_eqInt64S
  simp -dsimp only [go_sem, reduceIte, reduceCtorEq, Nat.reduceEqDiff, Nat.reduceLT, Nat.reduceLeDiff, Nat.reduceAdd, Nat.reduceMul, Nat.reduceSub, Int.reduceToNat, Int.reduceNeg]
  refine LoopK.at (drawn_ok Try.mixed) (X := Unit) (fun _ => []) (fun _ => []) (fun _ => 0) () ?_ ?_
  · simp [Vs.LeL, Vs.look, Vs.hlook, Vs.sput, Vs.sputs, Vs.hset, Vs.hputs]
  · rintro ⟨⟩
    simp -dsimp only [go_sem, reduceIte, reduceCtorEq, Nat.reduceEqDiff, Nat.reduceLT, Nat.reduceLeDiff, Nat.reduceAdd, Nat.reduceMul, Nat.reduceSub, Int.reduceToNat, Int.reduceNeg]
    refine Br.mk (fun h => absurd h (by decide)) fun _ => ?_
    simp -dsimp only [go_sem, reduceIte, reduceCtorEq, Nat.reduceEqDiff, Nat.reduceLT, Nat.reduceLeDiff, Nat.reduceAdd, Nat.reduceMul, Nat.reduceSub, Int.reduceToNat, Int.reduceNeg]
    exact ⟨ret_eq rfl, fun h => h rfl⟩

theorem markNil (k : Int) : Vs.Fn Try.prog F.laws_markInt64S [] [.v (.slice none 0 0), .v (.int .i64 k)] (.v (.int .i64 k)) [] := by
  refine Cd.laws_markInt64S_ok.fn0 Try.mixed Cd.laws_markInt64S_nt Cd.laws_markInt64S_rs rfl fun X => ?_
  unfold Cd.laws_markInt64S
  simp -dsimp only [go_sem, reduceIte, reduceCtorEq, Nat.reduceEqDiff, Nat.reduceLT, Nat.reduceLeDiff, Nat.reduceAdd, Nat.reduceMul, Nat.reduceSub, Int.reduceToNat, Int.reduceNeg]
  refine LoopK.at (drawn_ok Try.mixed) (X := Unit) (fun _ => []) (fun _ => []) (fun _ => 0) () ?_ ?_
  · simp [Vs.LeL, Vs.look, Vs.hlook, Vs.sput, Vs.sputs, Vs.hset, Vs.hputs]
  · rintro ⟨⟩
    simp -dsimp only [go_sem, reduceIte, reduceCtorEq, Nat.reduceEqDiff, Nat.reduceLT, Nat.reduceLeDiff, Nat.reduceAdd, Nat.reduceMul, Nat.reduceSub, Int.reduceToNat, Int.reduceNeg]
    refine Br.mk (fun h => absurd h (by decide)) fun _ => ?_
    simp -dsimp only [go_sem, reduceIte, reduceCtorEq, Nat.reduceEqDiff, Nat.reduceLT, Nat.reduceLeDiff, Nat.reduceAdd, Nat.reduceMul, Nat.reduceSub, Int.reduceToNat, Int.reduceNeg]
    exact ⟨ret_eq rfl, fun h => h rfl⟩

theorem heldNil (k : Int) : Vs.Fn Try.prog F.laws_heldInt64S [] [.v (.slice none 0 0), .v (.int .i64 k)] (.v (.int .i64 k)) [] := by
  refine Cd.laws_heldInt64S_ok.fn0 Try.mixed Cd.laws_heldInt64S_nt Cd.laws_heldInt64S_rs rfl fun X => ?_
  unfold Cd.laws_heldInt64S
  simp -dsimp only [go_sem, reduceIte, reduceCtorEq, Nat.reduceEqDiff, Nat.reduceLT, Nat.reduceLeDiff, Nat.reduceAdd, Nat.reduceMul, Nat.reduceSub, Int.reduceToNat, Int.reduceNeg]
  refine LoopK.at (drawn_ok Try.mixed) (X := Unit) (fun _ => []) (fun _ => []) (fun _ => 0) () ?_ ?_
  · simp [Vs.LeL, Vs.look, Vs.hlook, Vs.sput, Vs.sputs, Vs.hset, Vs.hputs]
  · rintro ⟨⟩
    simp -dsimp only [go_sem, reduceIte, reduceCtorEq, Nat.reduceEqDiff, Nat.reduceLT, Nat.reduceLeDiff, Nat.reduceAdd, Nat.reduceMul, Nat.reduceSub, Int.reduceToNat, Int.reduceNeg]
    refine Br.mk (fun h => absurd h (by decide)) fun _ => ?_
    simp -dsimp only [go_sem, reduceIte, reduceCtorEq, Nat.reduceEqDiff, Nat.reduceLT, Nat.reduceLeDiff, Nat.reduceAdd, Nat.reduceMul, Nat.reduceSub, Int.reduceToNat, Int.reduceNeg]
    exact ⟨ret_eq rfl, fun h => h rfl⟩

end Go.Proofs.Ythpokkcbbpapdaa
