/- Steps that are marked, read back. -/
import Derived.Test.YthpokkcbbpapdaaYwZt
namespace Go.Proofs.Ythpokkcbbpapdaa
open Go.Vs
set_option linter.unusedSimpArgs false
set_option linter.unusedVariables false
attribute [local irreducible] Vs.Fn chOK areCh chTo chAt l03
set_option maxRecDepth 20000 in
set_option maxHeartbeats 2000000 in
theorem heldStepS (l : List Stp) (k : Nat) (hl : l.length ≤ 1048576) (hk0 : 0 < k) (hk : k ≤ 900000000) : Vs.Fn Try.prog F.laws_heldStepS [] [.sl 9 (E cS (mkR (mS k) l l.length)), .v (.int .i64 k)] (.v (.int .i64 (k + 9 * l.length : Nat))) [] := by
  have hlr : (mkR (mS k) l l.length).length = l.length := mkR_length _ l (Nat.le_refl _)
  refine Cd.laws_heldStepS_ok.fn0 Try.mixed Cd.laws_heldStepS_nt Cd.laws_heldStepS_rs rfl fun X => ?_
  unfold Cd.laws_heldStepS
  simp -dsimp only [go_sem, reduceIte, reduceCtorEq, Nat.reduceEqDiff, Nat.reduceLT, Nat.reduceLeDiff, Nat.reduceAdd, Nat.reduceMul, Nat.reduceSub, Int.reduceToNat, Int.reduceNeg]
  refine LoopK.at (drawn_ok Try.mixed) (X := { i : Nat // i ≤ l.length }) (fun i => [(1, .v (.int .i64 (k + 9 * i.1 : Nat))), (5, .v (.int .i64 i.1))]) (fun i => []) (fun i => l.length - i.1) ⟨0, by omega⟩ ?_ ?_
  · simp [Vs.LeL, Vs.look, Vs.hlook, Vs.sput, Vs.sputs, Vs.hset, Vs.hputs]
  · rintro ⟨i, hi⟩
    simp -dsimp only [go_sem, reduceIte, reduceCtorEq, Nat.reduceEqDiff, Nat.reduceLT, Nat.reduceLeDiff, Nat.reduceAdd, Nat.reduceMul, Nat.reduceSub, Int.reduceToNat, Int.reduceNeg, E_len, hlr]
    refine Br.mk (fun hc => ?_) fun hc => ?_
    · have hlt : i < l.length := by simpa using hc
      have hw := wrap_succ hlt hl
      have w0 : IntKind.i64.wrap (((k + 9 * i : Nat) : Int) + 1) = ((k + 9 * i + 1 : Nat) : Int) := by rw [wrap_in (by omega) (by omega)]; omega
      have w1 : IntKind.i64.wrap (((k + 9 * i + 1 : Nat) : Int) + 1) = ((k + 9 * i + 2 : Nat) : Int) := by rw [wrap_in (by omega) (by omega)]; omega
      have w2 : IntKind.i64.wrap (((k + 9 * i + 2 : Nat) : Int) + 1) = ((k + 9 * i + 3 : Nat) : Int) := by rw [wrap_in (by omega) (by omega)]; omega
      have w3 : IntKind.i64.wrap (((k + 9 * i + 3 : Nat) : Int) + 1) = ((k + 9 * i + 4 : Nat) : Int) := by rw [wrap_in (by omega) (by omega)]; omega
      have w4 : IntKind.i64.wrap (((k + 9 * i + 4 : Nat) : Int) + 1) = ((k + 9 * i + 5 : Nat) : Int) := by rw [wrap_in (by omega) (by omega)]; omega
      have w5 : IntKind.i64.wrap (((k + 9 * i + 5 : Nat) : Int) + 1) = ((k + 9 * i + 6 : Nat) : Int) := by rw [wrap_in (by omega) (by omega)]; omega
      have w6 : IntKind.i64.wrap (((k + 9 * i + 6 : Nat) : Int) + 1) = ((k + 9 * i + 7 : Nat) : Int) := by rw [wrap_in (by omega) (by omega)]; omega
      have w7 : IntKind.i64.wrap (((k + 9 * i + 7 : Nat) : Int) + 1) = ((k + 9 * i + 8 : Nat) : Int) := by rw [wrap_in (by omega) (by omega)]; omega
      have w8 : IntKind.i64.wrap (((k + 9 * i + 8 : Nat) : Int) + 1) = ((k + 9 * (i + 1) : Nat) : Int) := by rw [wrap_in (by omega) (by omega)]; omega
      have n0 : (((k + 9 * i : Nat) : Int) != ((k + 9 * i : Nat) : Int)) = false := by simp
      have n1 : (((k + 9 * i + 1 : Nat) : Int) != ((k + 9 * i + 1 : Nat) : Int)) = false := by simp
      have n2 : (((k + 9 * i + 2 : Nat) : Int) != ((k + 9 * i + 2 : Nat) : Int)) = false := by simp
      have n3 : (((k + 9 * i + 3 : Nat) : Int) != ((k + 9 * i + 3 : Nat) : Int)) = false := by simp
      have n4 : (((k + 9 * i + 4 : Nat) : Int) != ((k + 9 * i + 4 : Nat) : Int)) = false := by simp
      have n5 : (((k + 9 * i + 5 : Nat) : Int) != ((k + 9 * i + 5 : Nat) : Int)) = false := by simp
      have n6 : (((k + 9 * i + 6 : Nat) : Int) != ((k + 9 * i + 6 : Nat) : Int)) = false := by simp
      have n7 : (((k + 9 * i + 7 : Nat) : Int) != ((k + 9 * i + 7 : Nat) : Int)) = false := by simp
      have n8 : (!((mtx (k + 9 * i + 8)).toList == (mtx (k + 9 * i + 8)).toList)) = false := by simp
      have hgi : (E cS (mkR (mS k) l l.length)).getD i [] = [.v (.int .i64 (k + 9 * i : Nat)), .v (.int .i64 (k + 9 * i + 1 : Nat)), .v (.int .i64 (k + 9 * i + 2 : Nat)), .v (.int .i64 (k + 9 * i + 3 : Nat)), .v (.int .i64 (k + 9 * i + 4 : Nat)), .v (.int .i64 (k + 9 * i + 5 : Nat)), .v (.int .i64 (k + 9 * i + 6 : Nat)), .v (.int .i64 (k + 9 * i + 7 : Nat)), .v (.string (mtx (k + 9 * i + 8)))] := by
        rw [E_get (by rw [hlr]; exact hlt)]
        simp only [mkR_all, List.getElem_map, List.getElem_range]
        rfl
      simp -dsimp only [go_sem, reduceIte, reduceCtorEq, Nat.reduceEqDiff, Nat.reduceLT, Nat.reduceLeDiff, Nat.reduceAdd, Nat.reduceMul, Nat.reduceSub, Int.reduceToNat, Int.reduceNeg, hw, w0, w1, w2, w3, w4, w5, w6, w7, w8, n0, n1, n2, n3, n4, n5, n6, n7, n8, hgi, hlr, E_len]
      repeat' (first
        | (refine RgK.mk rfl ?_; simp -dsimp only [go_sem, reduceIte, reduceCtorEq, Nat.reduceEqDiff, Nat.reduceLT, Nat.reduceLeDiff, Nat.reduceAdd, Nat.reduceMul, Nat.reduceSub, Int.reduceToNat, Int.reduceNeg, hw, w0, w1, w2, w3, w4, w5, w6, w7, w8, n0, n1, n2, n3, n4, n5, n6, n7, n8, hgi, hlr, E_len])
        | (refine Br.mk (fun h => ?_) (fun h => ?_) <;> simp -dsimp only [go_sem, reduceIte, reduceCtorEq, Nat.reduceEqDiff, Nat.reduceLT, Nat.reduceLeDiff, Nat.reduceAdd, Nat.reduceMul, Nat.reduceSub, Int.reduceToNat, Int.reduceNeg, h, hw, w0, w1, w2, w3, w4, w5, w6, w7, w8, n0, n1, n2, n3, n4, n5, n6, n7, n8, hgi, hlr, E_len])
        | (refine CallK.flat (by first | exact markText (k + 9 * i + 8) (by omega) (by omega)) rfl ?_; simp -dsimp only [go_sem, reduceIte, reduceCtorEq, Nat.reduceEqDiff, Nat.reduceLT, Nat.reduceLeDiff, Nat.reduceAdd, Nat.reduceMul, Nat.reduceSub, Int.reduceToNat, Int.reduceNeg, hw, w0, w1, w2, w3, w4, w5, w6, w7, w8, n0, n1, n2, n3, n4, n5, n6, n7, n8, hgi, hlr, E_len])
        | (refine CallK.pure (by first | exact markText (k + 9 * i + 8) (by omega) (by omega)) ?_; simp -dsimp only [go_sem, reduceIte, reduceCtorEq, Nat.reduceEqDiff, Nat.reduceLT, Nat.reduceLeDiff, Nat.reduceAdd, Nat.reduceMul, Nat.reduceSub, Int.reduceToNat, Int.reduceNeg, hw, w0, w1, w2, w3, w4, w5, w6, w7, w8, n0, n1, n2, n3, n4, n5, n6, n7, n8, hgi, hlr, E_len])
        | (refine And.intro (by first | rfl | omega | decide | (refine ⟨?_, ?_⟩ <;> (first | rfl | omega | decide)) | (refine ⟨?_, ?_, ?_⟩ <;> (first | rfl | omega | decide)) | (refine ⟨?_, ?_, ?_, ?_⟩ <;> (first | rfl | omega | decide))) ?_)
        | fail)

      all_goals (exact ⟨⟨i + 1, by omega⟩, by simp [Vs.LeL, Vs.look, Vs.hlook, Vs.sput, Vs.sputs, Vs.hset, Vs.hputs], by simp only; omega⟩)
    · have hge : i = l.length := by
        have : ¬ i < l.length := by simpa using hc
        omega
      subst hge
      simp -dsimp only [go_sem, reduceIte, reduceCtorEq, Nat.reduceEqDiff, Nat.reduceLT, Nat.reduceLeDiff, Nat.reduceAdd, Nat.reduceMul, Nat.reduceSub, Int.reduceToNat, Int.reduceNeg]
      simp

end Go.Proofs.Ythpokkcbbpapdaa
