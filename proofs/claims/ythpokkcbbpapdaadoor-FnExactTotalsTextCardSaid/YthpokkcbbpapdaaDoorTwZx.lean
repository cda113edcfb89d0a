/- The program's TotalsText; the law FnExactTotalsText. -/
import Derived.Test.YthpokkcbbpapdaaDoorTwZw
namespace Go.Proofs.YthpokkcbbpapdaaDoor
open Go.Vs
set_option linter.unusedSimpArgs false
set_option linter.unusedVariables false
attribute [local irreducible] Vs.Fn chOK areCh chTo chAt l03
/-- the words of the first totals -/
def tw (l : List Tot) (i : Nat) : List (List AV) := E cX ((l.take i).map totX)
theorem tw_zero (l : List Tot) : tw l 0 = [] := rfl
theorem tw_len (l : List Tot) {i : Nat} (h : i ≤ l.length) : (tw l i).length = i := by rw [tw, E_len, List.length_map, List.length_take]; omega
theorem tw_succ {l : List Tot} {i : Nat} (h : i < l.length) : tw l i ++ [[.v (.string (l[i].1 ++ ⟨#[61]⟩ ++ dcl l[i].2))]] = tw l (i + 1) := by
  rw [tw, tw, take_succ h, List.map_append, E_append]; rfl
theorem tw_all (l : List Tot) : List.take l.length (tw l l.length) = E cX (l.map totX) := by
  rw [List.take_of_length_le (by rw [tw_len l (Nat.le_refl _)]; exact Nat.le_refl _), tw, List.take_length]
set_option maxHeartbeats 1000000 in
theorem impl_TotalsText (l : List Tot) (hok : okT l) : Vs.Fn Tryd.prog F.impl_TotalsText [] [.sl 2 (E cT l)] (.v (.string (jb (l.map totX)))) [] := by
  have hl := hok.1
  have hz := take_ok hok l.length (Nat.le_refl _)
  rw [List.take_length] at hz
  have hjl : (l.map totX).length ≤ 1048576 := by rw [List.length_map]; exact hl
  have hjz : (jb (l.map totX)).size ≤ 140737488355328 := by omega
  refine Cd.impl_TotalsText_ok.fn0 Tryd.mixed Cd.impl_TotalsText_nt Cd.impl_TotalsText_rs rfl fun X => ?_
  unfold Cd.impl_TotalsText
  simp -dsimp only [go_sem, reduceIte, reduceCtorEq, Nat.reduceEqDiff, Nat.reduceLT, Nat.reduceLeDiff, Nat.reduceAdd, Nat.reduceMul, Nat.reduceSub, Int.reduceToNat, Int.reduceNeg]
  refine ⟨⟨by omega, by omega⟩, rfl, ?_⟩
  refine LoopK.intro (drawn_ok Tryd.mixed) (X := { zz : Nat × Name // zz.1 ≤ l.length ∧ (zz.2 = .t 6 0 ∨ zz.2 = .t 22 0) })
    (fun zz => ⟨[(3, .loc zz.1.2 0 zz.1.1), (7, .sl 2 (E cT l)), (8, .v (.int .i64 l.length)), (9, .v (.int .i64 zz.1.1))], [(zz.1.2, .arr 1 (tw l zz.1.1) false)]⟩) (fun zz => l.length - zz.1.1) ⟨(0, .t 6 0), by omega, .inl rfl⟩ ?_ ?_
  · simp [Vs.LeL, Vs.look, Vs.hlook, tw_zero]
  · rintro ⟨⟨i, nm⟩, hi, hnm⟩
    dsimp only at hi hnm
    simp -dsimp only [go_sem, reduceIte, reduceCtorEq, Nat.reduceEqDiff, Nat.reduceLT, Nat.reduceLeDiff, Nat.reduceAdd, Nat.reduceMul, Nat.reduceSub, Int.reduceToNat, Int.reduceNeg]
    refine Br.mk (fun hc => ?_) fun hc => ?_
    · have hlt : i < l.length := by simpa using hc
      have hw := wrap_succ hlt hl
      have hm : (E cT l).getD i [] = [.v (.string l[i].1), .v (.int .i64 l[i].2)] := E_get hlt
      have hx := hok.2 _ (List.getElem_mem hlt)
      have hd := dcl_size hx.2.1 hx.2.2
      have hz := take_ok hok i hi
      have hz2 : (tj l i).size ≤ 1048601 * 1048576 := hz
      have hli := tw_len l hi
      have hs := tw_succ hlt
      rcases hnm with rfl | rfl
      all_goals
        simp -dsimp only [go_sem, reduceIte, reduceCtorEq, Nat.reduceEqDiff, Nat.reduceLT, Nat.reduceLeDiff, Nat.reduceAdd, Nat.reduceMul, Nat.reduceSub, Int.reduceToNat, Int.reduceNeg, hm, hw, cT, hli, hs, E_len, List.replicate_succ, List.replicate_zero, List.flatten_cons, List.flatten_nil]
        repeat' (first
          | (refine RgK.mk rfl ?_; simp -dsimp only [go_sem, reduceIte, reduceCtorEq, Nat.reduceEqDiff, Nat.reduceLT, Nat.reduceLeDiff, Nat.reduceAdd, Nat.reduceMul, Nat.reduceSub, Int.reduceToNat, Int.reduceNeg, hm, hw, cT, hli, hs, E_len, List.replicate_succ, List.replicate_zero, List.flatten_cons, List.flatten_nil])
          | (refine Br.mk (fun h => ?_) (fun h => ?_) <;> simp -dsimp only [go_sem, reduceIte, reduceCtorEq, Nat.reduceEqDiff, Nat.reduceLT, Nat.reduceLeDiff, Nat.reduceAdd, Nat.reduceMul, Nat.reduceSub, Int.reduceToNat, Int.reduceNeg, h, hm, hw, cT, hli, hs, E_len, List.replicate_succ, List.replicate_zero, List.flatten_cons, List.flatten_nil])
          | (refine CallK.flat (by first | exact decimalA l[i].2 hx.2.1 hx.2.2) rfl ?_; simp -dsimp only [go_sem, reduceIte, reduceCtorEq, Nat.reduceEqDiff, Nat.reduceLT, Nat.reduceLeDiff, Nat.reduceAdd, Nat.reduceMul, Nat.reduceSub, Int.reduceToNat, Int.reduceNeg, hm, hw, cT, hli, hs, E_len, List.replicate_succ, List.replicate_zero, List.flatten_cons, List.flatten_nil])
          | (refine CallK.pure (by first | exact decimalA l[i].2 hx.2.1 hx.2.2) ?_; simp -dsimp only [go_sem, reduceIte, reduceCtorEq, Nat.reduceEqDiff, Nat.reduceLT, Nat.reduceLeDiff, Nat.reduceAdd, Nat.reduceMul, Nat.reduceSub, Int.reduceToNat, Int.reduceNeg, hm, hw, cT, hli, hs, E_len, List.replicate_succ, List.replicate_zero, List.flatten_cons, List.flatten_nil])
          | (refine And.intro (by first | rfl | omega | decide | exact (by simp only [ByteArray.size_append, bsz, List.size_toArray, List.length_cons, List.length_nil]; omega) | (refine ⟨?_, ?_⟩ <;> (first | rfl | omega | decide | exact (by simp only [ByteArray.size_append, bsz, List.size_toArray, List.length_cons, List.length_nil]; omega))) | (refine ⟨?_, ?_, ?_⟩ <;> (first | rfl | omega | decide | exact (by simp only [ByteArray.size_append, bsz, List.size_toArray, List.length_cons, List.length_nil]; omega))) | (refine ⟨?_, ?_, ?_, ?_⟩ <;> (first | rfl | omega | decide | exact (by simp only [ByteArray.size_append, bsz, List.size_toArray, List.length_cons, List.length_nil]; omega)))) ?_)
          | fail)

        all_goals (exact ⟨⟨(i + 1, .t 22 0), by omega, .inr rfl⟩, by simp [Vs.LeL, Vs.look, Vs.hlook, hs], by simp only; omega⟩)
    · have hge : i = l.length := by
        have : ¬ i < l.length := by simpa using hc
        omega
      subst hge
      have hli := tw_len l hi
      have htk := tw_all l
      rcases hnm with rfl | rfl
      all_goals
        simp -dsimp only [go_sem, reduceIte, reduceCtorEq, Nat.reduceEqDiff, Nat.reduceLT, Nat.reduceLeDiff, Nat.reduceAdd, Nat.reduceMul, Nat.reduceSub, Int.reduceToNat, Int.reduceNeg, htk, hli, E_len]
        refine ⟨CallK.flat (joinedT (l.map totX) hjl hjz) rfl ?_, fun h => h rfl⟩
        simp -dsimp only [go_sem, reduceIte, reduceCtorEq, Nat.reduceEqDiff, Nat.reduceLT, Nat.reduceLeDiff, Nat.reduceAdd, Nat.reduceMul, Nat.reduceSub, Int.reduceToNat, Int.reduceNeg]
        exact ret_eq rfl
theorem law_TotalsText (l : List Tot) (hs0 : ∀ x, x ∈ l → x.1.size < 2 ^ 63 ∧ inR x.2) (hl0 : l.length < 2 ^ 63) : Vs.Fn Tryd.prog F.laws_FnExactTotalsText [] [.sl 2 (E cT l)] (.v (.bool true)) [] := by
  refine Cd.laws_FnExactTotalsText_ok.fn0 Tryd.mixed Cd.laws_FnExactTotalsText_nt Cd.laws_FnExactTotalsText_rs rfl fun X => ?_
  unfold Cd.laws_FnExactTotalsText
  simp -dsimp only [go_sem, reduceIte, reduceCtorEq, Nat.reduceEqDiff, Nat.reduceLT, Nat.reduceLeDiff, Nat.reduceAdd, Nat.reduceMul, Nat.reduceSub, Int.reduceToNat, Int.reduceNeg]
  refine CallK.flat (szTotalS l 1048576 (fun x hx => (hs0 x hx).1) hl0 (by omega)) rfl ?_
  simp -dsimp only [go_sem, reduceIte, reduceCtorEq, Nat.reduceEqDiff, Nat.reduceLT, Nat.reduceLeDiff, Nat.reduceAdd, Nat.reduceMul, Nat.reduceSub, Int.reduceToNat, Int.reduceNeg]
  refine Br.mk (fun h1 => by simp -dsimp only [go_sem, reduceIte, reduceCtorEq, Nat.reduceEqDiff, Nat.reduceLT, Nat.reduceLeDiff, Nat.reduceAdd, Nat.reduceMul, Nat.reduceSub, Int.reduceToNat, Int.reduceNeg]; simp) (fun h1 => ?_)
  simp -dsimp only [go_sem, reduceIte, reduceCtorEq, Nat.reduceEqDiff, Nat.reduceLT, Nat.reduceLeDiff, Nat.reduceAdd, Nat.reduceMul, Nat.reduceSub, Int.reduceToNat, Int.reduceNeg]
  simp only [decide_eq_false_iff_not] at h1
  have hl1 : l.length ≤ 1048576 := by have := szL_len hl0 (by omega) h1; omega
  have hok : okT l := by
    refine ⟨hl1, fun x hx => ⟨?_, (hs0 x hx).2⟩⟩
    obtain ⟨m, h2, h3, h4⟩ := szL_mem (fun x hx n h0 hn h => szTot_le (hs0 x hx).1 h0 hn h) hl0 (by omega) h1 x hx
    have := (szT_le (hs0 x hx).1 h2 h3 h4).2
    omega
  repeat' (first
    | (refine RgK.mk rfl ?_; simp -dsimp only [go_sem, reduceIte, reduceCtorEq, Nat.reduceEqDiff, Nat.reduceLT, Nat.reduceLeDiff, Nat.reduceAdd, Nat.reduceMul, Nat.reduceSub, Int.reduceToNat, Int.reduceNeg])
    | (refine Br.mk (fun h => ?_) (fun h => ?_) <;> simp -dsimp only [go_sem, reduceIte, reduceCtorEq, Nat.reduceEqDiff, Nat.reduceLT, Nat.reduceLeDiff, Nat.reduceAdd, Nat.reduceMul, Nat.reduceSub, Int.reduceToNat, Int.reduceNeg, h])
    | (refine CallK.flat (by first | exact toTotalS l hl1 | exact spec_TotalsText l hok | exact impl_TotalsText l hok | exact eqTotalS l hl1) rfl ?_; simp -dsimp only [go_sem, reduceIte, reduceCtorEq, Nat.reduceEqDiff, Nat.reduceLT, Nat.reduceLeDiff, Nat.reduceAdd, Nat.reduceMul, Nat.reduceSub, Int.reduceToNat, Int.reduceNeg])
    | (refine CallK.pure (by first | exact toTotalS l hl1 | exact spec_TotalsText l hok | exact impl_TotalsText l hok | exact eqTotalS l hl1) ?_; simp -dsimp only [go_sem, reduceIte, reduceCtorEq, Nat.reduceEqDiff, Nat.reduceLT, Nat.reduceLeDiff, Nat.reduceAdd, Nat.reduceMul, Nat.reduceSub, Int.reduceToNat, Int.reduceNeg])
    | (refine And.intro (by first | rfl | omega | decide | (refine ⟨?_, ?_⟩ <;> (first | rfl | omega | decide)) | (refine ⟨?_, ?_, ?_⟩ <;> (first | rfl | omega | decide)) | (refine ⟨?_, ?_, ?_, ?_⟩ <;> (first | rfl | omega | decide))) ?_)
    | fail)
  all_goals simp_all

end Go.Proofs.YthpokkcbbpapdaaDoor
