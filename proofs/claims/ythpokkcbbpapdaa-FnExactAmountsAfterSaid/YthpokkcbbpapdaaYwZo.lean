/- Numbers and faults that are handed over and marked. -/
import Derived.Test.YthpokkcbbpapdaaYwZn
import Derived.Test.YthpokkcbbpapdaaVtR
namespace Go.Proofs.Ythpokkcbbpapdaa
open Go.Vs
set_option linter.unusedSimpArgs false
set_option linter.unusedVariables false
attribute [local irreducible] Vs.Fn
theorem hB1 {x : Blk} : ∀ j, j < [x].length → [Name.b 0][j]? = some (.b j) := by
  intro j hj
  have : j = 0 := by simpa using hj
  subst this; rfl

theorem toInt64SO {l : List Int} (hl : l.length ≤ 1048576) : Vs.Fn Try.prog F.laws_toInt64S [] [.sl 1 (E cI l)] (.loc (.b 0) 0 l.length) [some (.arr 1 (E cI l) false)] :=
  toI_own Try.mixed Cd.laws_toInt64S_ok Cd.laws_toInt64S_nt Cd.laws_toInt64S_rs rfl hl
theorem toFaultSO (l : List Flt) (hl : l.length ≤ 1048576) : Vs.Fn Try.prog F.laws_toFaultS [] [.sl 4 (E cF l)] (.loc (.b 0) 0 l.length) [some (.arr 4 (E cF l) false)] :=
  toS_own Try.mixed (g := F.laws_toFault) (k := 4) (y := 32) (z := [.v (.int .i64 0), .v (.int .i64 0), .v (.int .i64 0), .v (.int .i64 0)]) Cd.laws_toFaultS_ok Cd.laws_toFaultS_nt Cd.laws_toFaultS_rs rfl (fun _ => rfl) (by decide) rfl rfl (fun _ => rfl) (fun x hx => toFault x) hl (by decide)
/-- the marks of numbers -/
def mI (k : Nat) (j : Nat) : Int := (k + j : Nat)
def mF (k : Nat) (j : Nat) : Flt := ⟨(k + 4 * j : Nat), (k + 4 * j + 1 : Nat), (k + 4 * j + 2 : Nat), (k + 4 * j + 3 : Nat)⟩
theorem markInt64S (l : List Int) (k : Nat) (hl : l.length ≤ 1048576) (hk : k ≤ 1000000000) : Vs.Fn Try.prog F.laws_markInt64S [.arr 1 (E cI l) false] [.loc (.b 0) 0 l.length, .v (.int .i64 k)] (.v (.int .i64 (k + l.length : Nat))) [some (.arr 1 (E cI (mkR (mI k) l l.length)) false)] := by
  refine Cd.laws_markInt64S_ok.fn Try.mixed (hin := [.arr 1 (E cI l) false]) 19 _ [.b 0] [.arr 1 (E cI (mkR (mI k) l l.length)) false] Cd.laws_markInt64S_nt Cd.laws_markInt64S_rs rfl (by simp) rfl hB1 fun X => ?_
  unfold Cd.laws_markInt64S
  simp -dsimp only [go_sem, reduceIte, reduceCtorEq, Nat.reduceEqDiff, Nat.reduceLT, Nat.reduceLeDiff, Nat.reduceAdd, Nat.reduceMul, Nat.reduceSub, Int.reduceToNat, Int.reduceNeg]
  refine LoopK.at (drawn_ok Try.mixed) (X := { i : Nat // i ≤ l.length }) (fun i => [(0, .loc (.b 0) 0 l.length), (1, .v (.int .i64 (k + i.1 : Nat))), (5, .v (.int .i64 i.1))]) (fun i => [(.b 0, .arr 1 (E cI (mkR (mI k) l i.1)) false)]) (fun i => l.length - i.1) ⟨0, by omega⟩ ?_ ?_
  · simp [Vs.LeL, Vs.look, Vs.hlook, Vs.sput, Vs.sputs, Vs.hset, Vs.hputs, mkR_zero]
  · rintro ⟨i, hi⟩
    simp -dsimp only [go_sem, reduceIte, reduceCtorEq, Nat.reduceEqDiff, Nat.reduceLT, Nat.reduceLeDiff, Nat.reduceAdd, Nat.reduceMul, Nat.reduceSub, Int.reduceToNat, Int.reduceNeg]
    refine Br.mk (fun hc => ?_) fun hc => ?_
    · have hlt : i < l.length := by simpa using hc
      have hw := wrap_succ hlt hl
      have hw2 : IntKind.i64.wrap (((k + i : Nat) : Int) + 1) = ((k + (i + 1) : Nat) : Int) := by rw [wrap_in (by omega) (by omega)]; omega
      have hgi : (E cI (mkR (mI k) l i)).getD i [] = [.v (.int .i64 l[i])] := mkR_get (c := cI) _ l hlt
      have hst : (E cI (mkR (mI k) l i)).set i [.v (.int .i64 (k + i : Nat))] = E cI (mkR (mI k) l (i + 1)) := mkR_set (c := cI) (mI k) l hlt
      have hlr : (mkR (mI k) l i).length = l.length := mkR_length _ l (by omega)
      simp -dsimp only [go_sem, reduceIte, reduceCtorEq, Nat.reduceEqDiff, Nat.reduceLT, Nat.reduceLeDiff, Nat.reduceAdd, Nat.reduceMul, Nat.reduceSub, Int.reduceToNat, Int.reduceNeg, hw, hw2, hgi, hst, hlr, E_len]
      repeat' (first
        | (refine RgK.mk rfl ?_; simp -dsimp only [go_sem, reduceIte, reduceCtorEq, Nat.reduceEqDiff, Nat.reduceLT, Nat.reduceLeDiff, Nat.reduceAdd, Nat.reduceMul, Nat.reduceSub, Int.reduceToNat, Int.reduceNeg, hw, hw2, hgi, hst, hlr, E_len])
        | (refine Br.mk (fun h => ?_) (fun h => ?_) <;> simp -dsimp only [go_sem, reduceIte, reduceCtorEq, Nat.reduceEqDiff, Nat.reduceLT, Nat.reduceLeDiff, Nat.reduceAdd, Nat.reduceMul, Nat.reduceSub, Int.reduceToNat, Int.reduceNeg, h, hw, hw2, hgi, hst, hlr, E_len])
        | (refine And.intro (by first | rfl | omega | decide | (refine ⟨?_, ?_⟩ <;> (first | rfl | omega | decide)) | (refine ⟨?_, ?_, ?_⟩ <;> (first | rfl | omega | decide)) | (refine ⟨?_, ?_, ?_, ?_⟩ <;> (first | rfl | omega | decide))) ?_)
        | fail)

      all_goals (exact ⟨⟨i + 1, by omega⟩, by simp [Vs.LeL, Vs.look, Vs.hlook, Vs.sput, Vs.sputs, Vs.hset, Vs.hputs], by simp only; omega⟩)
    · have hge : i = l.length := by
        have : ¬ i < l.length := by simpa using hc
        omega
      subst hge
      simp -dsimp only [go_sem, reduceIte, reduceCtorEq, Nat.reduceEqDiff, Nat.reduceLT, Nat.reduceLeDiff, Nat.reduceAdd, Nat.reduceMul, Nat.reduceSub, Int.reduceToNat, Int.reduceNeg]
      exact ⟨⟨_, _, rfl, rfl⟩, fun h => h rfl⟩

theorem heldInt64S (l : List Int) (k : Nat) (hl : l.length ≤ 1048576) (hk : k ≤ 1000000000) : Vs.Fn Try.prog F.laws_heldInt64S [] [.sl 1 (E cI (mkR (mI k) l l.length)), .v (.int .i64 k)] (.v (.int .i64 (k + l.length : Nat))) [] := by
  have hlr : (mkR (mI k) l l.length).length = l.length := mkR_length _ l (Nat.le_refl _)
  refine Cd.laws_heldInt64S_ok.fn0 Try.mixed Cd.laws_heldInt64S_nt Cd.laws_heldInt64S_rs rfl fun X => ?_
  unfold Cd.laws_heldInt64S
  simp -dsimp only [go_sem, reduceIte, reduceCtorEq, Nat.reduceEqDiff, Nat.reduceLT, Nat.reduceLeDiff, Nat.reduceAdd, Nat.reduceMul, Nat.reduceSub, Int.reduceToNat, Int.reduceNeg]
  refine LoopK.at (drawn_ok Try.mixed) (X := { i : Nat // i ≤ l.length }) (fun i => [(1, .v (.int .i64 (k + i.1 : Nat))), (5, .v (.int .i64 i.1))]) (fun i => []) (fun i => l.length - i.1) ⟨0, by omega⟩ ?_ ?_
  · simp [Vs.LeL, Vs.look, Vs.hlook, Vs.sput, Vs.sputs, Vs.hset, Vs.hputs]
  · rintro ⟨i, hi⟩
    simp -dsimp only [go_sem, reduceIte, reduceCtorEq, Nat.reduceEqDiff, Nat.reduceLT, Nat.reduceLeDiff, Nat.reduceAdd, Nat.reduceMul, Nat.reduceSub, Int.reduceToNat, Int.reduceNeg, E_len, hlr]
    refine Br.mk (fun hc => ?_) fun hc => ?_
    · have hlt : i < l.length := by simpa using hc
      have hw := wrap_succ hlt hl
      have hw2 : IntKind.i64.wrap (((k + i : Nat) : Int) + 1) = ((k + (i + 1) : Nat) : Int) := by rw [wrap_in (by omega) (by omega)]; omega
      have hgi : (E cI (mkR (mI k) l l.length)).getD i [] = [.v (.int .i64 (k + i : Nat))] := by
        rw [E_get (by rw [hlr]; exact hlt)]
        simp only [mkR_all, List.getElem_map, List.getElem_range]
        rfl
      have hbe : (((k + i : Nat) : Int) != ((k + i : Nat) : Int)) = false := by simp
      simp -dsimp only [go_sem, reduceIte, reduceCtorEq, Nat.reduceEqDiff, Nat.reduceLT, Nat.reduceLeDiff, Nat.reduceAdd, Nat.reduceMul, Nat.reduceSub, Int.reduceToNat, Int.reduceNeg, hw, hw2, hgi, hlr, hbe, E_len]
      repeat' (first
        | (refine RgK.mk rfl ?_; simp -dsimp only [go_sem, reduceIte, reduceCtorEq, Nat.reduceEqDiff, Nat.reduceLT, Nat.reduceLeDiff, Nat.reduceAdd, Nat.reduceMul, Nat.reduceSub, Int.reduceToNat, Int.reduceNeg, hw, hw2, hgi, hlr, hbe, E_len])
        | (refine Br.mk (fun h => ?_) (fun h => ?_) <;> simp -dsimp only [go_sem, reduceIte, reduceCtorEq, Nat.reduceEqDiff, Nat.reduceLT, Nat.reduceLeDiff, Nat.reduceAdd, Nat.reduceMul, Nat.reduceSub, Int.reduceToNat, Int.reduceNeg, h, hw, hw2, hgi, hlr, hbe, E_len])
        | (refine And.intro (by first | rfl | omega | decide | (refine ⟨?_, ?_⟩ <;> (first | rfl | omega | decide)) | (refine ⟨?_, ?_, ?_⟩ <;> (first | rfl | omega | decide)) | (refine ⟨?_, ?_, ?_, ?_⟩ <;> (first | rfl | omega | decide))) ?_)
        | fail)

      all_goals (exact ⟨⟨i + 1, by omega⟩, by simp [Vs.LeL, Vs.look, Vs.hlook, Vs.sput, Vs.sputs, Vs.hset, Vs.hputs], by simp only; omega⟩)
    · have hge : i = l.length := by
        have : ¬ i < l.length := by simpa using hc
        omega
      subst hge
      simp -dsimp only [go_sem, reduceIte, reduceCtorEq, Nat.reduceEqDiff, Nat.reduceLT, Nat.reduceLeDiff, Nat.reduceAdd, Nat.reduceMul, Nat.reduceSub, Int.reduceToNat, Int.reduceNeg]
      simp

theorem markFaultS (l : List Flt) (k : Nat) (hl : l.length ≤ 1048576) (hk : k ≤ 1000000000) : Vs.Fn Try.prog F.laws_markFaultS [.arr 4 (E cF l) false] [.loc (.b 0) 0 l.length, .v (.int .i64 k)] (.v (.int .i64 (k + 4 * l.length : Nat))) [some (.arr 4 (E cF (mkR (mF k) l l.length)) false)] := by
  refine Cd.laws_markFaultS_ok.fn Try.mixed (hin := [.arr 4 (E cF l) false]) 41 _ [.b 0] [.arr 4 (E cF (mkR (mF k) l l.length)) false] Cd.laws_markFaultS_nt Cd.laws_markFaultS_rs rfl (by simp) rfl hB1 fun X => ?_
  unfold Cd.laws_markFaultS
  simp -dsimp only [go_sem, reduceIte, reduceCtorEq, Nat.reduceEqDiff, Nat.reduceLT, Nat.reduceLeDiff, Nat.reduceAdd, Nat.reduceMul, Nat.reduceSub, Int.reduceToNat, Int.reduceNeg]
  refine LoopK.at (drawn_ok Try.mixed) (X := { i : Nat // i ≤ l.length }) (fun i => [(0, .loc (.b 0) 0 l.length), (1, .v (.int .i64 (k + 4 * i.1 : Nat))), (5, .v (.int .i64 i.1))]) (fun i => [(.b 0, .arr 4 (E cF (mkR (mF k) l i.1)) false)]) (fun i => l.length - i.1) ⟨0, by omega⟩ ?_ ?_
  · simp [Vs.LeL, Vs.look, Vs.hlook, Vs.sput, Vs.sputs, Vs.hset, Vs.hputs, mkR_zero]
  · rintro ⟨i, hi⟩
    simp -dsimp only [go_sem, reduceIte, reduceCtorEq, Nat.reduceEqDiff, Nat.reduceLT, Nat.reduceLeDiff, Nat.reduceAdd, Nat.reduceMul, Nat.reduceSub, Int.reduceToNat, Int.reduceNeg]
    refine Br.mk (fun hc => ?_) fun hc => ?_
    · have hlt : i < l.length := by simpa using hc
      have hw := wrap_succ hlt hl
      have w1 : IntKind.i64.wrap (((k + 4 * i : Nat) : Int) + 1) = ((k + 4 * i + 1 : Nat) : Int) := by rw [wrap_in (by omega) (by omega)]; omega
      have w2 : IntKind.i64.wrap (((k + 4 * i + 1 : Nat) : Int) + 1) = ((k + 4 * i + 2 : Nat) : Int) := by rw [wrap_in (by omega) (by omega)]; omega
      have w3 : IntKind.i64.wrap (((k + 4 * i + 2 : Nat) : Int) + 1) = ((k + 4 * i + 3 : Nat) : Int) := by rw [wrap_in (by omega) (by omega)]; omega
      have w4 : IntKind.i64.wrap (((k + 4 * i + 3 : Nat) : Int) + 1) = ((k + 4 * (i + 1) : Nat) : Int) := by rw [wrap_in (by omega) (by omega)]; omega
      have hlr : (mkR (mF k) l i).length = l.length := mkR_length _ l (by omega)
      have hgi : (E cF (mkR (mF k) l i)).getD i [] = cF l[i] := mkR_get (c := cF) _ l hlt
      have hgs : ∀ r, ((E cF (mkR (mF k) l i)).set i r).getD i [] = r := fun r => set_get (by rw [E_len, hlr]; exact hlt) r
      have hst : (E cF (mkR (mF k) l i)).set i [.v (.int .i64 (k + 4 * i : Nat)), .v (.int .i64 (k + 4 * i + 1 : Nat)), .v (.int .i64 (k + 4 * i + 2 : Nat)), .v (.int .i64 (k + 4 * i + 3 : Nat))] = E cF (mkR (mF k) l (i + 1)) := mkR_set (c := cF) (mF k) l hlt
      simp -dsimp only [go_sem, reduceIte, reduceCtorEq, Nat.reduceEqDiff, Nat.reduceLT, Nat.reduceLeDiff, Nat.reduceAdd, Nat.reduceMul, Nat.reduceSub, Int.reduceToNat, Int.reduceNeg, hw, w1, w2, w3, w4, hgi, hgs, hst, hlr, cF, E_len, List.set_set, List.length_set, List.set_cons_zero, List.set_cons_succ, List.length_cons, List.length_nil]
      repeat' (first
        | (refine RgK.mk rfl ?_; simp -dsimp only [go_sem, reduceIte, reduceCtorEq, Nat.reduceEqDiff, Nat.reduceLT, Nat.reduceLeDiff, Nat.reduceAdd, Nat.reduceMul, Nat.reduceSub, Int.reduceToNat, Int.reduceNeg, hw, w1, w2, w3, w4, hgi, hgs, hst, hlr, cF, E_len, List.set_set, List.length_set, List.set_cons_zero, List.set_cons_succ, List.length_cons, List.length_nil])
        | (refine Br.mk (fun h => ?_) (fun h => ?_) <;> simp -dsimp only [go_sem, reduceIte, reduceCtorEq, Nat.reduceEqDiff, Nat.reduceLT, Nat.reduceLeDiff, Nat.reduceAdd, Nat.reduceMul, Nat.reduceSub, Int.reduceToNat, Int.reduceNeg, h, hw, w1, w2, w3, w4, hgi, hgs, hst, hlr, cF, E_len, List.set_set, List.length_set, List.set_cons_zero, List.set_cons_succ, List.length_cons, List.length_nil])
        | (refine And.intro (by first | rfl | omega | decide | (refine ⟨?_, ?_⟩ <;> (first | rfl | omega | decide)) | (refine ⟨?_, ?_, ?_⟩ <;> (first | rfl | omega | decide)) | (refine ⟨?_, ?_, ?_, ?_⟩ <;> (first | rfl | omega | decide))) ?_)
        | fail)

      all_goals (exact ⟨⟨i + 1, by omega⟩, by simp [Vs.LeL, Vs.look, Vs.hlook, Vs.sput, Vs.sputs, Vs.hset, Vs.hputs], by simp only; omega⟩)
    · have hge : i = l.length := by
        have : ¬ i < l.length := by simpa using hc
        omega
      subst hge
      simp -dsimp only [go_sem, reduceIte, reduceCtorEq, Nat.reduceEqDiff, Nat.reduceLT, Nat.reduceLeDiff, Nat.reduceAdd, Nat.reduceMul, Nat.reduceSub, Int.reduceToNat, Int.reduceNeg]
      exact ⟨⟨_, _, rfl, rfl⟩, fun h => h rfl⟩

end Go.Proofs.Ythpokkcbbpapdaa
