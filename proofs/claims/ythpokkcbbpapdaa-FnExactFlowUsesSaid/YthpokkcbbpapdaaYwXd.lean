/- The trays that a flow uses: the program's. -/
import Derived.Test.YthpokkcbbpapdaaYwXc
namespace Go.Proofs.Ythpokkcbbpapdaa
open Go.Vs
set_option linter.unusedSimpArgs false
set_option linter.unusedVariables false
attribute [local irreducible] Vs.Fn chOK areCh chTo chAt l03
theorem use1 (u : List Bool) (hu : u.length = 6) (t : Nat) (ht : t < 6) : Vs.Fn Try.prog F.impl_FlowUses_1 [] [.v (.int .i64 t), .ro (bl u)] (.v (.bool (u.getD t false))) [] := by
  have hg := bl_get (u := u) (c := t) (by omega)
  have hl := bl_len u
  refine Cd.impl_FlowUses_1_ok.fn0 Try.mixed Cd.impl_FlowUses_1_nt Cd.impl_FlowUses_1_rs rfl fun X => ?_
  unfold Cd.impl_FlowUses_1
  simp -dsimp only [go_sem, reduceIte, reduceCtorEq, Nat.reduceEqDiff, Nat.reduceLT, Nat.reduceLeDiff, Nat.reduceAdd, Nat.reduceMul, Nat.reduceSub, Int.reduceToNat, Int.reduceNeg, Int.toNat_natCast, Nat.mul_one, List.length_drop, bl_len, hu, hg]
  exact ⟨⟨by omega, by omega, by omega⟩, by omega, ret_eq rfl⟩

theorem colsO (u : List Bool) (hu : u.length = 6) : Vs.Fn Try.prog F.impl_columnsWhere [] [.v (.int .i64 6), .fn F.impl_FlowUses_1 [.ro (bl u)]] (.loc (.b 0) 0 (sel u 6).length) [some (.arr 1 (E cI (sel u 6)) false)] := by
  refine Cd.impl_columnsWhere_ok.fn Try.mixed (hin := []) 21 _ [.t 5 0] [.arr 1 (E cI (sel u 6)) false] Cd.impl_columnsWhere_nt Cd.impl_columnsWhere_rs rfl (by simp) rfl (by simp) fun X => ?_
  unfold Cd.impl_columnsWhere
  simp -dsimp only [go_sem, reduceIte, reduceCtorEq, Nat.reduceEqDiff, Nat.reduceLT, Nat.reduceLeDiff, Nat.reduceAdd, Nat.reduceMul, Nat.reduceSub, Int.reduceToNat, Int.reduceNeg]
  refine ⟨⟨by omega, by omega⟩, rfl, ?_⟩
  refine LoopK.intro (drawn_ok Try.mixed) (X := { i : Nat // i ≤ 6 }) (fun i => ⟨[(1, .fn F.impl_FlowUses_1 [.ro (bl u)]), (5, .loc (.t 5 0) 0 (sel u i.1).length), (8, .v (.int .i64 6)), (9, .v (.int .i64 i.1))], [(.t 5 0, .arr 1 (E cI (sel u i.1)) false)]⟩) (fun i => 6 - i.1) ⟨0, by omega⟩ ?_ ?_
  · simp [Vs.LeL, Vs.look, Vs.hlook, sel, Vs.E]
  · rintro ⟨i, hi⟩
    simp -dsimp only [go_sem, reduceIte, reduceCtorEq, Nat.reduceEqDiff, Nat.reduceLT, Nat.reduceLeDiff, Nat.reduceAdd, Nat.reduceMul, Nat.reduceSub, Int.reduceToNat, Int.reduceNeg]
    refine Br.mk (fun hc => ?_) fun hc => ?_
    · have hlt : i < 6 := by simp at hc; omega
      have hw : IntKind.i64.wrap ((i : Int) + 1) = ((i + 1 : Nat) : Int) := by rw [wrap_in (by omega) (by omega)]; omega
      have hsl := sel_len u i
      have hs := sel_succ u i
      cases hb : u.getD i false
      · rw [hb] at hs
        have hs : sel u (i + 1) = sel u i := by simpa using hs
        simp -dsimp only [go_sem, reduceIte, reduceCtorEq, Nat.reduceEqDiff, Nat.reduceLT, Nat.reduceLeDiff, Nat.reduceAdd, Nat.reduceMul, Nat.reduceSub, Int.reduceToNat, Int.reduceNeg, hw, hb, hap, E_len, E_take, List.replicate_succ, List.replicate_zero, List.flatten_cons, List.flatten_nil, List.length_append, List.length_cons, List.length_nil]
        repeat' (first
          | (refine RgK.mk rfl ?_; simp -dsimp only [go_sem, reduceIte, reduceCtorEq, Nat.reduceEqDiff, Nat.reduceLT, Nat.reduceLeDiff, Nat.reduceAdd, Nat.reduceMul, Nat.reduceSub, Int.reduceToNat, Int.reduceNeg, hw, hb, hap, E_len, E_take, List.replicate_succ, List.replicate_zero, List.flatten_cons, List.flatten_nil, List.length_append, List.length_cons, List.length_nil])
          | (refine Br.mk (fun h => ?_) (fun h => ?_) <;> simp -dsimp only [go_sem, reduceIte, reduceCtorEq, Nat.reduceEqDiff, Nat.reduceLT, Nat.reduceLeDiff, Nat.reduceAdd, Nat.reduceMul, Nat.reduceSub, Int.reduceToNat, Int.reduceNeg, h, hw, hb, hap, E_len, E_take, List.replicate_succ, List.replicate_zero, List.flatten_cons, List.flatten_nil, List.length_append, List.length_cons, List.length_nil])
          | (refine CallK.flat (by first | exact use1 u hu i hlt) rfl ?_; simp -dsimp only [go_sem, reduceIte, reduceCtorEq, Nat.reduceEqDiff, Nat.reduceLT, Nat.reduceLeDiff, Nat.reduceAdd, Nat.reduceMul, Nat.reduceSub, Int.reduceToNat, Int.reduceNeg, hw, hb, hap, E_len, E_take, List.replicate_succ, List.replicate_zero, List.flatten_cons, List.flatten_nil, List.length_append, List.length_cons, List.length_nil])
          | (refine CallK.pure (by first | exact use1 u hu i hlt) ?_; simp -dsimp only [go_sem, reduceIte, reduceCtorEq, Nat.reduceEqDiff, Nat.reduceLT, Nat.reduceLeDiff, Nat.reduceAdd, Nat.reduceMul, Nat.reduceSub, Int.reduceToNat, Int.reduceNeg, hw, hb, hap, E_len, E_take, List.replicate_succ, List.replicate_zero, List.flatten_cons, List.flatten_nil, List.length_append, List.length_cons, List.length_nil])
          | (refine And.intro (by first | rfl | omega | decide | (refine ⟨?_, ?_⟩ <;> (first | rfl | omega | decide)) | (refine ⟨?_, ?_, ?_⟩ <;> (first | rfl | omega | decide)) | (refine ⟨?_, ?_, ?_, ?_⟩ <;> (first | rfl | omega | decide))) ?_)
          | fail)

        all_goals (exact ⟨⟨i + 1, by omega⟩, by simp [Vs.LeL, Vs.look, Vs.hlook, hs], by simp only; omega⟩)
      · rw [hb] at hs
        have hs : sel u (i + 1) = sel u i ++ [(i : Int)] := by simpa using hs
        simp -dsimp only [go_sem, reduceIte, reduceCtorEq, Nat.reduceEqDiff, Nat.reduceLT, Nat.reduceLeDiff, Nat.reduceAdd, Nat.reduceMul, Nat.reduceSub, Int.reduceToNat, Int.reduceNeg, hw, hb, hap, E_len, E_take, List.replicate_succ, List.replicate_zero, List.flatten_cons, List.flatten_nil, List.length_append, List.length_cons, List.length_nil]
        repeat' (first
          | (refine RgK.mk rfl ?_; simp -dsimp only [go_sem, reduceIte, reduceCtorEq, Nat.reduceEqDiff, Nat.reduceLT, Nat.reduceLeDiff, Nat.reduceAdd, Nat.reduceMul, Nat.reduceSub, Int.reduceToNat, Int.reduceNeg, hw, hb, hap, E_len, E_take, List.replicate_succ, List.replicate_zero, List.flatten_cons, List.flatten_nil, List.length_append, List.length_cons, List.length_nil])
          | (refine Br.mk (fun h => ?_) (fun h => ?_) <;> simp -dsimp only [go_sem, reduceIte, reduceCtorEq, Nat.reduceEqDiff, Nat.reduceLT, Nat.reduceLeDiff, Nat.reduceAdd, Nat.reduceMul, Nat.reduceSub, Int.reduceToNat, Int.reduceNeg, h, hw, hb, hap, E_len, E_take, List.replicate_succ, List.replicate_zero, List.flatten_cons, List.flatten_nil, List.length_append, List.length_cons, List.length_nil])
          | (refine CallK.flat (by first | exact use1 u hu i hlt) rfl ?_; simp -dsimp only [go_sem, reduceIte, reduceCtorEq, Nat.reduceEqDiff, Nat.reduceLT, Nat.reduceLeDiff, Nat.reduceAdd, Nat.reduceMul, Nat.reduceSub, Int.reduceToNat, Int.reduceNeg, hw, hb, hap, E_len, E_take, List.replicate_succ, List.replicate_zero, List.flatten_cons, List.flatten_nil, List.length_append, List.length_cons, List.length_nil])
          | (refine CallK.pure (by first | exact use1 u hu i hlt) ?_; simp -dsimp only [go_sem, reduceIte, reduceCtorEq, Nat.reduceEqDiff, Nat.reduceLT, Nat.reduceLeDiff, Nat.reduceAdd, Nat.reduceMul, Nat.reduceSub, Int.reduceToNat, Int.reduceNeg, hw, hb, hap, E_len, E_take, List.replicate_succ, List.replicate_zero, List.flatten_cons, List.flatten_nil, List.length_append, List.length_cons, List.length_nil])
          | (refine And.intro (by first | rfl | omega | decide | (refine ⟨?_, ?_⟩ <;> (first | rfl | omega | decide)) | (refine ⟨?_, ?_, ?_⟩ <;> (first | rfl | omega | decide)) | (refine ⟨?_, ?_, ?_, ?_⟩ <;> (first | rfl | omega | decide))) ?_)
          | fail)

        all_goals (exact ⟨⟨i + 1, by omega⟩, by simp [Vs.LeL, Vs.look, Vs.hlook, hs], by simp only; omega⟩)
    · have hge : i = 6 := by simp at hc; omega
      subst hge
      simp -dsimp only [go_sem, reduceIte, reduceCtorEq, Nat.reduceEqDiff, Nat.reduceLT, Nat.reduceLeDiff, Nat.reduceAdd, Nat.reduceMul, Nat.reduceSub, Int.reduceToNat, Int.reduceNeg]
      exact ⟨⟨_, _, rfl, rfl⟩, fun h => h rfl⟩

end Go.Proofs.Ythpokkcbbpapdaa
