/- The law FnExactCalculateCard returns true for every input. -/
import Derived.Test.YthpokkcbbpapdaaDoorTwXn
namespace Go.Proofs.YthpokkcbbpapdaaDoor
open Go.Vs
set_option linter.unusedSimpArgs false
set_option linter.unusedVariables false
attribute [local irreducible] Vs.Fn
theorem hB1 {x : Blk} : ∀ j, j < [x].length → [Name.b 0][j]? = some (.b j) := by
  intro j hj
  have : j = 0 := by simpa using hj
  subst this; rfl
/-- the marks of numbers -/
def mI (k : Nat) (j : Nat) : Int := (k + j : Nat)
theorem markInt64S (l : List Int) (k : Nat) (hl : l.length ≤ 1048576) (hk : k ≤ 1000000000) : Vs.Fn Tryd.prog F.laws_markInt64S [.arr 1 (E cI l) false] [.loc (.b 0) 0 l.length, .v (.int .i64 k)] (.v (.int .i64 (k + l.length : Nat))) [some (.arr 1 (E cI (mkR (mI k) l l.length)) false)] := by
  refine Cd.laws_markInt64S_ok.fn Tryd.mixed (hin := [.arr 1 (E cI l) false]) 19 _ [.b 0] [.arr 1 (E cI (mkR (mI k) l l.length)) false] Cd.laws_markInt64S_nt Cd.laws_markInt64S_rs rfl (by simp) rfl hB1 fun X => ?_
  unfold Cd.laws_markInt64S
  simp -dsimp only [go_sem, reduceIte, reduceCtorEq, Nat.reduceEqDiff, Nat.reduceLT, Nat.reduceLeDiff, Nat.reduceAdd, Nat.reduceMul, Nat.reduceSub, Int.reduceToNat, Int.reduceNeg]
  refine LoopK.at (drawn_ok Tryd.mixed) (X := { i : Nat // i ≤ l.length }) (fun i => [(0, .loc (.b 0) 0 l.length), (1, .v (.int .i64 (k + i.1 : Nat))), (5, .v (.int .i64 i.1))]) (fun i => [(.b 0, .arr 1 (E cI (mkR (mI k) l i.1)) false)]) (fun i => l.length - i.1) ⟨0, by omega⟩ ?_ ?_
  · simp [Vs.LeL, Vs.look, Vs.hlook, Vs.sput, Vs.sputs, Vs.hset, Vs.hputs, mkR_zero]
  · rintro ⟨i, hi⟩
    simp -dsimp only [go_sem, reduceIte, reduceCtorEq, Nat.reduceEqDiff, Nat.reduceLT, Nat.reduceLeDiff, Nat.reduceAdd, Nat.reduceMul, Nat.reduceSub, Int.reduceToNat, Int.reduceNeg]
    refine Br.mk (fun hc => ?_) fun hc => ?_
    · have hlt : i < l.length := by simpa using hc
      have hw := wrap_succ hlt hl
      have hw2 : IntKind.i64.wrap (((k + i : Nat) : Int) + 1) = ((k + (i + 1) : Nat) : Int) := by rw [wrap_in (by omega) (by omega)]; omega
      have hgi : (E cI (mkR (mI k) l i)).getD i [] = [.v (.int .i64 l[i])] := mkR_get (c := cI) _ l hlt
      have hst : (E cI (mkR (mI k) l i)).set i [.v (.int .i64 (k + i : Nat))] = E cI (mkR (mI k) l (i + 1)) := mkR_set (c := cI) (mI k) l hlt
      have hlr : (mkR (mI k) l i).length = l.length := mkR_length _ l (by omega)
      simp -dsimp only [go_sem, reduceIte, reduceCtorEq, Nat.reduceEqDiff, Nat.reduceLT, Nat.reduceLeDiff, Nat.reduceAdd, Nat.reduceMul, Nat.reduceSub, Int.reduceToNat, Int.reduceNeg, hw, hw2, hgi, hst, hlr, E_len]
      repeat' (first
        | (refine RgK.mk rfl ?_; simp -dsimp only [go_sem, reduceIte, reduceCtorEq, Nat.reduceEqDiff, Nat.reduceLT, Nat.reduceLeDiff, Nat.reduceAdd, Nat.reduceMul, Nat.reduceSub, Int.reduceToNat, Int.reduceNeg, hw, hw2, hgi, hst, hlr, E_len])
        | (refine Br.mk (fun h => ?_) (fun h => ?_) <;> simp -dsimp only [go_sem, reduceIte, reduceCtorEq, Nat.reduceEqDiff, Nat.reduceLT, Nat.reduceLeDiff, Nat.reduceAdd, Nat.reduceMul, Nat.reduceSub, Int.reduceToNat, Int.reduceNeg, h, hw, hw2, hgi, hst, hlr, E_len])
        | (refine And.intro (by first | rfl | omega | decide | (refine ⟨?_, ?_⟩ <;> (first | rfl | omega | decide)) | (refine ⟨?_, ?_, ?_⟩ <;> (first | rfl | omega | decide)) | (refine ⟨?_, ?_, ?_, ?_⟩ <;> (first | rfl | omega | decide))) ?_)
        | fail)

      all_goals (exact ⟨⟨i + 1, by omega⟩, by simp [Vs.LeL, Vs.look, Vs.hlook, Vs.sput, Vs.sputs, Vs.hset, Vs.hputs], by simp only; omega⟩)
    · have hge : i = l.length := by
        have : ¬ i < l.length := by simpa using hc
        omega
      subst hge
      simp -dsimp only [go_sem, reduceIte, reduceCtorEq, Nat.reduceEqDiff, Nat.reduceLT, Nat.reduceLeDiff, Nat.reduceAdd, Nat.reduceMul, Nat.reduceSub, Int.reduceToNat, Int.reduceNeg]
      exact ⟨⟨_, _, rfl, rfl⟩, fun h => h rfl⟩

theorem heldInt64S (l : List Int) (k : Nat) (hl : l.length ≤ 1048576) (hk : k ≤ 1000000000) : Vs.Fn Tryd.prog F.laws_heldInt64S [] [.sl 1 (E cI (mkR (mI k) l l.length)), .v (.int .i64 k)] (.v (.int .i64 (k + l.length : Nat))) [] := by
  have hlr : (mkR (mI k) l l.length).length = l.length := mkR_length _ l (Nat.le_refl _)
  refine Cd.laws_heldInt64S_ok.fn0 Tryd.mixed Cd.laws_heldInt64S_nt Cd.laws_heldInt64S_rs rfl fun X => ?_
  unfold Cd.laws_heldInt64S
  simp -dsimp only [go_sem, reduceIte, reduceCtorEq, Nat.reduceEqDiff, Nat.reduceLT, Nat.reduceLeDiff, Nat.reduceAdd, Nat.reduceMul, Nat.reduceSub, Int.reduceToNat, Int.reduceNeg]
  refine LoopK.at (drawn_ok Tryd.mixed) (X := { i : Nat // i ≤ l.length }) (fun i => [(1, .v (.int .i64 (k + i.1 : Nat))), (5, .v (.int .i64 i.1))]) (fun i => []) (fun i => l.length - i.1) ⟨0, by omega⟩ ?_ ?_
  · simp [Vs.LeL, Vs.look, Vs.hlook, Vs.sput, Vs.sputs, Vs.hset, Vs.hputs]
  · rintro ⟨i, hi⟩
    simp -dsimp only [go_sem, reduceIte, reduceCtorEq, Nat.reduceEqDiff, Nat.reduceLT, Nat.reduceLeDiff, Nat.reduceAdd, Nat.reduceMul, Nat.reduceSub, Int.reduceToNat, Int.reduceNeg, E_len, hlr]
    refine Br.mk (fun hc => ?_) fun hc => ?_
    · have hlt : i < l.length := by simpa using hc
      have hw := wrap_succ hlt hl
      have hw2 : IntKind.i64.wrap (((k + i : Nat) : Int) + 1) = ((k + (i + 1) : Nat) : Int) := by rw [wrap_in (by omega) (by omega)]; omega
      have hgi : (E cI (mkR (mI k) l l.length)).getD i [] = [.v (.int .i64 (k + i : Nat))] := by
        rw [E_get (by rw [hlr]; exact hlt)]
        simp only [mkR_all, List.getElem_map, List.getElem_range]
        rfl
      have hbe : (((k + i : Nat) : Int) != ((k + i : Nat) : Int)) = false := by simp
      simp -dsimp only [go_sem, reduceIte, reduceCtorEq, Nat.reduceEqDiff, Nat.reduceLT, Nat.reduceLeDiff, Nat.reduceAdd, Nat.reduceMul, Nat.reduceSub, Int.reduceToNat, Int.reduceNeg, hw, hw2, hgi, hlr, hbe, E_len]
      repeat' (first
        | (refine RgK.mk rfl ?_; simp -dsimp only [go_sem, reduceIte, reduceCtorEq, Nat.reduceEqDiff, Nat.reduceLT, Nat.reduceLeDiff, Nat.reduceAdd, Nat.reduceMul, Nat.reduceSub, Int.reduceToNat, Int.reduceNeg, hw, hw2, hgi, hlr, hbe, E_len])
        | (refine Br.mk (fun h => ?_) (fun h => ?_) <;> simp -dsimp only [go_sem, reduceIte, reduceCtorEq, Nat.reduceEqDiff, Nat.reduceLT, Nat.reduceLeDiff, Nat.reduceAdd, Nat.reduceMul, Nat.reduceSub, Int.reduceToNat, Int.reduceNeg, h, hw, hw2, hgi, hlr, hbe, E_len])
        | (refine And.intro (by first | rfl | omega | decide | (refine ⟨?_, ?_⟩ <;> (first | rfl | omega | decide)) | (refine ⟨?_, ?_, ?_⟩ <;> (first | rfl | omega | decide)) | (refine ⟨?_, ?_, ?_, ?_⟩ <;> (first | rfl | omega | decide))) ?_)
        | fail)

      all_goals (exact ⟨⟨i + 1, by omega⟩, by simp [Vs.LeL, Vs.look, Vs.hlook, Vs.sput, Vs.sputs, Vs.hset, Vs.hputs], by simp only; omega⟩)
    · have hge : i = l.length := by
        have : ¬ i < l.length := by simpa using hc
        omega
      subst hge
      simp -dsimp only [go_sem, reduceIte, reduceCtorEq, Nat.reduceEqDiff, Nat.reduceLT, Nat.reduceLeDiff, Nat.reduceAdd, Nat.reduceMul, Nat.reduceSub, Int.reduceToNat, Int.reduceNeg]
      simp

theorem toInt64SO {l : List Int} (hl : l.length ≤ 1048576) : Vs.Fn Tryd.prog F.laws_toInt64S [] [.sl 1 (E cI l)] (.loc (.b 0) 0 l.length) [some (.arr 1 (E cI l) false)] :=
  toI_own Tryd.mixed Cd.laws_toInt64S_ok Cd.laws_toInt64S_nt Cd.laws_toInt64S_rs rfl hl
theorem toCardO (c : List Int) (hc : c.length ≤ 1048576) : Vs.Fn Tryd.prog F.laws_toCard [] [.agg (cC c)] (.agg [.loc (.b 0) 0 c.length]) [some (.arr 1 (E cI c) false)] := by
  refine Cd.laws_toCard_ok.fn Tryd.mixed (hin := []) 9 _ [.t 6 0] [.arr 1 (E cI c) false] Cd.laws_toCard_nt Cd.laws_toCard_rs rfl (by simp) rfl (by simp) fun X => ?_
  unfold Cd.laws_toCard
  simp -dsimp only [go_sem, reduceIte, reduceCtorEq, Nat.reduceEqDiff, Nat.reduceLT, Nat.reduceLeDiff, Nat.reduceAdd, Nat.reduceMul, Nat.reduceSub, Int.reduceToNat, Int.reduceNeg, cC]
  refine CallK.own (toInt64SO hc) rfl ?_
  simp -dsimp only [go_sem, reduceIte, reduceCtorEq, Nat.reduceEqDiff, Nat.reduceLT, Nat.reduceLeDiff, Nat.reduceAdd, Nat.reduceMul, Nat.reduceSub, Int.reduceToNat, Int.reduceNeg, cC]
  exact ⟨_, _, rfl, rfl⟩

theorem markCard (c : List Int) (k : Nat) (hc : c.length ≤ 1048576) (hk : k ≤ 1000000000) : Vs.Fn Tryd.prog F.laws_markCard [.arr 1 (E cI c) false] [.agg [.loc (.b 0) 0 c.length], .v (.int .i64 k)] (.v (.int .i64 (k + c.length : Nat))) [some (.arr 1 (E cI (mkR (mI k) c c.length)) false)] := by
  refine Cd.laws_markCard_ok.fn Tryd.mixed (hin := [.arr 1 (E cI c) false]) 10 _ [.b 0] [.arr 1 (E cI (mkR (mI k) c c.length)) false] Cd.laws_markCard_nt Cd.laws_markCard_rs rfl (by simp) rfl hB1 fun X => ?_
  unfold Cd.laws_markCard
  simp -dsimp only [go_sem, reduceIte, reduceCtorEq, Nat.reduceEqDiff, Nat.reduceLT, Nat.reduceLeDiff, Nat.reduceAdd, Nat.reduceMul, Nat.reduceSub, Int.reduceToNat, Int.reduceNeg, List.flatMap_cons, List.flatMap_nil, cellN, topN, nestN, List.getD_cons_zero, List.append_nil, List.nil_append, List.cons_append]
  refine ⟨rfl, CallK.bor (markInt64S c k hc hk) rfl ?_⟩
  simp -dsimp only [go_sem, reduceIte, reduceCtorEq, Nat.reduceEqDiff, Nat.reduceLT, Nat.reduceLeDiff, Nat.reduceAdd, Nat.reduceMul, Nat.reduceSub, Int.reduceToNat, Int.reduceNeg]
  exact ⟨_, _, rfl, rfl⟩

theorem heldCard (c : List Int) (k : Nat) (hc : c.length ≤ 1048576) (hk : k ≤ 1000000000) : Vs.Fn Tryd.prog F.laws_heldCard [] [.agg (cC (mkR (mI k) c c.length)), .v (.int .i64 k)] (.v (.int .i64 (k + c.length : Nat))) [] := by
  have hnn : decide (((k + c.length : Nat) : Int) < 0) = false := decide_eq_false (by omega)
  refine Cd.laws_heldCard_ok.fn0 Tryd.mixed Cd.laws_heldCard_nt Cd.laws_heldCard_rs rfl fun X => ?_
  unfold Cd.laws_heldCard
  simp -dsimp only [go_sem, reduceIte, reduceCtorEq, Nat.reduceEqDiff, Nat.reduceLT, Nat.reduceLeDiff, Nat.reduceAdd, Nat.reduceMul, Nat.reduceSub, Int.reduceToNat, Int.reduceNeg, cC, hnn]
  repeat' (first
    | (refine RgK.mk rfl ?_; simp -dsimp only [go_sem, reduceIte, reduceCtorEq, Nat.reduceEqDiff, Nat.reduceLT, Nat.reduceLeDiff, Nat.reduceAdd, Nat.reduceMul, Nat.reduceSub, Int.reduceToNat, Int.reduceNeg, cC, hnn])
    | (refine Br.mk (fun h => ?_) (fun h => ?_) <;> simp -dsimp only [go_sem, reduceIte, reduceCtorEq, Nat.reduceEqDiff, Nat.reduceLT, Nat.reduceLeDiff, Nat.reduceAdd, Nat.reduceMul, Nat.reduceSub, Int.reduceToNat, Int.reduceNeg, h, cC, hnn])
    | (refine CallK.flat (by first | exact heldInt64S c k hc hk) rfl ?_; simp -dsimp only [go_sem, reduceIte, reduceCtorEq, Nat.reduceEqDiff, Nat.reduceLT, Nat.reduceLeDiff, Nat.reduceAdd, Nat.reduceMul, Nat.reduceSub, Int.reduceToNat, Int.reduceNeg, cC, hnn])
    | (refine CallK.pure (by first | exact heldInt64S c k hc hk) ?_; simp -dsimp only [go_sem, reduceIte, reduceCtorEq, Nat.reduceEqDiff, Nat.reduceLT, Nat.reduceLeDiff, Nat.reduceAdd, Nat.reduceMul, Nat.reduceSub, Int.reduceToNat, Int.reduceNeg, cC, hnn])
    | (refine And.intro (by first | rfl | omega | decide | (refine ⟨?_, ?_⟩ <;> (first | rfl | omega | decide)) | (refine ⟨?_, ?_, ?_⟩ <;> (first | rfl | omega | decide)) | (refine ⟨?_, ?_, ?_, ?_⟩ <;> (first | rfl | omega | decide))) ?_)
    | fail)
  all_goals (simp_all)

theorem eqNil  : Vs.Fn Tryd.prog F.laws_eqInt64S [] [.v (.slice none 0 0), .v (.slice none 0 0)] (.v (.bool true)) [] := by
  refine Cd.laws_eqInt64S_ok.fn0 Tryd.mixed Cd.laws_eqInt64S_nt Cd.laws_eqInt64S_rs rfl fun X => ?_
  unfold Cd.laws_eqInt64S
  simp -dsimp only [go_sem, reduceIte, reduceCtorEq, Nat.reduceEqDiff, Nat.reduceLT, Nat.reduceLeDiff, Nat.reduceAdd, Nat.reduceMul, Nat.reduceSub, Int.reduceToNat, Int.reduceNeg]
  refine LoopK.at (drawn_ok Tryd.mixed) (X := Unit) (fun _ => []) (fun _ => []) (fun _ => 0) () ?_ ?_
  · simp [Vs.LeL, Vs.look, Vs.hlook, Vs.sput, Vs.sputs, Vs.hset, Vs.hputs]
  · rintro ⟨⟩
    simp -dsimp only [go_sem, reduceIte, reduceCtorEq, Nat.reduceEqDiff, Nat.reduceLT, Nat.reduceLeDiff, Nat.reduceAdd, Nat.reduceMul, Nat.reduceSub, Int.reduceToNat, Int.reduceNeg]
    refine Br.mk (fun h => absurd h (by decide)) fun _ => ?_
    simp -dsimp only [go_sem, reduceIte, reduceCtorEq, Nat.reduceEqDiff, Nat.reduceLT, Nat.reduceLeDiff, Nat.reduceAdd, Nat.reduceMul, Nat.reduceSub, Int.reduceToNat, Int.reduceNeg]
    exact ⟨ret_eq rfl, fun h => h rfl⟩

theorem markNil (k : Int) : Vs.Fn Tryd.prog F.laws_markInt64S [] [.v (.slice none 0 0), .v (.int .i64 k)] (.v (.int .i64 k)) [] := by
  refine Cd.laws_markInt64S_ok.fn0 Tryd.mixed Cd.laws_markInt64S_nt Cd.laws_markInt64S_rs rfl fun X => ?_
  unfold Cd.laws_markInt64S
  simp -dsimp only [go_sem, reduceIte, reduceCtorEq, Nat.reduceEqDiff, Nat.reduceLT, Nat.reduceLeDiff, Nat.reduceAdd, Nat.reduceMul, Nat.reduceSub, Int.reduceToNat, Int.reduceNeg]
  refine LoopK.at (drawn_ok Tryd.mixed) (X := Unit) (fun _ => []) (fun _ => []) (fun _ => 0) () ?_ ?_
  · simp [Vs.LeL, Vs.look, Vs.hlook, Vs.sput, Vs.sputs, Vs.hset, Vs.hputs]
  · rintro ⟨⟩
    simp -dsimp only [go_sem, reduceIte, reduceCtorEq, Nat.reduceEqDiff, Nat.reduceLT, Nat.reduceLeDiff, Nat.reduceAdd, Nat.reduceMul, Nat.reduceSub, Int.reduceToNat, Int.reduceNeg]
    refine Br.mk (fun h => absurd h (by decide)) fun _ => ?_
    simp -dsimp only [go_sem, reduceIte, reduceCtorEq, Nat.reduceEqDiff, Nat.reduceLT, Nat.reduceLeDiff, Nat.reduceAdd, Nat.reduceMul, Nat.reduceSub, Int.reduceToNat, Int.reduceNeg]
    exact ⟨ret_eq rfl, fun h => h rfl⟩

theorem heldNil (k : Int) : Vs.Fn Tryd.prog F.laws_heldInt64S [] [.v (.slice none 0 0), .v (.int .i64 k)] (.v (.int .i64 k)) [] := by
  refine Cd.laws_heldInt64S_ok.fn0 Tryd.mixed Cd.laws_heldInt64S_nt Cd.laws_heldInt64S_rs rfl fun X => ?_
  unfold Cd.laws_heldInt64S
  simp -dsimp only [go_sem, reduceIte, reduceCtorEq, Nat.reduceEqDiff, Nat.reduceLT, Nat.reduceLeDiff, Nat.reduceAdd, Nat.reduceMul, Nat.reduceSub, Int.reduceToNat, Int.reduceNeg]
  refine LoopK.at (drawn_ok Tryd.mixed) (X := Unit) (fun _ => []) (fun _ => []) (fun _ => 0) () ?_ ?_
  · simp [Vs.LeL, Vs.look, Vs.hlook, Vs.sput, Vs.sputs, Vs.hset, Vs.hputs]
  · rintro ⟨⟩
    simp -dsimp only [go_sem, reduceIte, reduceCtorEq, Nat.reduceEqDiff, Nat.reduceLT, Nat.reduceLeDiff, Nat.reduceAdd, Nat.reduceMul, Nat.reduceSub, Int.reduceToNat, Int.reduceNeg]
    refine Br.mk (fun h => absurd h (by decide)) fun _ => ?_
    simp -dsimp only [go_sem, reduceIte, reduceCtorEq, Nat.reduceEqDiff, Nat.reduceLT, Nat.reduceLeDiff, Nat.reduceAdd, Nat.reduceMul, Nat.reduceSub, Int.reduceToNat, Int.reduceNeg]
    exact ⟨ret_eq rfl, fun h => h rfl⟩

theorem eqNilC  : Vs.Fn Tryd.prog F.laws_eqCard [] [.agg [.v (.slice none 0 0)], .agg [.v (.slice none 0 0)]] (.v (.bool true)) [] := by
  refine Cd.laws_eqCard_ok.fn0 Tryd.mixed Cd.laws_eqCard_nt Cd.laws_eqCard_rs rfl fun X => ?_
  unfold Cd.laws_eqCard
  simp -dsimp only [go_sem, reduceIte, reduceCtorEq, Nat.reduceEqDiff, Nat.reduceLT, Nat.reduceLeDiff, Nat.reduceAdd, Nat.reduceMul, Nat.reduceSub, Int.reduceToNat, Int.reduceNeg]
  repeat' (first
    | (refine RgK.mk rfl ?_; simp -dsimp only [go_sem, reduceIte, reduceCtorEq, Nat.reduceEqDiff, Nat.reduceLT, Nat.reduceLeDiff, Nat.reduceAdd, Nat.reduceMul, Nat.reduceSub, Int.reduceToNat, Int.reduceNeg])
    | (refine Br.mk (fun h => ?_) (fun h => ?_) <;> simp -dsimp only [go_sem, reduceIte, reduceCtorEq, Nat.reduceEqDiff, Nat.reduceLT, Nat.reduceLeDiff, Nat.reduceAdd, Nat.reduceMul, Nat.reduceSub, Int.reduceToNat, Int.reduceNeg, h])
    | (refine CallK.flat (by first | exact eqNil) rfl ?_; simp -dsimp only [go_sem, reduceIte, reduceCtorEq, Nat.reduceEqDiff, Nat.reduceLT, Nat.reduceLeDiff, Nat.reduceAdd, Nat.reduceMul, Nat.reduceSub, Int.reduceToNat, Int.reduceNeg])
    | (refine CallK.pure (by first | exact eqNil) ?_; simp -dsimp only [go_sem, reduceIte, reduceCtorEq, Nat.reduceEqDiff, Nat.reduceLT, Nat.reduceLeDiff, Nat.reduceAdd, Nat.reduceMul, Nat.reduceSub, Int.reduceToNat, Int.reduceNeg])
    | (refine And.intro (by first | rfl | omega | decide | (refine ⟨?_, ?_⟩ <;> (first | rfl | omega | decide)) | (refine ⟨?_, ?_, ?_⟩ <;> (first | rfl | omega | decide)) | (refine ⟨?_, ?_, ?_, ?_⟩ <;> (first | rfl | omega | decide))) ?_)
    | fail)
  all_goals (simp_all)

theorem markNilC (k : Int) : Vs.Fn Tryd.prog F.laws_markCard [] [.agg [.v (.slice none 0 0)], .v (.int .i64 k)] (.v (.int .i64 k)) [] := by
  refine Cd.laws_markCard_ok.fn0 Tryd.mixed Cd.laws_markCard_nt Cd.laws_markCard_rs rfl fun X => ?_
  unfold Cd.laws_markCard
  simp -dsimp only [go_sem, reduceIte, reduceCtorEq, Nat.reduceEqDiff, Nat.reduceLT, Nat.reduceLeDiff, Nat.reduceAdd, Nat.reduceMul, Nat.reduceSub, Int.reduceToNat, Int.reduceNeg]
  repeat' (first
    | (refine RgK.mk rfl ?_; simp -dsimp only [go_sem, reduceIte, reduceCtorEq, Nat.reduceEqDiff, Nat.reduceLT, Nat.reduceLeDiff, Nat.reduceAdd, Nat.reduceMul, Nat.reduceSub, Int.reduceToNat, Int.reduceNeg])
    | (refine Br.mk (fun h => ?_) (fun h => ?_) <;> simp -dsimp only [go_sem, reduceIte, reduceCtorEq, Nat.reduceEqDiff, Nat.reduceLT, Nat.reduceLeDiff, Nat.reduceAdd, Nat.reduceMul, Nat.reduceSub, Int.reduceToNat, Int.reduceNeg, h])
    | (refine CallK.flat (B := []) (by first | exact markNil k) rfl ?_; simp -dsimp only [go_sem, reduceIte, reduceCtorEq, Nat.reduceEqDiff, Nat.reduceLT, Nat.reduceLeDiff, Nat.reduceAdd, Nat.reduceMul, Nat.reduceSub, Int.reduceToNat, Int.reduceNeg])
    | (refine CallK.pure (B := []) (by first | exact markNil k) ?_; simp -dsimp only [go_sem, reduceIte, reduceCtorEq, Nat.reduceEqDiff, Nat.reduceLT, Nat.reduceLeDiff, Nat.reduceAdd, Nat.reduceMul, Nat.reduceSub, Int.reduceToNat, Int.reduceNeg])
    | (refine And.intro (by first | rfl | omega | decide | (refine ⟨?_, ?_⟩ <;> (first | rfl | omega | decide)) | (refine ⟨?_, ?_, ?_⟩ <;> (first | rfl | omega | decide)) | (refine ⟨?_, ?_, ?_, ?_⟩ <;> (first | rfl | omega | decide))) ?_)
    | fail)
  all_goals (simp_all)

theorem heldNilC (k : Int) (hk : decide (k < 0) = false) : Vs.Fn Tryd.prog F.laws_heldCard [] [.agg [.v (.slice none 0 0)], .v (.int .i64 k)] (.v (.int .i64 k)) [] := by
  refine Cd.laws_heldCard_ok.fn0 Tryd.mixed Cd.laws_heldCard_nt Cd.laws_heldCard_rs rfl fun X => ?_
  unfold Cd.laws_heldCard
  simp -dsimp only [go_sem, reduceIte, reduceCtorEq, Nat.reduceEqDiff, Nat.reduceLT, Nat.reduceLeDiff, Nat.reduceAdd, Nat.reduceMul, Nat.reduceSub, Int.reduceToNat, Int.reduceNeg, hk]
  repeat' (first
    | (refine RgK.mk rfl ?_; simp -dsimp only [go_sem, reduceIte, reduceCtorEq, Nat.reduceEqDiff, Nat.reduceLT, Nat.reduceLeDiff, Nat.reduceAdd, Nat.reduceMul, Nat.reduceSub, Int.reduceToNat, Int.reduceNeg, hk])
    | (refine Br.mk (fun h => ?_) (fun h => ?_) <;> simp -dsimp only [go_sem, reduceIte, reduceCtorEq, Nat.reduceEqDiff, Nat.reduceLT, Nat.reduceLeDiff, Nat.reduceAdd, Nat.reduceMul, Nat.reduceSub, Int.reduceToNat, Int.reduceNeg, h, hk])
    | (refine CallK.flat (by first | exact heldNil k) rfl ?_; simp -dsimp only [go_sem, reduceIte, reduceCtorEq, Nat.reduceEqDiff, Nat.reduceLT, Nat.reduceLeDiff, Nat.reduceAdd, Nat.reduceMul, Nat.reduceSub, Int.reduceToNat, Int.reduceNeg, hk])
    | (refine CallK.pure (by first | exact heldNil k) ?_; simp -dsimp only [go_sem, reduceIte, reduceCtorEq, Nat.reduceEqDiff, Nat.reduceLT, Nat.reduceLeDiff, Nat.reduceAdd, Nat.reduceMul, Nat.reduceSub, Int.reduceToNat, Int.reduceNeg, hk])
    | (refine And.intro (by first | rfl | omega | decide | (refine ⟨?_, ?_⟩ <;> (first | rfl | omega | decide)) | (refine ⟨?_, ?_, ?_⟩ <;> (first | rfl | omega | decide)) | (refine ⟨?_, ?_, ?_, ?_⟩ <;> (first | rfl | omega | decide))) ?_)
    | fail)
  all_goals (simp_all)

theorem eqCardS1 (c : List Int) (hc : c.length ≤ 1048576) : Vs.Fn Tryd.prog F.laws_eqCard [] [.agg (cC c), .agg (cC c)] (.v (.bool true)) [] := by
  refine Cd.laws_eqCard_ok.fn0 Tryd.mixed Cd.laws_eqCard_nt Cd.laws_eqCard_rs rfl fun X => ?_
  unfold Cd.laws_eqCard
  simp -dsimp only [go_sem, reduceIte, reduceCtorEq, Nat.reduceEqDiff, Nat.reduceLT, Nat.reduceLeDiff, Nat.reduceAdd, Nat.reduceMul, Nat.reduceSub, Int.reduceToNat, Int.reduceNeg, cC]
  repeat' (first
    | (refine RgK.mk rfl ?_; simp -dsimp only [go_sem, reduceIte, reduceCtorEq, Nat.reduceEqDiff, Nat.reduceLT, Nat.reduceLeDiff, Nat.reduceAdd, Nat.reduceMul, Nat.reduceSub, Int.reduceToNat, Int.reduceNeg, cC])
    | (refine Br.mk (fun h => ?_) (fun h => ?_) <;> simp -dsimp only [go_sem, reduceIte, reduceCtorEq, Nat.reduceEqDiff, Nat.reduceLT, Nat.reduceLeDiff, Nat.reduceAdd, Nat.reduceMul, Nat.reduceSub, Int.reduceToNat, Int.reduceNeg, h, cC])
    | (refine CallK.flat (by first | exact eqI_fn Tryd.mixed Cd.laws_eqInt64S_ok Cd.laws_eqInt64S_nt Cd.laws_eqInt64S_rs rfl hc) rfl ?_; simp -dsimp only [go_sem, reduceIte, reduceCtorEq, Nat.reduceEqDiff, Nat.reduceLT, Nat.reduceLeDiff, Nat.reduceAdd, Nat.reduceMul, Nat.reduceSub, Int.reduceToNat, Int.reduceNeg, cC])
    | (refine CallK.pure (by first | exact eqI_fn Tryd.mixed Cd.laws_eqInt64S_ok Cd.laws_eqInt64S_nt Cd.laws_eqInt64S_rs rfl hc) ?_; simp -dsimp only [go_sem, reduceIte, reduceCtorEq, Nat.reduceEqDiff, Nat.reduceLT, Nat.reduceLeDiff, Nat.reduceAdd, Nat.reduceMul, Nat.reduceSub, Int.reduceToNat, Int.reduceNeg, cC])
    | (refine And.intro (by first | rfl | omega | decide | (refine ⟨?_, ?_⟩ <;> (first | rfl | omega | decide)) | (refine ⟨?_, ?_, ?_⟩ <;> (first | rfl | omega | decide)) | (refine ⟨?_, ?_, ?_, ?_⟩ <;> (first | rfl | omega | decide))) ?_)
    | fail)
  all_goals (simp_all)

end Go.Proofs.YthpokkcbbpapdaaDoor

namespace Go.Proofs.YthpokkcbbpapdaaDoor
open Go.Vs
set_option linter.unusedSimpArgs false
set_option linter.unusedVariables false
attribute [local irreducible] Vs.Fn
theorem toFieldX (p : Int × Int) : Vs.Fn Tryd.prog F.laws_toField [] [.agg (cP p)] (.agg (cP p)) [] := by
  refine Cd.laws_toField_ok.fn0 Tryd.mixed Cd.laws_toField_nt Cd.laws_toField_rs rfl fun X => ?_
  unfold Cd.laws_toField
  simp (maxSteps := 1000000) -dsimp only [go_sem, reduceIte, reduceCtorEq, Nat.reduceEqDiff, Nat.reduceLT, Nat.reduceLeDiff, Nat.reduceAdd, Nat.reduceMul, Nat.reduceSub, Int.reduceToNat, Int.reduceNeg, cP, cFd]
  repeat' (first
    | (refine RgK.mk rfl ?_; simp (maxSteps := 1000000) -dsimp only [go_sem, reduceIte, reduceCtorEq, Nat.reduceEqDiff, Nat.reduceLT, Nat.reduceLeDiff, Nat.reduceAdd, Nat.reduceMul, Nat.reduceSub, Int.reduceToNat, Int.reduceNeg, cP, cFd])
    | (refine Br.mk (fun h => ?_) (fun h => ?_) <;> simp (maxSteps := 1000000) -dsimp only [go_sem, reduceIte, reduceCtorEq, Nat.reduceEqDiff, Nat.reduceLT, Nat.reduceLeDiff, Nat.reduceAdd, Nat.reduceMul, Nat.reduceSub, Int.reduceToNat, Int.reduceNeg, h, cP, cFd])
    | (refine And.intro (by first | rfl | omega | decide | (refine ⟨?_, ?_⟩ <;> (first | rfl | omega | decide)) | (refine ⟨?_, ?_, ?_⟩ <;> (first | rfl | omega | decide)) | (refine ⟨?_, ?_, ?_, ?_⟩ <;> (first | rfl | omega | decide))) ?_)
    | fail)
  all_goals (exact ⟨_, _, rfl, rfl⟩)
theorem ccH_len {k : Int} {p q t : Int × Int} {c : List Int} (h0 : ccC k p q t c = 0) : (ccH k p q t c).length = c.length := by
  have hd : cardB c = true := by
    cases h : cardB c
    · exact absurd h0 (by simp [ccC, h])
    · rfl
  have hb : ccB k p q t c = true := by
    cases h : ccB k p q t c
    · exact absurd h0 (by simp [ccC, hd, h])
    · rfl
  obtain ⟨_, _, _, _, fr, w, ht, ht1, ht2, hf, hw0, hw12⟩ := cc_ok hd hb
  unfold ccH cdH
  rw [ht1, ht2]
  exact inF_len hf (pt_len _ _)
set_option maxRecDepth 20000 in
set_option maxHeartbeats 4000000 in
theorem law_CalculateCard (k : Int) (c : List Int) (p q t : Int × Int) (hc0 : c.length < 2 ^ 63) : Vs.Fn Tryd.prog F.laws_FnExactCalculateCard [] [.v (.int .i64 k), .agg (cC c), .agg (cP p), .agg (cP q), .agg (cP t)] (.v (.bool true)) [] := by
  refine Cd.laws_FnExactCalculateCard_ok.fn0 Tryd.mixed Cd.laws_FnExactCalculateCard_nt Cd.laws_FnExactCalculateCard_rs rfl fun X => ?_
  unfold Cd.laws_FnExactCalculateCard
  simp (maxSteps := 1000000) -dsimp only [go_sem, reduceIte, reduceCtorEq, Nat.reduceEqDiff, Nat.reduceLT, Nat.reduceLeDiff, Nat.reduceAdd, Nat.reduceMul, Nat.reduceSub, Int.reduceToNat, Int.reduceNeg, cC, cP, cFd]
  refine CallK.flat (szCard c 1048576) rfl ?_
  simp (maxSteps := 1000000) -dsimp only [go_sem, reduceIte, reduceCtorEq, Nat.reduceEqDiff, Nat.reduceLT, Nat.reduceLeDiff, Nat.reduceAdd, Nat.reduceMul, Nat.reduceSub, Int.reduceToNat, Int.reduceNeg, cC, cP, cFd]
  refine Br.mk (fun h1 => by simp (maxSteps := 1000000) -dsimp only [go_sem, reduceIte, reduceCtorEq, Nat.reduceEqDiff, Nat.reduceLT, Nat.reduceLeDiff, Nat.reduceAdd, Nat.reduceMul, Nat.reduceSub, Int.reduceToNat, Int.reduceNeg, cC, cP, cFd]; simp) (fun h1 => ?_)
  simp (maxSteps := 1000000) -dsimp only [go_sem, reduceIte, reduceCtorEq, Nat.reduceEqDiff, Nat.reduceLT, Nat.reduceLeDiff, Nat.reduceAdd, Nat.reduceMul, Nat.reduceSub, Int.reduceToNat, Int.reduceNeg, cC, cP, cFd]
  simp only [decide_eq_false_iff_not] at h1
  have hc1 : c.length ≤ 1048576 := by have := (szI_le hc0 (n := 1048576) (by omega) (by omega) (by omega)).2; omega
  have hn1 : decide (((1 + c.length : Nat) : Int) < 0) = false := decide_eq_false (by omega)
  by_cases h0 : ccC k p q t c = 0
  · have hHl := ccH_len h0
    have hI := impl_CC1 k p q t c hc1 h0
    rw [← hHl] at hI
    have hA : (ccH k p q t c).length ≤ 1048576 := by omega
    have hfl : ∀ b, some b ∈ [some (Blk.arr 1 (E cI (ccH k p q t c)) false)] → Vs.flatB b := flat_one (flatB_E (fun _ => rfl))
    have hn2 : decide (((1 + (ccH k p q t c).length : Nat) : Int) < 0) = false := decide_eq_false (by omega)
    have hn3 : (((1 + (ccH k p q t c).length : Nat) : Int) != ((1 + (ccH k p q t c).length : Nat) : Int)) = false := by simp
    have hn4 : ((0 : Int) != 0) = false := rfl
    have hTk : List.take (ccH k p q t c).length (E cI (mkR (mI 1) (ccH k p q t c) (ccH k p q t c).length)) = E cI (mkR (mI 1) (ccH k p q t c) (ccH k p q t c).length) := List.take_of_length_le (by rw [E_len, mkR_length _ _ (Nat.le_refl _)]; exact Nat.le_refl _)
    repeat' (first
      | (refine RgK.mk rfl ?_; simp (maxSteps := 1000000) -dsimp only [go_sem, reduceIte, reduceCtorEq, Nat.reduceEqDiff, Nat.reduceLT, Nat.reduceLeDiff, Nat.reduceAdd, Nat.reduceMul, Nat.reduceSub, Int.reduceToNat, Int.reduceNeg, cC, cP, cFd, E_take, E_len, List.drop_zero, hTk, hn1, hn2, hn3, hn4, List.mem_singleton, List.mem_cons, List.not_mem_nil, or_false, Name.t.injEq, false_and, and_self, true_and, and_true, Blk.row, List.flatMap_cons, List.flatMap_nil, cellN, topN, nestN, List.getD_cons_zero, List.append_nil, List.nil_append, List.cons_append])
      | (refine Br.mk (fun h => ?_) (fun h => ?_) <;> simp (maxSteps := 1000000) -dsimp only [go_sem, reduceIte, reduceCtorEq, Nat.reduceEqDiff, Nat.reduceLT, Nat.reduceLeDiff, Nat.reduceAdd, Nat.reduceMul, Nat.reduceSub, Int.reduceToNat, Int.reduceNeg, h, cC, cP, cFd, E_take, E_len, List.drop_zero, hTk, hn1, hn2, hn3, hn4, List.mem_singleton, List.mem_cons, List.not_mem_nil, or_false, Name.t.injEq, false_and, and_self, true_and, and_true, Blk.row, List.flatMap_cons, List.flatMap_nil, cellN, topN, nestN, List.getD_cons_zero, List.append_nil, List.nil_append, List.cons_append])
      | (refine CallK.flat (by first | exact toFieldX p | exact toFieldX q | exact toFieldX t | exact spec_CC1 k p q t c hc1 h0 | exact eqCardS1 c hc1 | exact eqCardS1 (ccH k p q t c) hA | exact heldCard (ccH k p q t c) 1 hA (by omega)) rfl ?_; simp (maxSteps := 1000000) -dsimp only [go_sem, reduceIte, reduceCtorEq, Nat.reduceEqDiff, Nat.reduceLT, Nat.reduceLeDiff, Nat.reduceAdd, Nat.reduceMul, Nat.reduceSub, Int.reduceToNat, Int.reduceNeg, cC, cP, cFd, E_take, E_len, List.drop_zero, hTk, hn1, hn2, hn3, hn4, List.mem_singleton, List.mem_cons, List.not_mem_nil, or_false, Name.t.injEq, false_and, and_self, true_and, and_true, Blk.row, List.flatMap_cons, List.flatMap_nil, cellN, topN, nestN, List.getD_cons_zero, List.append_nil, List.nil_append, List.cons_append])
      | (refine CallK.pure (by first | exact toFieldX p | exact toFieldX q | exact toFieldX t | exact spec_CC1 k p q t c hc1 h0 | exact eqCardS1 c hc1 | exact eqCardS1 (ccH k p q t c) hA | exact heldCard (ccH k p q t c) 1 hA (by omega)) ?_; simp (maxSteps := 1000000) -dsimp only [go_sem, reduceIte, reduceCtorEq, Nat.reduceEqDiff, Nat.reduceLT, Nat.reduceLeDiff, Nat.reduceAdd, Nat.reduceMul, Nat.reduceSub, Int.reduceToNat, Int.reduceNeg, cC, cP, cFd, E_take, E_len, List.drop_zero, hTk, hn1, hn2, hn3, hn4, List.mem_singleton, List.mem_cons, List.not_mem_nil, or_false, Name.t.injEq, false_and, and_self, true_and, and_true, Blk.row, List.flatMap_cons, List.flatMap_nil, cellN, topN, nestN, List.getD_cons_zero, List.append_nil, List.nil_append, List.cons_append])
      | (refine CallK.own (by first | exact toCardO c hc1) rfl ?_; simp (maxSteps := 1000000) -dsimp only [go_sem, reduceIte, reduceCtorEq, Nat.reduceEqDiff, Nat.reduceLT, Nat.reduceLeDiff, Nat.reduceAdd, Nat.reduceMul, Nat.reduceSub, Int.reduceToNat, Int.reduceNeg, cC, cP, cFd, E_take, E_len, List.drop_zero, hTk, hn1, hn2, hn3, hn4, List.mem_singleton, List.mem_cons, List.not_mem_nil, or_false, Name.t.injEq, false_and, and_self, true_and, and_true, Blk.row, List.flatMap_cons, List.flatMap_nil, cellN, topN, nestN, List.getD_cons_zero, List.append_nil, List.nil_append, List.cons_append])
      | (refine CallK.lend (by first | exact hI) rfl hfl rfl ?_; simp (maxSteps := 1000000) -dsimp only [go_sem, reduceIte, reduceCtorEq, Nat.reduceEqDiff, Nat.reduceLT, Nat.reduceLeDiff, Nat.reduceAdd, Nat.reduceMul, Nat.reduceSub, Int.reduceToNat, Int.reduceNeg, cC, cP, cFd, E_take, E_len, List.drop_zero, hTk, hn1, hn2, hn3, hn4, List.mem_singleton, List.mem_cons, List.not_mem_nil, or_false, Name.t.injEq, false_and, and_self, true_and, and_true, Blk.row, List.flatMap_cons, List.flatMap_nil, cellN, topN, nestN, List.getD_cons_zero, List.append_nil, List.nil_append, List.cons_append])
      | (refine CallK.bor (by first | exact markCard c 1 hc1 (by omega) | exact markCard (ccH k p q t c) 1 hA (by omega)) rfl ?_; simp (maxSteps := 1000000) -dsimp only [go_sem, reduceIte, reduceCtorEq, Nat.reduceEqDiff, Nat.reduceLT, Nat.reduceLeDiff, Nat.reduceAdd, Nat.reduceMul, Nat.reduceSub, Int.reduceToNat, Int.reduceNeg, cC, cP, cFd, E_take, E_len, List.drop_zero, hTk, hn1, hn2, hn3, hn4, List.mem_singleton, List.mem_cons, List.not_mem_nil, or_false, Name.t.injEq, false_and, and_self, true_and, and_true, Blk.row, List.flatMap_cons, List.flatMap_nil, cellN, topN, nestN, List.getD_cons_zero, List.append_nil, List.nil_append, List.cons_append])
      | (refine And.intro (by first | rfl | omega | decide | (refine ⟨?_, ?_⟩ <;> (first | rfl | omega | decide)) | (refine ⟨?_, ?_, ?_⟩ <;> (first | rfl | omega | decide)) | (refine ⟨?_, ?_, ?_, ?_⟩ <;> (first | rfl | omega | decide))) ?_)
      | fail)

    all_goals simp_all
  · have hn2 : (ccC k p q t c != ccC k p q t c) = false := by simp
    have hn3 : ((1 : Int) != 1) = false := rfl
    have hn4 : decide ((1 : Int) < 0) = false := rfl
    repeat' (first
      | (refine RgK.mk rfl ?_; simp (maxSteps := 1000000) -dsimp only [go_sem, reduceIte, reduceCtorEq, Nat.reduceEqDiff, Nat.reduceLT, Nat.reduceLeDiff, Nat.reduceAdd, Nat.reduceMul, Nat.reduceSub, Int.reduceToNat, Int.reduceNeg, cC, cP, cFd, E_take, E_len, List.drop_zero, hn1, hn2, hn3, hn4, List.mem_singleton, List.mem_cons, List.not_mem_nil, or_false, Name.t.injEq, false_and, and_self, true_and, and_true, Blk.row, List.flatMap_cons, List.flatMap_nil, cellN, topN, nestN, List.getD_cons_zero, List.append_nil, List.nil_append, List.cons_append])
      | (refine Br.mk (fun h => ?_) (fun h => ?_) <;> simp (maxSteps := 1000000) -dsimp only [go_sem, reduceIte, reduceCtorEq, Nat.reduceEqDiff, Nat.reduceLT, Nat.reduceLeDiff, Nat.reduceAdd, Nat.reduceMul, Nat.reduceSub, Int.reduceToNat, Int.reduceNeg, h, cC, cP, cFd, E_take, E_len, List.drop_zero, hn1, hn2, hn3, hn4, List.mem_singleton, List.mem_cons, List.not_mem_nil, or_false, Name.t.injEq, false_and, and_self, true_and, and_true, Blk.row, List.flatMap_cons, List.flatMap_nil, cellN, topN, nestN, List.getD_cons_zero, List.append_nil, List.nil_append, List.cons_append])
      | (refine CallK.flat (by first | exact toFieldX p | exact toFieldX q | exact toFieldX t | exact spec_CC0 k p q t c hc1 h0 | exact impl_CC0 k p q t c hc1 h0 | exact eqCardS1 c hc1 | exact eqNilC | exact markNilC _ | exact heldNilC _ rfl) rfl ?_; simp (maxSteps := 1000000) -dsimp only [go_sem, reduceIte, reduceCtorEq, Nat.reduceEqDiff, Nat.reduceLT, Nat.reduceLeDiff, Nat.reduceAdd, Nat.reduceMul, Nat.reduceSub, Int.reduceToNat, Int.reduceNeg, cC, cP, cFd, E_take, E_len, List.drop_zero, hn1, hn2, hn3, hn4, List.mem_singleton, List.mem_cons, List.not_mem_nil, or_false, Name.t.injEq, false_and, and_self, true_and, and_true, Blk.row, List.flatMap_cons, List.flatMap_nil, cellN, topN, nestN, List.getD_cons_zero, List.append_nil, List.nil_append, List.cons_append])
      | (refine CallK.pure (by first | exact toFieldX p | exact toFieldX q | exact toFieldX t | exact spec_CC0 k p q t c hc1 h0 | exact impl_CC0 k p q t c hc1 h0 | exact eqCardS1 c hc1 | exact eqNilC | exact markNilC _ | exact heldNilC _ rfl) ?_; simp (maxSteps := 1000000) -dsimp only [go_sem, reduceIte, reduceCtorEq, Nat.reduceEqDiff, Nat.reduceLT, Nat.reduceLeDiff, Nat.reduceAdd, Nat.reduceMul, Nat.reduceSub, Int.reduceToNat, Int.reduceNeg, cC, cP, cFd, E_take, E_len, List.drop_zero, hn1, hn2, hn3, hn4, List.mem_singleton, List.mem_cons, List.not_mem_nil, or_false, Name.t.injEq, false_and, and_self, true_and, and_true, Blk.row, List.flatMap_cons, List.flatMap_nil, cellN, topN, nestN, List.getD_cons_zero, List.append_nil, List.nil_append, List.cons_append])
      | (refine CallK.own (by first | exact toCardO c hc1) rfl ?_; simp (maxSteps := 1000000) -dsimp only [go_sem, reduceIte, reduceCtorEq, Nat.reduceEqDiff, Nat.reduceLT, Nat.reduceLeDiff, Nat.reduceAdd, Nat.reduceMul, Nat.reduceSub, Int.reduceToNat, Int.reduceNeg, cC, cP, cFd, E_take, E_len, List.drop_zero, hn1, hn2, hn3, hn4, List.mem_singleton, List.mem_cons, List.not_mem_nil, or_false, Name.t.injEq, false_and, and_self, true_and, and_true, Blk.row, List.flatMap_cons, List.flatMap_nil, cellN, topN, nestN, List.getD_cons_zero, List.append_nil, List.nil_append, List.cons_append])
      | (refine CallK.bor (by first | exact markCard c 1 hc1 (by omega)) rfl ?_; simp (maxSteps := 1000000) -dsimp only [go_sem, reduceIte, reduceCtorEq, Nat.reduceEqDiff, Nat.reduceLT, Nat.reduceLeDiff, Nat.reduceAdd, Nat.reduceMul, Nat.reduceSub, Int.reduceToNat, Int.reduceNeg, cC, cP, cFd, E_take, E_len, List.drop_zero, hn1, hn2, hn3, hn4, List.mem_singleton, List.mem_cons, List.not_mem_nil, or_false, Name.t.injEq, false_and, and_self, true_and, and_true, Blk.row, List.flatMap_cons, List.flatMap_nil, cellN, topN, nestN, List.getD_cons_zero, List.append_nil, List.nil_append, List.cons_append])
      | (refine And.intro (by first | rfl | omega | decide | (refine ⟨?_, ?_⟩ <;> (first | rfl | omega | decide)) | (refine ⟨?_, ?_, ?_⟩ <;> (first | rfl | omega | decide)) | (refine ⟨?_, ?_, ?_, ?_⟩ <;> (first | rfl | omega | decide))) ?_)
      | fail)

    all_goals simp_all

end Go.Proofs.YthpokkcbbpapdaaDoor
