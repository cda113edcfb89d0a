/- The law FnExactFlowUses returns true for every input, and its argument reads behind the call as it read before. Conditions: none beyond the given statement. -/
import Derived.Test.YthpokkcbbpapdaaYwXf
import Derived.Test.YthpokkcbbpapdaaYuP
import Derived.Test.YthpokkcbbpapdaaRows
namespace Go.Proofs.Ythpokkcbbpapdaa
open Go.Vs Go.ChangeShapes Go.WideShapes Go.ChangeAt Go.RowKit
set_option linter.unusedSimpArgs false
set_option linter.unusedVariables false
attribute [local irreducible] Vs.Fn chOK areCh chTo chAt l03
theorem spec_FlowUses0 (l : List Stp) (hs : ∀ x, x ∈ l → x.text.size ≤ 1048576) (hl : l.length ≤ 1048576) (hv : (l.all (fun x => stpB x 20) && decide ((l.length : Int) ≤ 20)) = false) : Vs.Fn Try.prog F.spec_FlowUses [] [.sl 9 (E cS l)] (.tup [.v (.slice none 0 0), .v (.int .i64 2)]) [] := by
  refine Cd.spec_FlowUses_ok.fn0 Try.mixed Cd.spec_FlowUses_nt Cd.spec_FlowUses_rs rfl fun X => ?_
  unfold Cd.spec_FlowUses
  simp -dsimp only [go_sem, reduceIte, reduceCtorEq, Nat.reduceEqDiff, Nat.reduceLT, Nat.reduceLeDiff, Nat.reduceAdd, Nat.reduceMul, Nat.reduceSub, Int.reduceToNat, Int.reduceNeg, hv]
  repeat' (first
    | (refine RgK.mk rfl ?_; simp -dsimp only [go_sem, reduceIte, reduceCtorEq, Nat.reduceEqDiff, Nat.reduceLT, Nat.reduceLeDiff, Nat.reduceAdd, Nat.reduceMul, Nat.reduceSub, Int.reduceToNat, Int.reduceNeg, hv])
    | (refine Br.mk (fun h => ?_) (fun h => ?_) <;> simp -dsimp only [go_sem, reduceIte, reduceCtorEq, Nat.reduceEqDiff, Nat.reduceLT, Nat.reduceLeDiff, Nat.reduceAdd, Nat.reduceMul, Nat.reduceSub, Int.reduceToNat, Int.reduceNeg, h, hv])
    | (refine CallK.flat (by first | exact l15Flow l 20 hs hl) rfl ?_; simp -dsimp only [go_sem, reduceIte, reduceCtorEq, Nat.reduceEqDiff, Nat.reduceLT, Nat.reduceLeDiff, Nat.reduceAdd, Nat.reduceMul, Nat.reduceSub, Int.reduceToNat, Int.reduceNeg, hv])
    | (refine CallK.pure (by first | exact l15Flow l 20 hs hl) ?_; simp -dsimp only [go_sem, reduceIte, reduceCtorEq, Nat.reduceEqDiff, Nat.reduceLT, Nat.reduceLeDiff, Nat.reduceAdd, Nat.reduceMul, Nat.reduceSub, Int.reduceToNat, Int.reduceNeg, hv])
    | (refine And.intro (by first | rfl | omega | decide | (refine ⟨?_, ?_⟩ <;> (first | rfl | omega | decide)) | (refine ⟨?_, ?_, ?_⟩ <;> (first | rfl | omega | decide)) | (refine ⟨?_, ?_, ?_, ?_⟩ <;> (first | rfl | omega | decide))) ?_)
    | fail)
  all_goals (simp_all)

theorem impl_FlowUses0 (l : List Stp) (hs : ∀ x, x ∈ l → x.text.size ≤ 1048576) (hl : l.length ≤ 1048576) (hv : (l.all (fun x => stpB x 20) && decide ((l.length : Int) ≤ 20)) = false) : Vs.Fn Try.prog F.impl_FlowUses [] [.sl 9 (E cS l)] (.tup [.v (.slice none 0 0), .v (.int .i64 2)]) [] := by
  have i20 : inB 20 1 20 = true := by decide
  refine Cd.impl_FlowUses_ok.fn0 Try.mixed Cd.impl_FlowUses_nt Cd.impl_FlowUses_rs rfl fun X => ?_
  unfold Cd.impl_FlowUses
  simp -dsimp only [go_sem, reduceIte, reduceCtorEq, Nat.reduceEqDiff, Nat.reduceLT, Nat.reduceLeDiff, Nat.reduceAdd, Nat.reduceMul, Nat.reduceSub, Int.reduceToNat, Int.reduceNeg, hv, Bool.and_false]
  repeat' (first
    | (refine RgK.mk rfl ?_; simp -dsimp only [go_sem, reduceIte, reduceCtorEq, Nat.reduceEqDiff, Nat.reduceLT, Nat.reduceLeDiff, Nat.reduceAdd, Nat.reduceMul, Nat.reduceSub, Int.reduceToNat, Int.reduceNeg, hv, Bool.and_false])
    | (refine Br.mk (fun h => ?_) (fun h => ?_) <;> simp -dsimp only [go_sem, reduceIte, reduceCtorEq, Nat.reduceEqDiff, Nat.reduceLT, Nat.reduceLeDiff, Nat.reduceAdd, Nat.reduceMul, Nat.reduceSub, Int.reduceToNat, Int.reduceNeg, h, hv, Bool.and_false])
    | (refine CallK.flat (by first | exact impl_ValidFlow l 20 hs hl) rfl ?_; simp -dsimp only [go_sem, reduceIte, reduceCtorEq, Nat.reduceEqDiff, Nat.reduceLT, Nat.reduceLeDiff, Nat.reduceAdd, Nat.reduceMul, Nat.reduceSub, Int.reduceToNat, Int.reduceNeg, hv, Bool.and_false])
    | (refine CallK.pure (by first | exact impl_ValidFlow l 20 hs hl) ?_; simp -dsimp only [go_sem, reduceIte, reduceCtorEq, Nat.reduceEqDiff, Nat.reduceLT, Nat.reduceLeDiff, Nat.reduceAdd, Nat.reduceMul, Nat.reduceSub, Int.reduceToNat, Int.reduceNeg, hv, Bool.and_false])
    | (refine And.intro (by first | rfl | omega | decide | (refine ⟨?_, ?_⟩ <;> (first | rfl | omega | decide)) | (refine ⟨?_, ?_, ?_⟩ <;> (first | rfl | omega | decide)) | (refine ⟨?_, ?_, ?_, ?_⟩ <;> (first | rfl | omega | decide))) ?_)
    | fail)
  all_goals (simp_all)

theorem eqNil  : Vs.Fn Try.prog F.laws_eqInt64S [] [.v (.slice none 0 0), .v (.slice none 0 0)] (.v (.bool true)) [] := by
  refine Cd.laws_eqInt64S_ok.fn0 Try.mixed Cd.laws_eqInt64S_nt Cd.laws_eqInt64S_rs rfl fun X => ?_
  unfold Cd.laws_eqInt64S
  simp -dsimp only [go_sem, reduceIte, reduceCtorEq, Nat.reduceEqDiff, Nat.reduceLT, Nat.reduceLeDiff, Nat.reduceAdd, Nat.reduceMul, Nat.reduceSub, Int.reduceToNat, Int.reduceNeg]
  refine LoopK.at (drawn_ok Try.mixed) (X := Unit) (fun _ => []) (fun _ => []) (fun _ => 0) () ?_ ?_
  · simp [Vs.LeL, Vs.look, Vs.hlook, Vs.sput, Vs.sputs, Vs.hset, Vs.hputs]
  · rintro ⟨⟩
    simp -dsimp only [go_sem, reduceIte, reduceCtorEq, Nat.reduceEqDiff, Nat.reduceLT, Nat.reduceLeDiff, Nat.reduceAdd, Nat.reduceMul, Nat.reduceSub, Int.reduceToNat, Int.reduceNeg]
    refine Br.mk (fun h => absurd h (by decide)) fun _ => ?_
    simp -dsimp only [go_sem, reduceIte, reduceCtorEq, Nat.reduceEqDiff, Nat.reduceLT, Nat.reduceLeDiff, Nat.reduceAdd, Nat.reduceMul, Nat.reduceSub, Int.reduceToNat, Int.reduceNeg]
    exact ⟨ret_eq rfl, fun h => h rfl⟩

theorem markNil (k : Int) : Vs.Fn Try.prog F.laws_markInt64S [] [.v (.slice none 0 0), .v (.int .i64 k)] (.v (.int .i64 k)) [] := by
  refine Cd.laws_markInt64S_ok.fn0 Try.mixed Cd.laws_markInt64S_nt Cd.laws_markInt64S_rs rfl fun X => ?_
  unfold Cd.laws_markInt64S
  simp -dsimp only [go_sem, reduceIte, reduceCtorEq, Nat.reduceEqDiff, Nat.reduceLT, Nat.reduceLeDiff, Nat.reduceAdd, Nat.reduceMul, Nat.reduceSub, Int.reduceToNat, Int.reduceNeg]
  refine LoopK.at (drawn_ok Try.mixed) (X := Unit) (fun _ => []) (fun _ => []) (fun _ => 0) () ?_ ?_
  · simp [Vs.LeL, Vs.look, Vs.hlook, Vs.sput, Vs.sputs, Vs.hset, Vs.hputs]
  · rintro ⟨⟩
    simp -dsimp only [go_sem, reduceIte, reduceCtorEq, Nat.reduceEqDiff, Nat.reduceLT, Nat.reduceLeDiff, Nat.reduceAdd, Nat.reduceMul, Nat.reduceSub, Int.reduceToNat, Int.reduceNeg]
    refine Br.mk (fun h => absurd h (by decide)) fun _ => ?_
    simp -dsimp only [go_sem, reduceIte, reduceCtorEq, Nat.reduceEqDiff, Nat.reduceLT, Nat.reduceLeDiff, Nat.reduceAdd, Nat.reduceMul, Nat.reduceSub, Int.reduceToNat, Int.reduceNeg]
    exact ⟨ret_eq rfl, fun h => h rfl⟩

theorem heldNil (k : Int) : Vs.Fn Try.prog F.laws_heldInt64S [] [.v (.slice none 0 0), .v (.int .i64 k)] (.v (.int .i64 k)) [] := by
  refine Cd.laws_heldInt64S_ok.fn0 Try.mixed Cd.laws_heldInt64S_nt Cd.laws_heldInt64S_rs rfl fun X => ?_
  unfold Cd.laws_heldInt64S
  simp -dsimp only [go_sem, reduceIte, reduceCtorEq, Nat.reduceEqDiff, Nat.reduceLT, Nat.reduceLeDiff, Nat.reduceAdd, Nat.reduceMul, Nat.reduceSub, Int.reduceToNat, Int.reduceNeg]
  refine LoopK.at (drawn_ok Try.mixed) (X := Unit) (fun _ => []) (fun _ => []) (fun _ => 0) () ?_ ?_
  · simp [Vs.LeL, Vs.look, Vs.hlook, Vs.sput, Vs.sputs, Vs.hset, Vs.hputs]
  · rintro ⟨⟩
    simp -dsimp only [go_sem, reduceIte, reduceCtorEq, Nat.reduceEqDiff, Nat.reduceLT, Nat.reduceLeDiff, Nat.reduceAdd, Nat.reduceMul, Nat.reduceSub, Int.reduceToNat, Int.reduceNeg]
    refine Br.mk (fun h => absurd h (by decide)) fun _ => ?_
    simp -dsimp only [go_sem, reduceIte, reduceCtorEq, Nat.reduceEqDiff, Nat.reduceLT, Nat.reduceLeDiff, Nat.reduceAdd, Nat.reduceMul, Nat.reduceSub, Int.reduceToNat, Int.reduceNeg]
    exact ⟨ret_eq rfl, fun h => h rfl⟩

/-- the marks of numbers -/
def mI (k : Nat) (j : Nat) : Int := (k + j : Nat)
theorem markInt64S (l : List Int) (k : Nat) (hl : l.length ≤ 1048576) (hk : k ≤ 1000000000) : Vs.Fn Try.prog F.laws_markInt64S [.arr 1 (E cI l) false] [.loc (.b 0) 0 l.length, .v (.int .i64 k)] (.v (.int .i64 (k + l.length : Nat))) [some (.arr 1 (E cI (mkR (mI k) l l.length)) false)] := by
  refine Cd.laws_markInt64S_ok.fn Try.mixed (hin := [.arr 1 (E cI l) false]) 19 _ [.b 0] [.arr 1 (E cI (mkR (mI k) l l.length)) false] Cd.laws_markInt64S_nt Cd.laws_markInt64S_rs rfl (by simp) rfl hB1 fun X => ?_
  unfold Cd.laws_markInt64S
  simp -dsimp only [go_sem, reduceIte, reduceCtorEq, Nat.reduceEqDiff, Nat.reduceLT, Nat.reduceLeDiff, Nat.reduceAdd, Nat.reduceMul, Nat.reduceSub, Int.reduceToNat, Int.reduceNeg]
  refine LoopK.at (drawn_ok Try.mixed) (X := { i : Nat // i ≤ l.length }) (fun i => [(0, .loc (.b 0) 0 l.length), (1, .v (.int .i64 (k + i.1 : Nat))), (5, .v (.int .i64 i.1))]) (fun i => [(.b 0, .arr 1 (E cI (mkR (mI k) l i.1)) false)]) (fun i => l.length - i.1) ⟨0, by omega⟩ ?_ ?_
  · simp [Vs.LeL, Vs.look, Vs.hlook, Vs.sput, Vs.sputs, Vs.hset, Vs.hputs, mkR_zero]
  · rintro ⟨i, hi⟩
    simp -dsimp only [go_sem, reduceIte, reduceCtorEq, Nat.reduceEqDiff, Nat.reduceLT, Nat.reduceLeDiff, Nat.reduceAdd, Nat.reduceMul, Nat.reduceSub, Int.reduceToNat, Int.reduceNeg]
    refine Br.mk (fun hc => ?_) fun hc => ?_
    · have hlt : i < l.length := by simpa using hc
      have hw := wrap_succ hlt hl
      have hw2 : IntKind.i64.wrap (((k + i : Nat) : Int) + 1) = ((k + (i + 1) : Nat) : Int) := by rw [wrap_in (by omega) (by omega)]; omega
      have hgi : (E cI (mkR (mI k) l i)).getD i [] = [.v (.int .i64 l[i])] := mkR_get (c := cI) _ l hlt
      have hst : (E cI (mkR (mI k) l i)).set i [.v (.int .i64 (k + i : Nat))] = E cI (mkR (mI k) l (i + 1)) := mkR_set (c := cI) (mI k) l hlt
      have hlr : (mkR (mI k) l i).length = l.length := mkR_length _ l (by omega)
      simp -dsimp only [go_sem, reduceIte, reduceCtorEq, Nat.reduceEqDiff, Nat.reduceLT, Nat.reduceLeDiff, Nat.reduceAdd, Nat.reduceMul, Nat.reduceSub, Int.reduceToNat, Int.reduceNeg, hw, hw2, hgi, hst, hlr, E_len]
      repeat' (first
        | (refine RgK.mk rfl ?_; simp -dsimp only [go_sem, reduceIte, reduceCtorEq, Nat.reduceEqDiff, Nat.reduceLT, Nat.reduceLeDiff, Nat.reduceAdd, Nat.reduceMul, Nat.reduceSub, Int.reduceToNat, Int.reduceNeg, hw, hw2, hgi, hst, hlr, E_len])
        | (refine Br.mk (fun h => ?_) (fun h => ?_) <;> simp -dsimp only [go_sem, reduceIte, reduceCtorEq, Nat.reduceEqDiff, Nat.reduceLT, Nat.reduceLeDiff, Nat.reduceAdd, Nat.reduceMul, Nat.reduceSub, Int.reduceToNat, Int.reduceNeg, h, hw, hw2, hgi, hst, hlr, E_len])
        | (refine And.intro (by first | rfl | omega | decide | (refine ⟨?_, ?_⟩ <;> (first | rfl | omega | decide)) | (refine ⟨?_, ?_, ?_⟩ <;> (first | rfl | omega | decide)) | (refine ⟨?_, ?_, ?_, ?_⟩ <;> (first | rfl | omega | decide))) ?_)
        | fail)

      all_goals (exact ⟨⟨i + 1, by omega⟩, by simp [Vs.LeL, Vs.look, Vs.hlook, Vs.sput, Vs.sputs, Vs.hset, Vs.hputs], by simp only; omega⟩)
    · have hge : i = l.length := by
        have : ¬ i < l.length := by simpa using hc
        omega
      subst hge
      simp -dsimp only [go_sem, reduceIte, reduceCtorEq, Nat.reduceEqDiff, Nat.reduceLT, Nat.reduceLeDiff, Nat.reduceAdd, Nat.reduceMul, Nat.reduceSub, Int.reduceToNat, Int.reduceNeg]
      exact ⟨⟨_, _, rfl, rfl⟩, fun h => h rfl⟩

theorem heldInt64S (l : List Int) (k : Nat) (hl : l.length ≤ 1048576) (hk : k ≤ 1000000000) : Vs.Fn Try.prog F.laws_heldInt64S [] [.sl 1 (E cI (mkR (mI k) l l.length)), .v (.int .i64 k)] (.v (.int .i64 (k + l.length : Nat))) [] := by
  have hlr : (mkR (mI k) l l.length).length = l.length := mkR_length _ l (Nat.le_refl _)
  refine Cd.laws_heldInt64S_ok.fn0 Try.mixed Cd.laws_heldInt64S_nt Cd.laws_heldInt64S_rs rfl fun X => ?_
  unfold Cd.laws_heldInt64S
  simp -dsimp only [go_sem, reduceIte, reduceCtorEq, Nat.reduceEqDiff, Nat.reduceLT, Nat.reduceLeDiff, Nat.reduceAdd, Nat.reduceMul, Nat.reduceSub, Int.reduceToNat, Int.reduceNeg]
  refine LoopK.at (drawn_ok Try.mixed) (X := { i : Nat // i ≤ l.length }) (fun i => [(1, .v (.int .i64 (k + i.1 : Nat))), (5, .v (.int .i64 i.1))]) (fun i => []) (fun i => l.length - i.1) ⟨0, by omega⟩ ?_ ?_
  · simp [Vs.LeL, Vs.look, Vs.hlook, Vs.sput, Vs.sputs, Vs.hset, Vs.hputs]
  · rintro ⟨i, hi⟩
    simp -dsimp only [go_sem, reduceIte, reduceCtorEq, Nat.reduceEqDiff, Nat.reduceLT, Nat.reduceLeDiff, Nat.reduceAdd, Nat.reduceMul, Nat.reduceSub, Int.reduceToNat, Int.reduceNeg, E_len, hlr]
    refine Br.mk (fun hc => ?_) fun hc => ?_
    · have hlt : i < l.length := by simpa using hc
      have hw := wrap_succ hlt hl
      have hw2 : IntKind.i64.wrap (((k + i : Nat) : Int) + 1) = ((k + (i + 1) : Nat) : Int) := by rw [wrap_in (by omega) (by omega)]; omega
      have hgi : (E cI (mkR (mI k) l l.length)).getD i [] = [.v (.int .i64 (k + i : Nat))] := by
        rw [E_get (by rw [hlr]; exact hlt)]
        simp only [mkR_all, List.getElem_map, List.getElem_range]
        rfl
      have hbe : (((k + i : Nat) : Int) != ((k + i : Nat) : Int)) = false := by simp
      simp -dsimp only [go_sem, reduceIte, reduceCtorEq, Nat.reduceEqDiff, Nat.reduceLT, Nat.reduceLeDiff, Nat.reduceAdd, Nat.reduceMul, Nat.reduceSub, Int.reduceToNat, Int.reduceNeg, hw, hw2, hgi, hlr, hbe, E_len]
      repeat' (first
        | (refine RgK.mk rfl ?_; simp -dsimp only [go_sem, reduceIte, reduceCtorEq, Nat.reduceEqDiff, Nat.reduceLT, Nat.reduceLeDiff, Nat.reduceAdd, Nat.reduceMul, Nat.reduceSub, Int.reduceToNat, Int.reduceNeg, hw, hw2, hgi, hlr, hbe, E_len])
        | (refine Br.mk (fun h => ?_) (fun h => ?_) <;> simp -dsimp only [go_sem, reduceIte, reduceCtorEq, Nat.reduceEqDiff, Nat.reduceLT, Nat.reduceLeDiff, Nat.reduceAdd, Nat.reduceMul, Nat.reduceSub, Int.reduceToNat, Int.reduceNeg, h, hw, hw2, hgi, hlr, hbe, E_len])
        | (refine And.intro (by first | rfl | omega | decide | (refine ⟨?_, ?_⟩ <;> (first | rfl | omega | decide)) | (refine ⟨?_, ?_, ?_⟩ <;> (first | rfl | omega | decide)) | (refine ⟨?_, ?_, ?_, ?_⟩ <;> (first | rfl | omega | decide))) ?_)
        | fail)

      all_goals (exact ⟨⟨i + 1, by omega⟩, by simp [Vs.LeL, Vs.look, Vs.hlook, Vs.sput, Vs.sputs, Vs.hset, Vs.hputs], by simp only; omega⟩)
    · have hge : i = l.length := by
        have : ¬ i < l.length := by simpa using hc
        omega
      subst hge
      simp -dsimp only [go_sem, reduceIte, reduceCtorEq, Nat.reduceEqDiff, Nat.reduceLT, Nat.reduceLeDiff, Nat.reduceAdd, Nat.reduceMul, Nat.reduceSub, Int.reduceToNat, Int.reduceNeg]
      simp

theorem eqInt64U {l : List Int} (hl : l.length ≤ 1048576) : Vs.Fn Try.prog F.laws_eqInt64S [] [.sl 1 (E cI l), .sl 1 (E cI l)] (.v (.bool true)) [] :=
  eqI_fn Try.mixed Cd.laws_eqInt64S_ok Cd.laws_eqInt64S_nt Cd.laws_eqInt64S_rs rfl hl
set_option maxHeartbeats 2000000 in
theorem law_FlowUses (l : List Stp) (hs0 : ∀ x, x ∈ l → x.text.size < 2 ^ 63) (hl : l.length < 2 ^ 63) : Vs.Fn Try.prog F.laws_FnExactFlowUses [] [.sl 9 (E cS l)] (.v (.bool true)) [] := by
  refine Cd.laws_FnExactFlowUses_ok.fn0 Try.mixed Cd.laws_FnExactFlowUses_nt Cd.laws_FnExactFlowUses_rs rfl fun X => ?_
  unfold Cd.laws_FnExactFlowUses
  simp -dsimp only [go_sem, reduceIte, reduceCtorEq, Nat.reduceEqDiff, Nat.reduceLT, Nat.reduceLeDiff, Nat.reduceAdd, Nat.reduceMul, Nat.reduceSub, Int.reduceToNat, Int.reduceNeg]
  refine CallK.flat (szStepS l 1048576 hs0 hl (by omega)) rfl ?_
  simp -dsimp only [go_sem, reduceIte, reduceCtorEq, Nat.reduceEqDiff, Nat.reduceLT, Nat.reduceLeDiff, Nat.reduceAdd, Nat.reduceMul, Nat.reduceSub, Int.reduceToNat, Int.reduceNeg]
  refine Br.mk (fun h1 => by simp -dsimp only [go_sem, reduceIte, reduceCtorEq, Nat.reduceEqDiff, Nat.reduceLT, Nat.reduceLeDiff, Nat.reduceAdd, Nat.reduceMul, Nat.reduceSub, Int.reduceToNat, Int.reduceNeg]; simp) (fun h1 => ?_)
  simp -dsimp only [go_sem, reduceIte, reduceCtorEq, Nat.reduceEqDiff, Nat.reduceLT, Nat.reduceLeDiff, Nat.reduceAdd, Nat.reduceMul, Nat.reduceSub, Int.reduceToNat, Int.reduceNeg]
  simp only [decide_eq_false_iff_not] at h1
  have hl1 : l.length ≤ 1048576 := by have := szL_len hl (by omega) h1; omega
  have hs : ∀ x, x ∈ l → x.text.size ≤ 1048576 := by
    intro x hx
    obtain ⟨m, h2, h3, h4⟩ := szL_mem (fun x hx n h0 hn h => szStp_le (hs0 x hx) h0 hn h) hl (by omega) h1 x hx
    have := (szT_le (hs0 x hx) h2 h3 h4).2
    omega
  have hn1 : decide (((1 + 9 * l.length : Nat) : Int) < 0) = false := decide_eq_false (by omega)
  cases hv : (l.all (fun x => stpB x 20) && decide ((l.length : Int) ≤ 20))
  · have hn2 : ((2 : Int) != 2) = false := rfl
    have hn3 : ((1 : Int) != 1) = false := rfl
    have hn4 : decide ((1 : Int) < 0) = false := rfl
    repeat' (first
      | (refine RgK.mk rfl ?_; simp -dsimp only [go_sem, reduceIte, reduceCtorEq, Nat.reduceEqDiff, Nat.reduceLT, Nat.reduceLeDiff, Nat.reduceAdd, Nat.reduceMul, Nat.reduceSub, Int.reduceToNat, Int.reduceNeg, E_take, E_len, List.drop_zero, hn1, hn2, hn3, hn4])
      | (refine Br.mk (fun h => ?_) (fun h => ?_) <;> simp -dsimp only [go_sem, reduceIte, reduceCtorEq, Nat.reduceEqDiff, Nat.reduceLT, Nat.reduceLeDiff, Nat.reduceAdd, Nat.reduceMul, Nat.reduceSub, Int.reduceToNat, Int.reduceNeg, h, E_take, E_len, List.drop_zero, hn1, hn2, hn3, hn4])
      | (refine CallK.flat (by first | exact spec_FlowUses0 l hs hl1 hv | exact impl_FlowUses0 l hs hl1 hv | exact eqNil | exact eqStepS l hl1) rfl ?_; simp -dsimp only [go_sem, reduceIte, reduceCtorEq, Nat.reduceEqDiff, Nat.reduceLT, Nat.reduceLeDiff, Nat.reduceAdd, Nat.reduceMul, Nat.reduceSub, Int.reduceToNat, Int.reduceNeg, E_take, E_len, List.drop_zero, hn1, hn2, hn3, hn4])
      | (refine CallK.pure (by first | exact spec_FlowUses0 l hs hl1 hv | exact impl_FlowUses0 l hs hl1 hv | exact eqNil | exact eqStepS l hl1) ?_; simp -dsimp only [go_sem, reduceIte, reduceCtorEq, Nat.reduceEqDiff, Nat.reduceLT, Nat.reduceLeDiff, Nat.reduceAdd, Nat.reduceMul, Nat.reduceSub, Int.reduceToNat, Int.reduceNeg, E_take, E_len, List.drop_zero, hn1, hn2, hn3, hn4])
      | (refine CallK.own (by first | exact toStepSO l hl1) rfl ?_; simp -dsimp only [go_sem, reduceIte, reduceCtorEq, Nat.reduceEqDiff, Nat.reduceLT, Nat.reduceLeDiff, Nat.reduceAdd, Nat.reduceMul, Nat.reduceSub, Int.reduceToNat, Int.reduceNeg, E_take, E_len, List.drop_zero, hn1, hn2, hn3, hn4])
      | (refine CallK.bor (by first | exact markStepS l 1 hl1 (by omega) (by omega)) rfl ?_; simp -dsimp only [go_sem, reduceIte, reduceCtorEq, Nat.reduceEqDiff, Nat.reduceLT, Nat.reduceLeDiff, Nat.reduceAdd, Nat.reduceMul, Nat.reduceSub, Int.reduceToNat, Int.reduceNeg, E_take, E_len, List.drop_zero, hn1, hn2, hn3, hn4])
      | (refine CallK.flat (B := []) (by first | exact markNil _ | exact heldNil _) rfl ?_; simp -dsimp only [go_sem, reduceIte, reduceCtorEq, Nat.reduceEqDiff, Nat.reduceLT, Nat.reduceLeDiff, Nat.reduceAdd, Nat.reduceMul, Nat.reduceSub, Int.reduceToNat, Int.reduceNeg, E_take, E_len, List.drop_zero, hn1, hn2, hn3, hn4])
      | (refine And.intro (by first | rfl | omega | decide | (refine ⟨?_, ?_⟩ <;> (first | rfl | omega | decide)) | (refine ⟨?_, ?_, ?_⟩ <;> (first | rfl | omega | decide)) | (refine ⟨?_, ?_, ?_, ?_⟩ <;> (first | rfl | omega | decide))) ?_)
      | fail)

    all_goals simp_all
  · have hA : (sel (fuS l l.length).1 6).length ≤ 1048576 := by have := sel_len (fuS l l.length).1 6; omega
    have hfl : ∀ b, some b ∈ [some (Blk.arr 1 (E cI (sel (fuS l l.length).1 6)) false)] → Vs.flatB b := flat_one (flatB_E (fun _ => rfl))
    have hn2 : decide (((1 + (sel (fuS l l.length).1 6).length : Nat) : Int) < 0) = false := decide_eq_false (by omega)
    have hn3 : (((1 + (sel (fuS l l.length).1 6).length : Nat) : Int) != ((1 + (sel (fuS l l.length).1 6).length : Nat) : Int)) = false := by simp
    have hn4 : ((0 : Int) != 0) = false := rfl
    have hTk : List.take (sel (fuS l l.length).1 6).length (E cI (mkR (mI 1) (sel (fuS l l.length).1 6) (sel (fuS l l.length).1 6).length)) = E cI (mkR (mI 1) (sel (fuS l l.length).1 6) (sel (fuS l l.length).1 6).length) := List.take_of_length_le (by rw [E_len, mkR_length _ _ (Nat.le_refl _)]; exact Nat.le_refl _)
    repeat' (first
      | (refine RgK.mk rfl ?_; simp -dsimp only [go_sem, reduceIte, reduceCtorEq, Nat.reduceEqDiff, Nat.reduceLT, Nat.reduceLeDiff, Nat.reduceAdd, Nat.reduceMul, Nat.reduceSub, Int.reduceToNat, Int.reduceNeg, E_take, E_len, List.drop_zero, hTk, hn1, hn2, hn3, hn4])
      | (refine Br.mk (fun h => ?_) (fun h => ?_) <;> simp -dsimp only [go_sem, reduceIte, reduceCtorEq, Nat.reduceEqDiff, Nat.reduceLT, Nat.reduceLeDiff, Nat.reduceAdd, Nat.reduceMul, Nat.reduceSub, Int.reduceToNat, Int.reduceNeg, h, E_take, E_len, List.drop_zero, hTk, hn1, hn2, hn3, hn4])
      | (refine CallK.flat (by first | exact spec_FlowUses1 l hs hl1 hv | exact eqInt64U hA | exact eqStepS l hl1 | exact heldInt64S (sel (fuS l l.length).1 6) 1 hA (by omega)) rfl ?_; simp -dsimp only [go_sem, reduceIte, reduceCtorEq, Nat.reduceEqDiff, Nat.reduceLT, Nat.reduceLeDiff, Nat.reduceAdd, Nat.reduceMul, Nat.reduceSub, Int.reduceToNat, Int.reduceNeg, E_take, E_len, List.drop_zero, hTk, hn1, hn2, hn3, hn4])
      | (refine CallK.pure (by first | exact spec_FlowUses1 l hs hl1 hv | exact eqInt64U hA | exact eqStepS l hl1 | exact heldInt64S (sel (fuS l l.length).1 6) 1 hA (by omega)) ?_; simp -dsimp only [go_sem, reduceIte, reduceCtorEq, Nat.reduceEqDiff, Nat.reduceLT, Nat.reduceLeDiff, Nat.reduceAdd, Nat.reduceMul, Nat.reduceSub, Int.reduceToNat, Int.reduceNeg, E_take, E_len, List.drop_zero, hTk, hn1, hn2, hn3, hn4])
      | (refine CallK.own (by first | exact toStepSO l hl1) rfl ?_; simp -dsimp only [go_sem, reduceIte, reduceCtorEq, Nat.reduceEqDiff, Nat.reduceLT, Nat.reduceLeDiff, Nat.reduceAdd, Nat.reduceMul, Nat.reduceSub, Int.reduceToNat, Int.reduceNeg, E_take, E_len, List.drop_zero, hTk, hn1, hn2, hn3, hn4])
      | (refine CallK.lend (by first | exact impl_FlowUses1 l hs hl1 hv) rfl hfl rfl ?_; simp -dsimp only [go_sem, reduceIte, reduceCtorEq, Nat.reduceEqDiff, Nat.reduceLT, Nat.reduceLeDiff, Nat.reduceAdd, Nat.reduceMul, Nat.reduceSub, Int.reduceToNat, Int.reduceNeg, E_take, E_len, List.drop_zero, hTk, hn1, hn2, hn3, hn4])
      | (refine CallK.bor (by first | exact markStepS l 1 hl1 (by omega) (by omega) | exact markInt64S (sel (fuS l l.length).1 6) 1 hA (by omega)) rfl ?_; simp -dsimp only [go_sem, reduceIte, reduceCtorEq, Nat.reduceEqDiff, Nat.reduceLT, Nat.reduceLeDiff, Nat.reduceAdd, Nat.reduceMul, Nat.reduceSub, Int.reduceToNat, Int.reduceNeg, E_take, E_len, List.drop_zero, hTk, hn1, hn2, hn3, hn4])
      | (refine And.intro (by first | rfl | omega | decide | (refine ⟨?_, ?_⟩ <;> (first | rfl | omega | decide)) | (refine ⟨?_, ?_, ?_⟩ <;> (first | rfl | omega | decide)) | (refine ⟨?_, ?_, ?_, ?_⟩ <;> (first | rfl | omega | decide))) ?_)
      | fail)

    all_goals simp_all

def gStp2 (p : I64 × I64 × I64 × I64 × (I64 × I64) × (I64 × I64) × S63) : Stp := ⟨p.1.1, p.2.1.1, p.2.2.1.1, p.2.2.2.1.1, p.2.2.2.2.1.1.1, p.2.2.2.2.1.2.1, p.2.2.2.2.2.1.1.1, p.2.2.2.2.2.1.2.1, p.2.2.2.2.2.2.1⟩

set_option maxRecDepth 100000 in
theorem flowuses_lifted (os : Os) (started : os.Started) (H : Type) (enc : TypeId × Value → H) :
    ReturnsInHanded {} Try.checked os F.laws_FnExactFlowUses .any (Rows.fnExactFlowUsesSpec.pre6 enc Try.prog Try.f5 Rows.fnExactFlowUsesRow.domain false) (Rows.fnExactFlowUsesSpec.post enc Try.prog Try.f5 false true false false) :=
  law_returns (C := Try.checked) rfl Try.own started (by kernel_rfl) Try.func5
    (ChangeSpec.witness6 (enc := enc) (C := Try.checked) false ⟨#[], #[.slice none 0 0], []⟩ 8 (by kernel_rfl) (by kernel_rfl) (by kernel_rfl) (by kernel_rfl))
    Try.laidOut (by kernel_rfl) rfl Try.underlying4 rfl (fun ds h => by match ds, h with | [_], _ => exact ⟨rfl, rfl, rfl⟩)
    (Args.cons (Arg.slice Try.underlying50 oSteps) Args.nil) (fun a => by
      have h := law_FlowUses (a.1.1.map gStp2) (fun x hx => by obtain ⟨p, _, rfl⟩ := List.mem_map.1 hx; exact p.2.2.2.2.2.2.2) (by simpa using a.1.2)
      rw [E_map] at h
      exact h)

theorem flowuses_holds : Rows.FnExactFlowUsesSaid :=
  OpenClaim.holds_of_wide 5 Try.f5 rfl rfl rfl rfl rfl rfl rfl ⟨rfl, rfl, rfl, rfl, rfl⟩ rfl rfl rfl rfl rfl (by kernel_rfl) Try.func5 (by kernel_rfl)
    (of_decide_eq_true (by kernel_rfl)) (by unfold Func.isWrapper; first | (rw [if_pos (by decide +kernel)]; kernel_rfl) | (rw [if_neg (by decide +kernel)]; exact ⟨rfl, rfl⟩))
    (fun os started H enc _ => flowuses_lifted os started H enc)
#print axioms flowuses_holds
end Go.Proofs.Ythpokkcbbpapdaa
