/- The source: pick, one, among. -/
import Derived.Test.YtgeeipfdkamhmaaDoorTwUb
import Derived.Test.YtgeeipfdkamhmaaDoorTwUa
namespace Go.Proofs.YtgeeipfdkamhmaaDoor
open Go.Vs
set_option linter.unusedSimpArgs false
set_option linter.unusedVariables false
attribute [local irreducible] Vs.Fn
attribute [local irreducible] nxV nxS
theorem pick (l : List Int) (x : Sr) (hl : byt l) (n : Int) (hp : x.p ≤ 3990) : Vs.Fn Tryd.prog F.__spec_l00Src__pick [sB l x] [.ptr (.b 0) 0 0, .v (.int .i64 n)] (.v (.int .i64 (pkV l x n))) [some (sB l (pkS l x n))] := by
  have hq : (nxS l x).p = x.p + 1 := nxS_p l x
  have N1 := next l x hl (by omega)
  have N2 := next l (nxS l x) hl (by omega)
  by_cases h1 : n ≤ 1
  · have e1 : decide (n ≤ 1) = true := by simp [h1]
    have hv : pkV l x n = 0 := by simp [pkV, h1]
    have hs : pkS l x n = x := by simp [pkS, h1]
    rw [hv, hs]
    refine Cd.__spec_l00Src__pick_ok.fn Tryd.mixed (hin := [sB l x]) _ _ [.b 0] [sB l x] Cd.__spec_l00Src__pick_nt Cd.__spec_l00Src__pick_rs rfl (by simp) rfl (by simp) fun X => ?_
    unfold Cd.__spec_l00Src__pick
    simp -dsimp only [go_sem, reduceIte, reduceCtorEq, Nat.reduceEqDiff, Nat.reduceLT, Nat.reduceLeDiff, Nat.reduceAdd, Nat.reduceMul, Nat.reduceSub, Int.reduceToNat, Int.reduceNeg, e1, List.set_cons_zero, List.set_cons_succ, List.length_cons, List.length_nil, List.flatMap_cons, List.flatMap_nil, cellN, topN, nestN, sB, List.getD_cons_zero, List.append_nil, List.nil_append, List.cons_append]
    exact ⟨_, _, rfl, rfl⟩
  · have e1 : decide (n ≤ 1) = false := by simp [h1]
    have h0 : n ≠ 0 := by omega
    by_cases h2 : n > 200
    · have e2 : decide (n > 200) = true := by simp [h2]
      have hv : pkV l x n = (IntKind.i64.wrap (IntKind.i64.wrap (nxV l x * 256) + nxV l (nxS l x))).tmod n := by simp [pkV, h1, h2]
      have hs : pkS l x n = nxS l (nxS l x) := by simp [pkS, h1, h2]
      rw [hv, hs]
      refine Cd.__spec_l00Src__pick_ok.fn Tryd.mixed (hin := [sB l x]) _ _ [.b 0] [sB l (nxS l (nxS l x))] Cd.__spec_l00Src__pick_nt Cd.__spec_l00Src__pick_rs rfl (by simp) rfl (by simp) fun X => ?_
      unfold Cd.__spec_l00Src__pick
      simp -dsimp only [go_sem, reduceIte, reduceCtorEq, Nat.reduceEqDiff, Nat.reduceLT, Nat.reduceLeDiff, Nat.reduceAdd, Nat.reduceMul, Nat.reduceSub, Int.reduceToNat, Int.reduceNeg, e1, e2, List.set_cons_zero, List.set_cons_succ, List.length_cons, List.length_nil, List.flatMap_cons, List.flatMap_nil, cellN, topN, nestN, sB, List.getD_cons_zero, List.append_nil, List.nil_append, List.cons_append]
      repeat' (first
        | (refine RgK.mk rfl ?_; simp -dsimp only [go_sem, reduceIte, reduceCtorEq, Nat.reduceEqDiff, Nat.reduceLT, Nat.reduceLeDiff, Nat.reduceAdd, Nat.reduceMul, Nat.reduceSub, Int.reduceToNat, Int.reduceNeg, e1, e2, List.set_cons_zero, List.set_cons_succ, List.length_cons, List.length_nil, List.flatMap_cons, List.flatMap_nil, cellN, topN, nestN, sB, List.getD_cons_zero, List.append_nil, List.nil_append, List.cons_append])
        | (refine Br.mk (fun h => ?_) (fun h => ?_) <;> simp -dsimp only [go_sem, reduceIte, reduceCtorEq, Nat.reduceEqDiff, Nat.reduceLT, Nat.reduceLeDiff, Nat.reduceAdd, Nat.reduceMul, Nat.reduceSub, Int.reduceToNat, Int.reduceNeg, h, e1, e2, List.set_cons_zero, List.set_cons_succ, List.length_cons, List.length_nil, List.flatMap_cons, List.flatMap_nil, cellN, topN, nestN, sB, List.getD_cons_zero, List.append_nil, List.nil_append, List.cons_append])
        | (refine CallK.bor (by first | exact N1 | exact N2) rfl ?_; simp -dsimp only [go_sem, reduceIte, reduceCtorEq, Nat.reduceEqDiff, Nat.reduceLT, Nat.reduceLeDiff, Nat.reduceAdd, Nat.reduceMul, Nat.reduceSub, Int.reduceToNat, Int.reduceNeg, e1, e2, List.set_cons_zero, List.set_cons_succ, List.length_cons, List.length_nil, List.flatMap_cons, List.flatMap_nil, cellN, topN, nestN, sB, List.getD_cons_zero, List.append_nil, List.nil_append, List.cons_append])
        | (refine And.intro (by first | rfl | omega | decide | exact ⟨rfl, h0⟩ | (refine ⟨?_, ?_⟩ <;> (first | rfl | omega | decide | exact ⟨rfl, h0⟩)) | (refine ⟨?_, ?_, ?_⟩ <;> (first | rfl | omega | decide | exact ⟨rfl, h0⟩)) | (refine ⟨?_, ?_, ?_, ?_⟩ <;> (first | rfl | omega | decide | exact ⟨rfl, h0⟩))) ?_; try simp -dsimp only [go_sem, reduceIte, reduceCtorEq, Nat.reduceEqDiff, Nat.reduceLT, Nat.reduceLeDiff, Nat.reduceAdd, Nat.reduceMul, Nat.reduceSub, Int.reduceToNat, Int.reduceNeg, e1, e2, List.set_cons_zero, List.set_cons_succ, List.length_cons, List.length_nil, List.flatMap_cons, List.flatMap_nil, cellN, topN, nestN, sB, List.getD_cons_zero, List.append_nil, List.nil_append, List.cons_append])
        | fail)
      all_goals exact ⟨_, _, rfl, rfl⟩
    · have e2 : decide (n > 200) = false := by simp; omega
      have hv : pkV l x n = (nxV l x).tmod n := by simp [pkV, h1, h2]
      have hs : pkS l x n = nxS l x := by simp [pkS, h1, h2]
      rw [hv, hs]
      refine Cd.__spec_l00Src__pick_ok.fn Tryd.mixed (hin := [sB l x]) _ _ [.b 0] [sB l (nxS l x)] Cd.__spec_l00Src__pick_nt Cd.__spec_l00Src__pick_rs rfl (by simp) rfl (by simp) fun X => ?_
      unfold Cd.__spec_l00Src__pick
      simp -dsimp only [go_sem, reduceIte, reduceCtorEq, Nat.reduceEqDiff, Nat.reduceLT, Nat.reduceLeDiff, Nat.reduceAdd, Nat.reduceMul, Nat.reduceSub, Int.reduceToNat, Int.reduceNeg, e1, e2, List.set_cons_zero, List.set_cons_succ, List.length_cons, List.length_nil, List.flatMap_cons, List.flatMap_nil, cellN, topN, nestN, sB, List.getD_cons_zero, List.append_nil, List.nil_append, List.cons_append]
      repeat' (first
        | (refine RgK.mk rfl ?_; simp -dsimp only [go_sem, reduceIte, reduceCtorEq, Nat.reduceEqDiff, Nat.reduceLT, Nat.reduceLeDiff, Nat.reduceAdd, Nat.reduceMul, Nat.reduceSub, Int.reduceToNat, Int.reduceNeg, e1, e2, List.set_cons_zero, List.set_cons_succ, List.length_cons, List.length_nil, List.flatMap_cons, List.flatMap_nil, cellN, topN, nestN, sB, List.getD_cons_zero, List.append_nil, List.nil_append, List.cons_append])
        | (refine Br.mk (fun h => ?_) (fun h => ?_) <;> simp -dsimp only [go_sem, reduceIte, reduceCtorEq, Nat.reduceEqDiff, Nat.reduceLT, Nat.reduceLeDiff, Nat.reduceAdd, Nat.reduceMul, Nat.reduceSub, Int.reduceToNat, Int.reduceNeg, h, e1, e2, List.set_cons_zero, List.set_cons_succ, List.length_cons, List.length_nil, List.flatMap_cons, List.flatMap_nil, cellN, topN, nestN, sB, List.getD_cons_zero, List.append_nil, List.nil_append, List.cons_append])
        | (refine CallK.bor (by first | exact N1 | exact N2) rfl ?_; simp -dsimp only [go_sem, reduceIte, reduceCtorEq, Nat.reduceEqDiff, Nat.reduceLT, Nat.reduceLeDiff, Nat.reduceAdd, Nat.reduceMul, Nat.reduceSub, Int.reduceToNat, Int.reduceNeg, e1, e2, List.set_cons_zero, List.set_cons_succ, List.length_cons, List.length_nil, List.flatMap_cons, List.flatMap_nil, cellN, topN, nestN, sB, List.getD_cons_zero, List.append_nil, List.nil_append, List.cons_append])
        | (refine And.intro (by first | rfl | omega | decide | exact ⟨rfl, h0⟩ | (refine ⟨?_, ?_⟩ <;> (first | rfl | omega | decide | exact ⟨rfl, h0⟩)) | (refine ⟨?_, ?_, ?_⟩ <;> (first | rfl | omega | decide | exact ⟨rfl, h0⟩)) | (refine ⟨?_, ?_, ?_, ?_⟩ <;> (first | rfl | omega | decide | exact ⟨rfl, h0⟩))) ?_; try simp -dsimp only [go_sem, reduceIte, reduceCtorEq, Nat.reduceEqDiff, Nat.reduceLT, Nat.reduceLeDiff, Nat.reduceAdd, Nat.reduceMul, Nat.reduceSub, Int.reduceToNat, Int.reduceNeg, e1, e2, List.set_cons_zero, List.set_cons_succ, List.length_cons, List.length_nil, List.flatMap_cons, List.flatMap_nil, cellN, topN, nestN, sB, List.getD_cons_zero, List.append_nil, List.nil_append, List.cons_append])
        | fail)
      all_goals exact ⟨_, _, rfl, rfl⟩
attribute [local irreducible] pkV pkS
theorem one (l : List Int) (x : Sr) (hl : byt l) (n : Int) (hp : x.p ≤ 3990) : Vs.Fn Tryd.prog F.__spec_l00Src__one [sB l x] [.ptr (.b 0) 0 0, .v (.int .i64 n)] (.v (.bool (pkV l x n == 0))) [some (sB l (pkS l x n))] := by
  have N1 := pick l x hl n hp
  refine Cd.__spec_l00Src__one_ok.fn Tryd.mixed (hin := [sB l x]) _ _ [.b 0] [sB l (pkS l x n)] Cd.__spec_l00Src__one_nt Cd.__spec_l00Src__one_rs rfl (by simp) rfl (by simp) fun X => ?_
  unfold Cd.__spec_l00Src__one
  simp -dsimp only [go_sem, reduceIte, reduceCtorEq, Nat.reduceEqDiff, Nat.reduceLT, Nat.reduceLeDiff, Nat.reduceAdd, Nat.reduceMul, Nat.reduceSub, Int.reduceToNat, Int.reduceNeg, List.set_cons_zero, List.set_cons_succ, List.length_cons, List.length_nil, List.flatMap_cons, List.flatMap_nil, cellN, topN, nestN, sB, List.getD_cons_zero, List.append_nil, List.nil_append, List.cons_append]
  repeat' (first
    | (refine RgK.mk rfl ?_; simp -dsimp only [go_sem, reduceIte, reduceCtorEq, Nat.reduceEqDiff, Nat.reduceLT, Nat.reduceLeDiff, Nat.reduceAdd, Nat.reduceMul, Nat.reduceSub, Int.reduceToNat, Int.reduceNeg, List.set_cons_zero, List.set_cons_succ, List.length_cons, List.length_nil, List.flatMap_cons, List.flatMap_nil, cellN, topN, nestN, sB, List.getD_cons_zero, List.append_nil, List.nil_append, List.cons_append])
    | (refine Br.mk (fun h => ?_) (fun h => ?_) <;> simp -dsimp only [go_sem, reduceIte, reduceCtorEq, Nat.reduceEqDiff, Nat.reduceLT, Nat.reduceLeDiff, Nat.reduceAdd, Nat.reduceMul, Nat.reduceSub, Int.reduceToNat, Int.reduceNeg, h, List.set_cons_zero, List.set_cons_succ, List.length_cons, List.length_nil, List.flatMap_cons, List.flatMap_nil, cellN, topN, nestN, sB, List.getD_cons_zero, List.append_nil, List.nil_append, List.cons_append])
    | (refine CallK.bor (by first | exact N1) rfl ?_; simp -dsimp only [go_sem, reduceIte, reduceCtorEq, Nat.reduceEqDiff, Nat.reduceLT, Nat.reduceLeDiff, Nat.reduceAdd, Nat.reduceMul, Nat.reduceSub, Int.reduceToNat, Int.reduceNeg, List.set_cons_zero, List.set_cons_succ, List.length_cons, List.length_nil, List.flatMap_cons, List.flatMap_nil, cellN, topN, nestN, sB, List.getD_cons_zero, List.append_nil, List.nil_append, List.cons_append])
    | (refine And.intro (by first | rfl | omega | decide | (refine ⟨?_, ?_⟩ <;> (first | rfl | omega | decide)) | (refine ⟨?_, ?_, ?_⟩ <;> (first | rfl | omega | decide)) | (refine ⟨?_, ?_, ?_, ?_⟩ <;> (first | rfl | omega | decide))) ?_; try simp -dsimp only [go_sem, reduceIte, reduceCtorEq, Nat.reduceEqDiff, Nat.reduceLT, Nat.reduceLeDiff, Nat.reduceAdd, Nat.reduceMul, Nat.reduceSub, Int.reduceToNat, Int.reduceNeg, List.set_cons_zero, List.set_cons_succ, List.length_cons, List.length_nil, List.flatMap_cons, List.flatMap_nil, cellN, topN, nestN, sB, List.getD_cons_zero, List.append_nil, List.nil_append, List.cons_append])
    | fail)
  all_goals exact ⟨_, _, rfl, rfl⟩
theorem among (l : List Int) (x : Sr) (hl : byt l) (m : List Int) (hp : x.p ≤ 3990) (h0 : m ≠ []) (hm : m.length ≤ 1000) : Vs.Fn Tryd.prog F.__spec_l00Src__among [sB l x] [.ptr (.b 0) 0 0, .sl 1 (E cI m)] (.v (.int .i64 (m.getD (pkV l x (m.length : Nat)).toNat 0))) [some (sB l (pkS l x (m.length : Nat)))] := by
  have N1 := pick l x hl (m.length : Nat) hp
  have hpos : 0 < m.length := List.length_pos_iff.2 h0
  have hb := pkV_in hl x (n := (m.length : Nat)) (by omega)
  have g1 : (E cI m).getD (pkV l x (m.length : Nat)).toNat [] = [.v (.int .i64 (m.getD (pkV l x (m.length : Nat)).toNat 0))] := by
    have hlt : (pkV l x (m.length : Nat)).toNat < m.length := by omega
    rw [E_get hlt]; simp [cI, List.getD, hlt]
  generalize pkV l x (m.length : Nat) = v at *
  refine Cd.__spec_l00Src__among_ok.fn Tryd.mixed (hin := [sB l x]) _ _ [.b 0] [sB l (pkS l x (m.length : Nat))] Cd.__spec_l00Src__among_nt Cd.__spec_l00Src__among_rs rfl (by simp) rfl (by simp) fun X => ?_
  unfold Cd.__spec_l00Src__among
  simp -dsimp only [go_sem, reduceIte, reduceCtorEq, Nat.reduceEqDiff, Nat.reduceLT, Nat.reduceLeDiff, Nat.reduceAdd, Nat.reduceMul, Nat.reduceSub, Int.reduceToNat, Int.reduceNeg, E_len, g1, List.set_cons_zero, List.set_cons_succ, List.length_cons, List.length_nil, List.flatMap_cons, List.flatMap_nil, cellN, topN, nestN, sB, List.getD_cons_zero, List.append_nil, List.nil_append, List.cons_append]
  repeat' (first
    | (refine RgK.mk rfl ?_; simp -dsimp only [go_sem, reduceIte, reduceCtorEq, Nat.reduceEqDiff, Nat.reduceLT, Nat.reduceLeDiff, Nat.reduceAdd, Nat.reduceMul, Nat.reduceSub, Int.reduceToNat, Int.reduceNeg, E_len, g1, List.set_cons_zero, List.set_cons_succ, List.length_cons, List.length_nil, List.flatMap_cons, List.flatMap_nil, cellN, topN, nestN, sB, List.getD_cons_zero, List.append_nil, List.nil_append, List.cons_append])
    | (refine Br.mk (fun h => ?_) (fun h => ?_) <;> simp -dsimp only [go_sem, reduceIte, reduceCtorEq, Nat.reduceEqDiff, Nat.reduceLT, Nat.reduceLeDiff, Nat.reduceAdd, Nat.reduceMul, Nat.reduceSub, Int.reduceToNat, Int.reduceNeg, h, E_len, g1, List.set_cons_zero, List.set_cons_succ, List.length_cons, List.length_nil, List.flatMap_cons, List.flatMap_nil, cellN, topN, nestN, sB, List.getD_cons_zero, List.append_nil, List.nil_append, List.cons_append])
    | (refine CallK.bor (by first | exact N1) rfl ?_; simp -dsimp only [go_sem, reduceIte, reduceCtorEq, Nat.reduceEqDiff, Nat.reduceLT, Nat.reduceLeDiff, Nat.reduceAdd, Nat.reduceMul, Nat.reduceSub, Int.reduceToNat, Int.reduceNeg, E_len, g1, List.set_cons_zero, List.set_cons_succ, List.length_cons, List.length_nil, List.flatMap_cons, List.flatMap_nil, cellN, topN, nestN, sB, List.getD_cons_zero, List.append_nil, List.nil_append, List.cons_append])
    | (refine And.intro (by first | rfl | omega | decide | exact ⟨by omega, by omega⟩ | (refine ⟨?_, ?_⟩ <;> (first | rfl | omega | decide | exact ⟨by omega, by omega⟩)) | (refine ⟨?_, ?_, ?_⟩ <;> (first | rfl | omega | decide | exact ⟨by omega, by omega⟩)) | (refine ⟨?_, ?_, ?_, ?_⟩ <;> (first | rfl | omega | decide | exact ⟨by omega, by omega⟩))) ?_; try simp -dsimp only [go_sem, reduceIte, reduceCtorEq, Nat.reduceEqDiff, Nat.reduceLT, Nat.reduceLeDiff, Nat.reduceAdd, Nat.reduceMul, Nat.reduceSub, Int.reduceToNat, Int.reduceNeg, E_len, g1, List.set_cons_zero, List.set_cons_succ, List.length_cons, List.length_nil, List.flatMap_cons, List.flatMap_nil, cellN, topN, nestN, sB, List.getD_cons_zero, List.append_nil, List.nil_append, List.cons_append])
    | fail)
  all_goals exact ⟨_, _, rfl, rfl⟩
end Go.Proofs.YtgeeipfdkamhmaaDoor
