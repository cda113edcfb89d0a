/- What control totals a step leads to: the program and the reference. -/
import Derived.Test.YtgeeipfdkamhmaaGreatDoorXwYb
namespace Go.Proofs.YtgeeipfdkamhmaaGreatDoor
open Go.Vs
set_option linter.unusedSimpArgs false
set_option linter.unusedVariables false
attribute [local irreducible] Vs.Fn
set_option maxHeartbeats 4000000 in
theorem spec_ExpectedControl (o : Off) (x : Stp) (fr to : Int) (ho : smallO o) (hs : x.text.size ≤ 1048576) : Vs.Fn Tryz.prog F.spec_ExpectedControl [] [.agg (cO o), .agg (cS x), .agg (cFd fr to)] (.tup [.agg (cCt (expT fr to o x).1), .v (.int .i64 (expT fr to o x).2)]) [] := by
  by_cases he : exC fr to o = 0
  rotate_left
  · have ez : (exC fr to o != 0) = true := by simp [he]
    have ez2 : (exC fr to o == 0) = false := by simp [he]
    refine Cd.spec_ExpectedControl_ok.fn0 Tryz.mixed Cd.spec_ExpectedControl_nt Cd.spec_ExpectedControl_rs rfl fun X => ?_
    unfold Cd.spec_ExpectedControl
    simp -dsimp only [go_sem, reduceIte, reduceCtorEq, Nat.reduceEqDiff, Nat.reduceLT, Nat.reduceLeDiff, Nat.reduceAdd, Nat.reduceMul, Nat.reduceSub, Int.reduceToNat, Int.reduceNeg, cFd, cO, cS]
    repeat' (first
      | (refine RgK.mk rfl ?_; simp -dsimp only [go_sem, reduceIte, reduceCtorEq, Nat.reduceEqDiff, Nat.reduceLT, Nat.reduceLeDiff, Nat.reduceAdd, Nat.reduceMul, Nat.reduceSub, Int.reduceToNat, Int.reduceNeg, cFd, cO, cS, ez, ez2])
      | (refine Br.mk (fun h => ?_) (fun h => ?_) <;> simp -dsimp only [go_sem, reduceIte, reduceCtorEq, Nat.reduceEqDiff, Nat.reduceLT, Nat.reduceLeDiff, Nat.reduceAdd, Nat.reduceMul, Nat.reduceSub, Int.reduceToNat, Int.reduceNeg, h, cFd, cO, cS, ez, ez2])
      | (refine CallK.flat (by first | exact l18Code fr to o ho | exact l15Width o ho) rfl ?_; simp -dsimp only [go_sem, reduceIte, reduceCtorEq, Nat.reduceEqDiff, Nat.reduceLT, Nat.reduceLeDiff, Nat.reduceAdd, Nat.reduceMul, Nat.reduceSub, Int.reduceToNat, Int.reduceNeg, cFd, cO, cS, ez, ez2])
      | (refine CallK.pure (by first | exact l18Code fr to o ho | exact l15Width o ho) ?_; simp -dsimp only [go_sem, reduceIte, reduceCtorEq, Nat.reduceEqDiff, Nat.reduceLT, Nat.reduceLeDiff, Nat.reduceAdd, Nat.reduceMul, Nat.reduceSub, Int.reduceToNat, Int.reduceNeg, cFd, cO, cS, ez, ez2])
      | (refine And.intro (by first | rfl | omega | decide | (refine ⟨?_, ?_⟩ <;> (first | rfl | omega | decide)) | (refine ⟨?_, ?_, ?_⟩ <;> (first | rfl | omega | decide)) | (refine ⟨?_, ?_, ?_, ?_⟩ <;> (first | rfl | omega | decide))) ?_)
      | fail)
    all_goals simp_all [expT, cCt]
  have ez : (exC fr to o != 0) = false := by simp [he]
  have ez2 : (exC fr to o == 0) = true := by simp [he]
  obtain ⟨hof, hnu⟩ := exC_zero he
  cases hst : stpB x (wO o.trays)
  · refine Cd.spec_ExpectedControl_ok.fn0 Tryz.mixed Cd.spec_ExpectedControl_nt Cd.spec_ExpectedControl_rs rfl fun X => ?_
    unfold Cd.spec_ExpectedControl
    simp -dsimp only [go_sem, reduceIte, reduceCtorEq, Nat.reduceEqDiff, Nat.reduceLT, Nat.reduceLeDiff, Nat.reduceAdd, Nat.reduceMul, Nat.reduceSub, Int.reduceToNat, Int.reduceNeg, cFd, cO, cS, he, ez, ez2]
    repeat' (first
      | (refine RgK.mk rfl ?_; simp -dsimp only [go_sem, reduceIte, reduceCtorEq, Nat.reduceEqDiff, Nat.reduceLT, Nat.reduceLeDiff, Nat.reduceAdd, Nat.reduceMul, Nat.reduceSub, Int.reduceToNat, Int.reduceNeg, cFd, cO, cS, he, ez, ez2, hst])
      | (refine Br.mk (fun h => ?_) (fun h => ?_) <;> simp -dsimp only [go_sem, reduceIte, reduceCtorEq, Nat.reduceEqDiff, Nat.reduceLT, Nat.reduceLeDiff, Nat.reduceAdd, Nat.reduceMul, Nat.reduceSub, Int.reduceToNat, Int.reduceNeg, h, cFd, cO, cS, he, ez, ez2, hst])
      | (refine CallK.flat (by first | exact l18Code fr to o ho | exact l15Width o ho | exact l15Step x _ hs) rfl ?_; simp -dsimp only [go_sem, reduceIte, reduceCtorEq, Nat.reduceEqDiff, Nat.reduceLT, Nat.reduceLeDiff, Nat.reduceAdd, Nat.reduceMul, Nat.reduceSub, Int.reduceToNat, Int.reduceNeg, cFd, cO, cS, he, ez, ez2, hst])
      | (refine CallK.pure (by first | exact l18Code fr to o ho | exact l15Width o ho | exact l15Step x _ hs) ?_; simp -dsimp only [go_sem, reduceIte, reduceCtorEq, Nat.reduceEqDiff, Nat.reduceLT, Nat.reduceLeDiff, Nat.reduceAdd, Nat.reduceMul, Nat.reduceSub, Int.reduceToNat, Int.reduceNeg, cFd, cO, cS, he, ez, ez2, hst])
      | (refine And.intro (by first | rfl | omega | decide | (refine ⟨?_, ?_⟩ <;> (first | rfl | omega | decide)) | (refine ⟨?_, ?_, ?_⟩ <;> (first | rfl | omega | decide)) | (refine ⟨?_, ?_, ?_, ?_⟩ <;> (first | rfl | omega | decide))) ?_)
      | fail)
    all_goals simp_all [expT, cCt]
  obtain ⟨ha, hb⟩ := stpB_ab hst
  have hw20 := off_wO hof
  obtain ⟨hla, hra⟩ := tr_row hof ha
  obtain ⟨hlb, hrb⟩ := tr_row hof hb
  have hsa : smallC (trD o x.a) := ho.1.2 _ (by unfold trD; rw [getD_lt (by omega)]; exact List.getElem_mem _)
  have hsb : smallC (trD o x.b) := ho.1.2 _ (by unfold trD; rw [getD_lt (by omega)]; exact List.getElem_mem _)
  have hka : ∀ c, c ∈ trD o x.a → okP fr to c := off_okP hof hnu (by omega)
  have hkb : ∀ c, c ∈ trD o x.b → okP fr to c := off_okP hof hnu (by omega)
  have hda : deckB (trD o x.a) = true := off_deck hof (by omega)
  have hdb : deckB (trD o x.b) = true := off_deck hof (by omega)
  have qa := ctlT_le hka (deck_len hda)
  have qb := ctlT_le hkb (deck_len hdb)
  have hj := joinR_plain qa qb
  have p1 : IntKind.i64.wrap ((ctlT fr to (trD o x.a)).1 + IntKind.i64.wrap (1 * (ctlT fr to (trD o x.b)).1)) = (ctlT fr to (trD o x.a)).1 + (ctlT fr to (trD o x.b)).1 := plus_plain (k := 40) (by omega) (by omega) (by omega)
  have p2 : IntKind.i64.wrap ((ctlT fr to (trD o x.a)).2.1 + IntKind.i64.wrap (1 * (ctlT fr to (trD o x.b)).2.1)) = (ctlT fr to (trD o x.a)).2.1 + (ctlT fr to (trD o x.b)).2.1 := plus_plain (k := 40000000000000) (by omega) (by omega) (by omega)
  have p3 : IntKind.i64.wrap ((ctlT fr to (trD o x.a)).2.2 + IntKind.i64.wrap (1 * (ctlT fr to (trD o x.b)).2.2)) = (ctlT fr to (trD o x.a)).2.2 + (ctlT fr to (trD o x.b)).2.2 := plus_plain (k := 4680) (by omega) (by omega) (by omega)
  by_cases k1 : x.kind = 1
  · have b1 : (x.kind == 1) = true := by simp [k1]
    have b2 : (x.kind == 2) = false := by simp [k1]
    cases hca : ctlB fr to (trD o x.a)
    · refine Cd.spec_ExpectedControl_ok.fn0 Tryz.mixed Cd.spec_ExpectedControl_nt Cd.spec_ExpectedControl_rs rfl fun X => ?_
      unfold Cd.spec_ExpectedControl
      simp -dsimp only [go_sem, reduceIte, reduceCtorEq, Nat.reduceEqDiff, Nat.reduceLT, Nat.reduceLeDiff, Nat.reduceAdd, Nat.reduceMul, Nat.reduceSub, Int.reduceToNat, Int.reduceNeg, cFd, cO, cS, cCt, hw20, he, ez, ez2, hst, hra, hrb, cD, p1, p2, p3, hj, b1, b2]
      repeat' (first
        | (refine RgK.mk rfl ?_; simp -dsimp only [go_sem, reduceIte, reduceCtorEq, Nat.reduceEqDiff, Nat.reduceLT, Nat.reduceLeDiff, Nat.reduceAdd, Nat.reduceMul, Nat.reduceSub, Int.reduceToNat, Int.reduceNeg, cFd, cO, cS, cCt, hw20, he, ez, ez2, hst, hra, hrb, cD, p1, p2, p3, hj, b1, b2, hca])
        | (refine Br.mk (fun h => ?_) (fun h => ?_) <;> simp -dsimp only [go_sem, reduceIte, reduceCtorEq, Nat.reduceEqDiff, Nat.reduceLT, Nat.reduceLeDiff, Nat.reduceAdd, Nat.reduceMul, Nat.reduceSub, Int.reduceToNat, Int.reduceNeg, h, cFd, cO, cS, cCt, hw20, he, ez, ez2, hst, hra, hrb, cD, p1, p2, p3, hj, b1, b2, hca])
        | (refine CallK.flat (by first | exact l18Code fr to o ho | exact l15Width o ho | exact l15Step x _ hs | exact spec_KeepsControl _ | exact l18Of _ fr to hsa.1 hka | exact l18Of _ fr to hsb.1 hkb | exact spec_Add _ _ _ _ _ _) rfl ?_; simp -dsimp only [go_sem, reduceIte, reduceCtorEq, Nat.reduceEqDiff, Nat.reduceLT, Nat.reduceLeDiff, Nat.reduceAdd, Nat.reduceMul, Nat.reduceSub, Int.reduceToNat, Int.reduceNeg, cFd, cO, cS, cCt, hw20, he, ez, ez2, hst, hra, hrb, cD, p1, p2, p3, hj, b1, b2, hca])
        | (refine CallK.pure (by first | exact l18Code fr to o ho | exact l15Width o ho | exact l15Step x _ hs | exact spec_KeepsControl _ | exact l18Of _ fr to hsa.1 hka | exact l18Of _ fr to hsb.1 hkb | exact spec_Add _ _ _ _ _ _) ?_; simp -dsimp only [go_sem, reduceIte, reduceCtorEq, Nat.reduceEqDiff, Nat.reduceLT, Nat.reduceLeDiff, Nat.reduceAdd, Nat.reduceMul, Nat.reduceSub, Int.reduceToNat, Int.reduceNeg, cFd, cO, cS, cCt, hw20, he, ez, ez2, hst, hra, hrb, cD, p1, p2, p3, hj, b1, b2, hca])
        | (refine And.intro (by first | rfl | omega | decide | exact hla | exact hlb | (refine ⟨?_, ?_⟩ <;> (first | rfl | omega | decide | exact hla | exact hlb)) | (refine ⟨?_, ?_, ?_⟩ <;> (first | rfl | omega | decide | exact hla | exact hlb)) | (refine ⟨?_, ?_, ?_, ?_⟩ <;> (first | rfl | omega | decide | exact hla | exact hlb))) ?_)
        | fail)
      all_goals simp_all [expT, cCt]
    · refine Cd.spec_ExpectedControl_ok.fn0 Tryz.mixed Cd.spec_ExpectedControl_nt Cd.spec_ExpectedControl_rs rfl fun X => ?_
      unfold Cd.spec_ExpectedControl
      simp -dsimp only [go_sem, reduceIte, reduceCtorEq, Nat.reduceEqDiff, Nat.reduceLT, Nat.reduceLeDiff, Nat.reduceAdd, Nat.reduceMul, Nat.reduceSub, Int.reduceToNat, Int.reduceNeg, cFd, cO, cS, cCt, hw20, he, ez, ez2, hst, hra, hrb, cD, p1, p2, p3, hj, b1, b2]
      repeat' (first
        | (refine RgK.mk rfl ?_; simp -dsimp only [go_sem, reduceIte, reduceCtorEq, Nat.reduceEqDiff, Nat.reduceLT, Nat.reduceLeDiff, Nat.reduceAdd, Nat.reduceMul, Nat.reduceSub, Int.reduceToNat, Int.reduceNeg, cFd, cO, cS, cCt, hw20, he, ez, ez2, hst, hra, hrb, cD, p1, p2, p3, hj, b1, b2, hca])
        | (refine Br.mk (fun h => ?_) (fun h => ?_) <;> simp -dsimp only [go_sem, reduceIte, reduceCtorEq, Nat.reduceEqDiff, Nat.reduceLT, Nat.reduceLeDiff, Nat.reduceAdd, Nat.reduceMul, Nat.reduceSub, Int.reduceToNat, Int.reduceNeg, h, cFd, cO, cS, cCt, hw20, he, ez, ez2, hst, hra, hrb, cD, p1, p2, p3, hj, b1, b2, hca])
        | (refine CallK.flat (by first | exact l18Code fr to o ho | exact l15Width o ho | exact l15Step x _ hs | exact spec_KeepsControl _ | exact l18Of _ fr to hsa.1 hka | exact l18Of _ fr to hsb.1 hkb | exact spec_Add _ _ _ _ _ _) rfl ?_; simp -dsimp only [go_sem, reduceIte, reduceCtorEq, Nat.reduceEqDiff, Nat.reduceLT, Nat.reduceLeDiff, Nat.reduceAdd, Nat.reduceMul, Nat.reduceSub, Int.reduceToNat, Int.reduceNeg, cFd, cO, cS, cCt, hw20, he, ez, ez2, hst, hra, hrb, cD, p1, p2, p3, hj, b1, b2, hca])
        | (refine CallK.pure (by first | exact l18Code fr to o ho | exact l15Width o ho | exact l15Step x _ hs | exact spec_KeepsControl _ | exact l18Of _ fr to hsa.1 hka | exact l18Of _ fr to hsb.1 hkb | exact spec_Add _ _ _ _ _ _) ?_; simp -dsimp only [go_sem, reduceIte, reduceCtorEq, Nat.reduceEqDiff, Nat.reduceLT, Nat.reduceLeDiff, Nat.reduceAdd, Nat.reduceMul, Nat.reduceSub, Int.reduceToNat, Int.reduceNeg, cFd, cO, cS, cCt, hw20, he, ez, ez2, hst, hra, hrb, cD, p1, p2, p3, hj, b1, b2, hca])
        | (refine And.intro (by first | rfl | omega | decide | exact hla | exact hlb | (refine ⟨?_, ?_⟩ <;> (first | rfl | omega | decide | exact hla | exact hlb)) | (refine ⟨?_, ?_, ?_⟩ <;> (first | rfl | omega | decide | exact hla | exact hlb)) | (refine ⟨?_, ?_, ?_, ?_⟩ <;> (first | rfl | omega | decide | exact hla | exact hlb))) ?_)
        | fail)
      all_goals simp_all [expT, cCt]
  have b1 : (x.kind == 1) = false := by simp [k1]
  by_cases k2 : x.kind = 2
  · have b2 : (x.kind == 2) = true := by simp [k2]
    cases hca : ctlB fr to (trD o x.a) <;> cases hcb : ctlB fr to (trD o x.b)
    · refine Cd.spec_ExpectedControl_ok.fn0 Tryz.mixed Cd.spec_ExpectedControl_nt Cd.spec_ExpectedControl_rs rfl fun X => ?_
      unfold Cd.spec_ExpectedControl
      simp -dsimp only [go_sem, reduceIte, reduceCtorEq, Nat.reduceEqDiff, Nat.reduceLT, Nat.reduceLeDiff, Nat.reduceAdd, Nat.reduceMul, Nat.reduceSub, Int.reduceToNat, Int.reduceNeg, cFd, cO, cS, cCt, hw20, he, ez, ez2, hst, hra, hrb, cD, p1, p2, p3, hj, b1, b2]
      repeat' (first
        | (refine RgK.mk rfl ?_; simp -dsimp only [go_sem, reduceIte, reduceCtorEq, Nat.reduceEqDiff, Nat.reduceLT, Nat.reduceLeDiff, Nat.reduceAdd, Nat.reduceMul, Nat.reduceSub, Int.reduceToNat, Int.reduceNeg, cFd, cO, cS, cCt, hw20, he, ez, ez2, hst, hra, hrb, cD, p1, p2, p3, hj, b1, b2, hca, hcb])
        | (refine Br.mk (fun h => ?_) (fun h => ?_) <;> simp -dsimp only [go_sem, reduceIte, reduceCtorEq, Nat.reduceEqDiff, Nat.reduceLT, Nat.reduceLeDiff, Nat.reduceAdd, Nat.reduceMul, Nat.reduceSub, Int.reduceToNat, Int.reduceNeg, h, cFd, cO, cS, cCt, hw20, he, ez, ez2, hst, hra, hrb, cD, p1, p2, p3, hj, b1, b2, hca, hcb])
        | (refine CallK.flat (by first | exact l18Code fr to o ho | exact l15Width o ho | exact l15Step x _ hs | exact spec_KeepsControl _ | exact l18Of _ fr to hsa.1 hka | exact l18Of _ fr to hsb.1 hkb | exact spec_Add _ _ _ _ _ _) rfl ?_; simp -dsimp only [go_sem, reduceIte, reduceCtorEq, Nat.reduceEqDiff, Nat.reduceLT, Nat.reduceLeDiff, Nat.reduceAdd, Nat.reduceMul, Nat.reduceSub, Int.reduceToNat, Int.reduceNeg, cFd, cO, cS, cCt, hw20, he, ez, ez2, hst, hra, hrb, cD, p1, p2, p3, hj, b1, b2, hca, hcb])
        | (refine CallK.pure (by first | exact l18Code fr to o ho | exact l15Width o ho | exact l15Step x _ hs | exact spec_KeepsControl _ | exact l18Of _ fr to hsa.1 hka | exact l18Of _ fr to hsb.1 hkb | exact spec_Add _ _ _ _ _ _) ?_; simp -dsimp only [go_sem, reduceIte, reduceCtorEq, Nat.reduceEqDiff, Nat.reduceLT, Nat.reduceLeDiff, Nat.reduceAdd, Nat.reduceMul, Nat.reduceSub, Int.reduceToNat, Int.reduceNeg, cFd, cO, cS, cCt, hw20, he, ez, ez2, hst, hra, hrb, cD, p1, p2, p3, hj, b1, b2, hca, hcb])
        | (refine And.intro (by first | rfl | omega | decide | exact hla | exact hlb | (refine ⟨?_, ?_⟩ <;> (first | rfl | omega | decide | exact hla | exact hlb)) | (refine ⟨?_, ?_, ?_⟩ <;> (first | rfl | omega | decide | exact hla | exact hlb)) | (refine ⟨?_, ?_, ?_, ?_⟩ <;> (first | rfl | omega | decide | exact hla | exact hlb))) ?_)
        | fail)
      all_goals simp_all [expT, cCt, plC]
    · refine Cd.spec_ExpectedControl_ok.fn0 Tryz.mixed Cd.spec_ExpectedControl_nt Cd.spec_ExpectedControl_rs rfl fun X => ?_
      unfold Cd.spec_ExpectedControl
      simp -dsimp only [go_sem, reduceIte, reduceCtorEq, Nat.reduceEqDiff, Nat.reduceLT, Nat.reduceLeDiff, Nat.reduceAdd, Nat.reduceMul, Nat.reduceSub, Int.reduceToNat, Int.reduceNeg, cFd, cO, cS, cCt, hw20, he, ez, ez2, hst, hra, hrb, cD, p1, p2, p3, hj, b1, b2]
      repeat' (first
        | (refine RgK.mk rfl ?_; simp -dsimp only [go_sem, reduceIte, reduceCtorEq, Nat.reduceEqDiff, Nat.reduceLT, Nat.reduceLeDiff, Nat.reduceAdd, Nat.reduceMul, Nat.reduceSub, Int.reduceToNat, Int.reduceNeg, cFd, cO, cS, cCt, hw20, he, ez, ez2, hst, hra, hrb, cD, p1, p2, p3, hj, b1, b2, hca, hcb])
        | (refine Br.mk (fun h => ?_) (fun h => ?_) <;> simp -dsimp only [go_sem, reduceIte, reduceCtorEq, Nat.reduceEqDiff, Nat.reduceLT, Nat.reduceLeDiff, Nat.reduceAdd, Nat.reduceMul, Nat.reduceSub, Int.reduceToNat, Int.reduceNeg, h, cFd, cO, cS, cCt, hw20, he, ez, ez2, hst, hra, hrb, cD, p1, p2, p3, hj, b1, b2, hca, hcb])
        | (refine CallK.flat (by first | exact l18Code fr to o ho | exact l15Width o ho | exact l15Step x _ hs | exact spec_KeepsControl _ | exact l18Of _ fr to hsa.1 hka | exact l18Of _ fr to hsb.1 hkb | exact spec_Add _ _ _ _ _ _) rfl ?_; simp -dsimp only [go_sem, reduceIte, reduceCtorEq, Nat.reduceEqDiff, Nat.reduceLT, Nat.reduceLeDiff, Nat.reduceAdd, Nat.reduceMul, Nat.reduceSub, Int.reduceToNat, Int.reduceNeg, cFd, cO, cS, cCt, hw20, he, ez, ez2, hst, hra, hrb, cD, p1, p2, p3, hj, b1, b2, hca, hcb])
        | (refine CallK.pure (by first | exact l18Code fr to o ho | exact l15Width o ho | exact l15Step x _ hs | exact spec_KeepsControl _ | exact l18Of _ fr to hsa.1 hka | exact l18Of _ fr to hsb.1 hkb | exact spec_Add _ _ _ _ _ _) ?_; simp -dsimp only [go_sem, reduceIte, reduceCtorEq, Nat.reduceEqDiff, Nat.reduceLT, Nat.reduceLeDiff, Nat.reduceAdd, Nat.reduceMul, Nat.reduceSub, Int.reduceToNat, Int.reduceNeg, cFd, cO, cS, cCt, hw20, he, ez, ez2, hst, hra, hrb, cD, p1, p2, p3, hj, b1, b2, hca, hcb])
        | (refine And.intro (by first | rfl | omega | decide | exact hla | exact hlb | (refine ⟨?_, ?_⟩ <;> (first | rfl | omega | decide | exact hla | exact hlb)) | (refine ⟨?_, ?_, ?_⟩ <;> (first | rfl | omega | decide | exact hla | exact hlb)) | (refine ⟨?_, ?_, ?_, ?_⟩ <;> (first | rfl | omega | decide | exact hla | exact hlb))) ?_)
        | fail)
      all_goals simp_all [expT, cCt, plC]
    · refine Cd.spec_ExpectedControl_ok.fn0 Tryz.mixed Cd.spec_ExpectedControl_nt Cd.spec_ExpectedControl_rs rfl fun X => ?_
      unfold Cd.spec_ExpectedControl
      simp -dsimp only [go_sem, reduceIte, reduceCtorEq, Nat.reduceEqDiff, Nat.reduceLT, Nat.reduceLeDiff, Nat.reduceAdd, Nat.reduceMul, Nat.reduceSub, Int.reduceToNat, Int.reduceNeg, cFd, cO, cS, cCt, hw20, he, ez, ez2, hst, hra, hrb, cD, p1, p2, p3, hj, b1, b2]
      repeat' (first
        | (refine RgK.mk rfl ?_; simp -dsimp only [go_sem, reduceIte, reduceCtorEq, Nat.reduceEqDiff, Nat.reduceLT, Nat.reduceLeDiff, Nat.reduceAdd, Nat.reduceMul, Nat.reduceSub, Int.reduceToNat, Int.reduceNeg, cFd, cO, cS, cCt, hw20, he, ez, ez2, hst, hra, hrb, cD, p1, p2, p3, hj, b1, b2, hca, hcb])
        | (refine Br.mk (fun h => ?_) (fun h => ?_) <;> simp -dsimp only [go_sem, reduceIte, reduceCtorEq, Nat.reduceEqDiff, Nat.reduceLT, Nat.reduceLeDiff, Nat.reduceAdd, Nat.reduceMul, Nat.reduceSub, Int.reduceToNat, Int.reduceNeg, h, cFd, cO, cS, cCt, hw20, he, ez, ez2, hst, hra, hrb, cD, p1, p2, p3, hj, b1, b2, hca, hcb])
        | (refine CallK.flat (by first | exact l18Code fr to o ho | exact l15Width o ho | exact l15Step x _ hs | exact spec_KeepsControl _ | exact l18Of _ fr to hsa.1 hka | exact l18Of _ fr to hsb.1 hkb | exact spec_Add _ _ _ _ _ _) rfl ?_; simp -dsimp only [go_sem, reduceIte, reduceCtorEq, Nat.reduceEqDiff, Nat.reduceLT, Nat.reduceLeDiff, Nat.reduceAdd, Nat.reduceMul, Nat.reduceSub, Int.reduceToNat, Int.reduceNeg, cFd, cO, cS, cCt, hw20, he, ez, ez2, hst, hra, hrb, cD, p1, p2, p3, hj, b1, b2, hca, hcb])
        | (refine CallK.pure (by first | exact l18Code fr to o ho | exact l15Width o ho | exact l15Step x _ hs | exact spec_KeepsControl _ | exact l18Of _ fr to hsa.1 hka | exact l18Of _ fr to hsb.1 hkb | exact spec_Add _ _ _ _ _ _) ?_; simp -dsimp only [go_sem, reduceIte, reduceCtorEq, Nat.reduceEqDiff, Nat.reduceLT, Nat.reduceLeDiff, Nat.reduceAdd, Nat.reduceMul, Nat.reduceSub, Int.reduceToNat, Int.reduceNeg, cFd, cO, cS, cCt, hw20, he, ez, ez2, hst, hra, hrb, cD, p1, p2, p3, hj, b1, b2, hca, hcb])
        | (refine And.intro (by first | rfl | omega | decide | exact hla | exact hlb | (refine ⟨?_, ?_⟩ <;> (first | rfl | omega | decide | exact hla | exact hlb)) | (refine ⟨?_, ?_, ?_⟩ <;> (first | rfl | omega | decide | exact hla | exact hlb)) | (refine ⟨?_, ?_, ?_, ?_⟩ <;> (first | rfl | omega | decide | exact hla | exact hlb))) ?_)
        | fail)
      all_goals simp_all [expT, cCt, plC]
    · refine Cd.spec_ExpectedControl_ok.fn0 Tryz.mixed Cd.spec_ExpectedControl_nt Cd.spec_ExpectedControl_rs rfl fun X => ?_
      unfold Cd.spec_ExpectedControl
      simp -dsimp only [go_sem, reduceIte, reduceCtorEq, Nat.reduceEqDiff, Nat.reduceLT, Nat.reduceLeDiff, Nat.reduceAdd, Nat.reduceMul, Nat.reduceSub, Int.reduceToNat, Int.reduceNeg, cFd, cO, cS, cCt, hw20, he, ez, ez2, hst, hra, hrb, cD, p1, p2, p3, hj, b1, b2]
      repeat' (first
        | (refine RgK.mk rfl ?_; simp -dsimp only [go_sem, reduceIte, reduceCtorEq, Nat.reduceEqDiff, Nat.reduceLT, Nat.reduceLeDiff, Nat.reduceAdd, Nat.reduceMul, Nat.reduceSub, Int.reduceToNat, Int.reduceNeg, cFd, cO, cS, cCt, hw20, he, ez, ez2, hst, hra, hrb, cD, p1, p2, p3, hj, b1, b2, hca, hcb])
        | (refine Br.mk (fun h => ?_) (fun h => ?_) <;> simp -dsimp only [go_sem, reduceIte, reduceCtorEq, Nat.reduceEqDiff, Nat.reduceLT, Nat.reduceLeDiff, Nat.reduceAdd, Nat.reduceMul, Nat.reduceSub, Int.reduceToNat, Int.reduceNeg, h, cFd, cO, cS, cCt, hw20, he, ez, ez2, hst, hra, hrb, cD, p1, p2, p3, hj, b1, b2, hca, hcb])
        | (refine CallK.flat (by first | exact l18Code fr to o ho | exact l15Width o ho | exact l15Step x _ hs | exact spec_KeepsControl _ | exact l18Of _ fr to hsa.1 hka | exact l18Of _ fr to hsb.1 hkb | exact spec_Add _ _ _ _ _ _) rfl ?_; simp -dsimp only [go_sem, reduceIte, reduceCtorEq, Nat.reduceEqDiff, Nat.reduceLT, Nat.reduceLeDiff, Nat.reduceAdd, Nat.reduceMul, Nat.reduceSub, Int.reduceToNat, Int.reduceNeg, cFd, cO, cS, cCt, hw20, he, ez, ez2, hst, hra, hrb, cD, p1, p2, p3, hj, b1, b2, hca, hcb])
        | (refine CallK.pure (by first | exact l18Code fr to o ho | exact l15Width o ho | exact l15Step x _ hs | exact spec_KeepsControl _ | exact l18Of _ fr to hsa.1 hka | exact l18Of _ fr to hsb.1 hkb | exact spec_Add _ _ _ _ _ _) ?_; simp -dsimp only [go_sem, reduceIte, reduceCtorEq, Nat.reduceEqDiff, Nat.reduceLT, Nat.reduceLeDiff, Nat.reduceAdd, Nat.reduceMul, Nat.reduceSub, Int.reduceToNat, Int.reduceNeg, cFd, cO, cS, cCt, hw20, he, ez, ez2, hst, hra, hrb, cD, p1, p2, p3, hj, b1, b2, hca, hcb])
        | (refine And.intro (by first | rfl | omega | decide | exact hla | exact hlb | (refine ⟨?_, ?_⟩ <;> (first | rfl | omega | decide | exact hla | exact hlb)) | (refine ⟨?_, ?_, ?_⟩ <;> (first | rfl | omega | decide | exact hla | exact hlb)) | (refine ⟨?_, ?_, ?_, ?_⟩ <;> (first | rfl | omega | decide | exact hla | exact hlb))) ?_)
        | fail)
      all_goals simp_all [expT, cCt, plC]
  have b2 : (x.kind == 2) = false := by simp [k2]
  refine Cd.spec_ExpectedControl_ok.fn0 Tryz.mixed Cd.spec_ExpectedControl_nt Cd.spec_ExpectedControl_rs rfl fun X => ?_
  unfold Cd.spec_ExpectedControl
  simp -dsimp only [go_sem, reduceIte, reduceCtorEq, Nat.reduceEqDiff, Nat.reduceLT, Nat.reduceLeDiff, Nat.reduceAdd, Nat.reduceMul, Nat.reduceSub, Int.reduceToNat, Int.reduceNeg, cFd, cO, cS, cCt, hw20, he, ez, ez2, hst, hra, hrb, cD, p1, p2, p3, hj, b1, b2]
  repeat' (first
    | (refine RgK.mk rfl ?_; simp -dsimp only [go_sem, reduceIte, reduceCtorEq, Nat.reduceEqDiff, Nat.reduceLT, Nat.reduceLeDiff, Nat.reduceAdd, Nat.reduceMul, Nat.reduceSub, Int.reduceToNat, Int.reduceNeg, cFd, cO, cS, cCt, hw20, he, ez, ez2, hst, hra, hrb, cD, p1, p2, p3, hj, b1, b2])
    | (refine Br.mk (fun h => ?_) (fun h => ?_) <;> simp -dsimp only [go_sem, reduceIte, reduceCtorEq, Nat.reduceEqDiff, Nat.reduceLT, Nat.reduceLeDiff, Nat.reduceAdd, Nat.reduceMul, Nat.reduceSub, Int.reduceToNat, Int.reduceNeg, h, cFd, cO, cS, cCt, hw20, he, ez, ez2, hst, hra, hrb, cD, p1, p2, p3, hj, b1, b2])
    | (refine CallK.flat (by first | exact l18Code fr to o ho | exact l15Width o ho | exact l15Step x _ hs | exact spec_KeepsControl _) rfl ?_; simp -dsimp only [go_sem, reduceIte, reduceCtorEq, Nat.reduceEqDiff, Nat.reduceLT, Nat.reduceLeDiff, Nat.reduceAdd, Nat.reduceMul, Nat.reduceSub, Int.reduceToNat, Int.reduceNeg, cFd, cO, cS, cCt, hw20, he, ez, ez2, hst, hra, hrb, cD, p1, p2, p3, hj, b1, b2])
    | (refine CallK.pure (by first | exact l18Code fr to o ho | exact l15Width o ho | exact l15Step x _ hs | exact spec_KeepsControl _) ?_; simp -dsimp only [go_sem, reduceIte, reduceCtorEq, Nat.reduceEqDiff, Nat.reduceLT, Nat.reduceLeDiff, Nat.reduceAdd, Nat.reduceMul, Nat.reduceSub, Int.reduceToNat, Int.reduceNeg, cFd, cO, cS, cCt, hw20, he, ez, ez2, hst, hra, hrb, cD, p1, p2, p3, hj, b1, b2])
    | (refine And.intro (by first | rfl | omega | decide | exact hla | exact hlb | (refine ⟨?_, ?_⟩ <;> (first | rfl | omega | decide | exact hla | exact hlb)) | (refine ⟨?_, ?_, ?_⟩ <;> (first | rfl | omega | decide | exact hla | exact hlb)) | (refine ⟨?_, ?_, ?_, ?_⟩ <;> (first | rfl | omega | decide | exact hla | exact hlb))) ?_)
    | fail)
  all_goals simp_all [expT, cCt]
set_option maxHeartbeats 4000000 in
theorem impl_ExpectedControl (o : Off) (x : Stp) (fr to : Int) (ho : smallO o) (hs : x.text.size ≤ 1048576) : Vs.Fn Tryz.prog F.impl_ExpectedControl [] [.agg (cO o), .agg (cS x), .agg (cFd fr to)] (.tup [.agg (cCt (expT fr to o x).1), .v (.int .i64 (expT fr to o x).2)]) [] := by
  by_cases he : exC fr to o = 0
  rotate_left
  · have ez : (exC fr to o != 0) = true := by simp [he]
    have ez2 : (exC fr to o == 0) = false := by simp [he]
    refine Cd.impl_ExpectedControl_ok.fn0 Tryz.mixed Cd.impl_ExpectedControl_nt Cd.impl_ExpectedControl_rs rfl fun X => ?_
    unfold Cd.impl_ExpectedControl
    simp -dsimp only [go_sem, reduceIte, reduceCtorEq, Nat.reduceEqDiff, Nat.reduceLT, Nat.reduceLeDiff, Nat.reduceAdd, Nat.reduceMul, Nat.reduceSub, Int.reduceToNat, Int.reduceNeg, cFd, cO, cS]
    repeat' (first
      | (refine RgK.mk rfl ?_; simp -dsimp only [go_sem, reduceIte, reduceCtorEq, Nat.reduceEqDiff, Nat.reduceLT, Nat.reduceLeDiff, Nat.reduceAdd, Nat.reduceMul, Nat.reduceSub, Int.reduceToNat, Int.reduceNeg, cFd, cO, cS, ez, ez2])
      | (refine Br.mk (fun h => ?_) (fun h => ?_) <;> simp -dsimp only [go_sem, reduceIte, reduceCtorEq, Nat.reduceEqDiff, Nat.reduceLT, Nat.reduceLeDiff, Nat.reduceAdd, Nat.reduceMul, Nat.reduceSub, Int.reduceToNat, Int.reduceNeg, h, cFd, cO, cS, ez, ez2])
      | (refine CallK.flat (by first | exact officeCode0 fr to o ho | exact officeColumns o ho) rfl ?_; simp -dsimp only [go_sem, reduceIte, reduceCtorEq, Nat.reduceEqDiff, Nat.reduceLT, Nat.reduceLeDiff, Nat.reduceAdd, Nat.reduceMul, Nat.reduceSub, Int.reduceToNat, Int.reduceNeg, cFd, cO, cS, ez, ez2])
      | (refine CallK.pure (by first | exact officeCode0 fr to o ho | exact officeColumns o ho) ?_; simp -dsimp only [go_sem, reduceIte, reduceCtorEq, Nat.reduceEqDiff, Nat.reduceLT, Nat.reduceLeDiff, Nat.reduceAdd, Nat.reduceMul, Nat.reduceSub, Int.reduceToNat, Int.reduceNeg, cFd, cO, cS, ez, ez2])
      | (refine And.intro (by first | rfl | omega | decide | (refine ⟨?_, ?_⟩ <;> (first | rfl | omega | decide)) | (refine ⟨?_, ?_, ?_⟩ <;> (first | rfl | omega | decide)) | (refine ⟨?_, ?_, ?_, ?_⟩ <;> (first | rfl | omega | decide))) ?_)
      | fail)
    all_goals simp_all [expT, cCt]
  have ez : (exC fr to o != 0) = false := by simp [he]
  have ez2 : (exC fr to o == 0) = true := by simp [he]
  obtain ⟨hof, hnu⟩ := exC_zero he
  cases hst : stpB x (wO o.trays)
  · refine Cd.impl_ExpectedControl_ok.fn0 Tryz.mixed Cd.impl_ExpectedControl_nt Cd.impl_ExpectedControl_rs rfl fun X => ?_
    unfold Cd.impl_ExpectedControl
    simp -dsimp only [go_sem, reduceIte, reduceCtorEq, Nat.reduceEqDiff, Nat.reduceLT, Nat.reduceLeDiff, Nat.reduceAdd, Nat.reduceMul, Nat.reduceSub, Int.reduceToNat, Int.reduceNeg, cFd, cO, cS, he, ez, ez2]
    repeat' (first
      | (refine RgK.mk rfl ?_; simp -dsimp only [go_sem, reduceIte, reduceCtorEq, Nat.reduceEqDiff, Nat.reduceLT, Nat.reduceLeDiff, Nat.reduceAdd, Nat.reduceMul, Nat.reduceSub, Int.reduceToNat, Int.reduceNeg, cFd, cO, cS, he, ez, ez2, hst])
      | (refine Br.mk (fun h => ?_) (fun h => ?_) <;> simp -dsimp only [go_sem, reduceIte, reduceCtorEq, Nat.reduceEqDiff, Nat.reduceLT, Nat.reduceLeDiff, Nat.reduceAdd, Nat.reduceMul, Nat.reduceSub, Int.reduceToNat, Int.reduceNeg, h, cFd, cO, cS, he, ez, ez2, hst])
      | (refine CallK.flat (by first | exact officeCode0 fr to o ho | exact officeColumns o ho | exact impl_ValidStep x _ hs) rfl ?_; simp -dsimp only [go_sem, reduceIte, reduceCtorEq, Nat.reduceEqDiff, Nat.reduceLT, Nat.reduceLeDiff, Nat.reduceAdd, Nat.reduceMul, Nat.reduceSub, Int.reduceToNat, Int.reduceNeg, cFd, cO, cS, he, ez, ez2, hst])
      | (refine CallK.pure (by first | exact officeCode0 fr to o ho | exact officeColumns o ho | exact impl_ValidStep x _ hs) ?_; simp -dsimp only [go_sem, reduceIte, reduceCtorEq, Nat.reduceEqDiff, Nat.reduceLT, Nat.reduceLeDiff, Nat.reduceAdd, Nat.reduceMul, Nat.reduceSub, Int.reduceToNat, Int.reduceNeg, cFd, cO, cS, he, ez, ez2, hst])
      | (refine And.intro (by first | rfl | omega | decide | (refine ⟨?_, ?_⟩ <;> (first | rfl | omega | decide)) | (refine ⟨?_, ?_, ?_⟩ <;> (first | rfl | omega | decide)) | (refine ⟨?_, ?_, ?_, ?_⟩ <;> (first | rfl | omega | decide))) ?_)
      | fail)
    all_goals simp_all [expT, cCt]
  obtain ⟨ha, hb⟩ := stpB_ab hst
  have hw20 := off_wO hof
  obtain ⟨hla, hra⟩ := tr_row hof ha
  obtain ⟨hlb, hrb⟩ := tr_row hof hb
  have hsa : smallC (trD o x.a) := ho.1.2 _ (by unfold trD; rw [getD_lt (by omega)]; exact List.getElem_mem _)
  have hsb : smallC (trD o x.b) := ho.1.2 _ (by unfold trD; rw [getD_lt (by omega)]; exact List.getElem_mem _)
  have hka : ∀ c, c ∈ trD o x.a → okP fr to c := off_okP hof hnu (by omega)
  have hkb : ∀ c, c ∈ trD o x.b → okP fr to c := off_okP hof hnu (by omega)
  have hda : deckB (trD o x.a) = true := off_deck hof (by omega)
  have hdb : deckB (trD o x.b) = true := off_deck hof (by omega)
  have qa := ctlT_le hka (deck_len hda)
  have qb := ctlT_le hkb (deck_len hdb)
  have hj := joinR_plain qa qb
  have p1 : IntKind.i64.wrap ((ctlT fr to (trD o x.a)).1 + IntKind.i64.wrap (1 * (ctlT fr to (trD o x.b)).1)) = (ctlT fr to (trD o x.a)).1 + (ctlT fr to (trD o x.b)).1 := plus_plain (k := 40) (by omega) (by omega) (by omega)
  have p2 : IntKind.i64.wrap ((ctlT fr to (trD o x.a)).2.1 + IntKind.i64.wrap (1 * (ctlT fr to (trD o x.b)).2.1)) = (ctlT fr to (trD o x.a)).2.1 + (ctlT fr to (trD o x.b)).2.1 := plus_plain (k := 40000000000000) (by omega) (by omega) (by omega)
  have p3 : IntKind.i64.wrap ((ctlT fr to (trD o x.a)).2.2 + IntKind.i64.wrap (1 * (ctlT fr to (trD o x.b)).2.2)) = (ctlT fr to (trD o x.a)).2.2 + (ctlT fr to (trD o x.b)).2.2 := plus_plain (k := 4680) (by omega) (by omega) (by omega)
  by_cases k1 : x.kind = 1
  · have b1 : (x.kind == 1) = true := by simp [k1]
    have b2 : (x.kind == 2) = false := by simp [k1]
    cases hca : ctlB fr to (trD o x.a)
    · refine Cd.impl_ExpectedControl_ok.fn0 Tryz.mixed Cd.impl_ExpectedControl_nt Cd.impl_ExpectedControl_rs rfl fun X => ?_
      unfold Cd.impl_ExpectedControl
      simp -dsimp only [go_sem, reduceIte, reduceCtorEq, Nat.reduceEqDiff, Nat.reduceLT, Nat.reduceLeDiff, Nat.reduceAdd, Nat.reduceMul, Nat.reduceSub, Int.reduceToNat, Int.reduceNeg, cFd, cO, cS, cCt, hw20, he, ez, ez2, hst, hra, hrb, cD, p1, p2, p3, hj, b1, b2]
      repeat' (first
        | (refine RgK.mk rfl ?_; simp -dsimp only [go_sem, reduceIte, reduceCtorEq, Nat.reduceEqDiff, Nat.reduceLT, Nat.reduceLeDiff, Nat.reduceAdd, Nat.reduceMul, Nat.reduceSub, Int.reduceToNat, Int.reduceNeg, cFd, cO, cS, cCt, hw20, he, ez, ez2, hst, hra, hrb, cD, p1, p2, p3, hj, b1, b2, hca])
        | (refine Br.mk (fun h => ?_) (fun h => ?_) <;> simp -dsimp only [go_sem, reduceIte, reduceCtorEq, Nat.reduceEqDiff, Nat.reduceLT, Nat.reduceLeDiff, Nat.reduceAdd, Nat.reduceMul, Nat.reduceSub, Int.reduceToNat, Int.reduceNeg, h, cFd, cO, cS, cCt, hw20, he, ez, ez2, hst, hra, hrb, cD, p1, p2, p3, hj, b1, b2, hca])
        | (refine CallK.flat (by first | exact officeCode0 fr to o ho | exact officeColumns o ho | exact impl_ValidStep x _ hs | exact impl_KeepsControl _ | exact controlOf _ fr to hsa.1 hka | exact controlOf _ fr to hsb.1 hkb | exact plusC _ _ _ _ _ _ _) rfl ?_; simp -dsimp only [go_sem, reduceIte, reduceCtorEq, Nat.reduceEqDiff, Nat.reduceLT, Nat.reduceLeDiff, Nat.reduceAdd, Nat.reduceMul, Nat.reduceSub, Int.reduceToNat, Int.reduceNeg, cFd, cO, cS, cCt, hw20, he, ez, ez2, hst, hra, hrb, cD, p1, p2, p3, hj, b1, b2, hca])
        | (refine CallK.pure (by first | exact officeCode0 fr to o ho | exact officeColumns o ho | exact impl_ValidStep x _ hs | exact impl_KeepsControl _ | exact controlOf _ fr to hsa.1 hka | exact controlOf _ fr to hsb.1 hkb | exact plusC _ _ _ _ _ _ _) ?_; simp -dsimp only [go_sem, reduceIte, reduceCtorEq, Nat.reduceEqDiff, Nat.reduceLT, Nat.reduceLeDiff, Nat.reduceAdd, Nat.reduceMul, Nat.reduceSub, Int.reduceToNat, Int.reduceNeg, cFd, cO, cS, cCt, hw20, he, ez, ez2, hst, hra, hrb, cD, p1, p2, p3, hj, b1, b2, hca])
        | (refine And.intro (by first | rfl | omega | decide | exact hla | exact hlb | (refine ⟨?_, ?_⟩ <;> (first | rfl | omega | decide | exact hla | exact hlb)) | (refine ⟨?_, ?_, ?_⟩ <;> (first | rfl | omega | decide | exact hla | exact hlb)) | (refine ⟨?_, ?_, ?_, ?_⟩ <;> (first | rfl | omega | decide | exact hla | exact hlb))) ?_)
        | fail)
      all_goals simp_all [expT, cCt]
    · refine Cd.impl_ExpectedControl_ok.fn0 Tryz.mixed Cd.impl_ExpectedControl_nt Cd.impl_ExpectedControl_rs rfl fun X => ?_
      unfold Cd.impl_ExpectedControl
      simp -dsimp only [go_sem, reduceIte, reduceCtorEq, Nat.reduceEqDiff, Nat.reduceLT, Nat.reduceLeDiff, Nat.reduceAdd, Nat.reduceMul, Nat.reduceSub, Int.reduceToNat, Int.reduceNeg, cFd, cO, cS, cCt, hw20, he, ez, ez2, hst, hra, hrb, cD, p1, p2, p3, hj, b1, b2]
      repeat' (first
        | (refine RgK.mk rfl ?_; simp -dsimp only [go_sem, reduceIte, reduceCtorEq, Nat.reduceEqDiff, Nat.reduceLT, Nat.reduceLeDiff, Nat.reduceAdd, Nat.reduceMul, Nat.reduceSub, Int.reduceToNat, Int.reduceNeg, cFd, cO, cS, cCt, hw20, he, ez, ez2, hst, hra, hrb, cD, p1, p2, p3, hj, b1, b2, hca])
        | (refine Br.mk (fun h => ?_) (fun h => ?_) <;> simp -dsimp only [go_sem, reduceIte, reduceCtorEq, Nat.reduceEqDiff, Nat.reduceLT, Nat.reduceLeDiff, Nat.reduceAdd, Nat.reduceMul, Nat.reduceSub, Int.reduceToNat, Int.reduceNeg, h, cFd, cO, cS, cCt, hw20, he, ez, ez2, hst, hra, hrb, cD, p1, p2, p3, hj, b1, b2, hca])
        | (refine CallK.flat (by first | exact officeCode0 fr to o ho | exact officeColumns o ho | exact impl_ValidStep x _ hs | exact impl_KeepsControl _ | exact controlOf _ fr to hsa.1 hka | exact controlOf _ fr to hsb.1 hkb | exact plusC _ _ _ _ _ _ _) rfl ?_; simp -dsimp only [go_sem, reduceIte, reduceCtorEq, Nat.reduceEqDiff, Nat.reduceLT, Nat.reduceLeDiff, Nat.reduceAdd, Nat.reduceMul, Nat.reduceSub, Int.reduceToNat, Int.reduceNeg, cFd, cO, cS, cCt, hw20, he, ez, ez2, hst, hra, hrb, cD, p1, p2, p3, hj, b1, b2, hca])
        | (refine CallK.pure (by first | exact officeCode0 fr to o ho | exact officeColumns o ho | exact impl_ValidStep x _ hs | exact impl_KeepsControl _ | exact controlOf _ fr to hsa.1 hka | exact controlOf _ fr to hsb.1 hkb | exact plusC _ _ _ _ _ _ _) ?_; simp -dsimp only [go_sem, reduceIte, reduceCtorEq, Nat.reduceEqDiff, Nat.reduceLT, Nat.reduceLeDiff, Nat.reduceAdd, Nat.reduceMul, Nat.reduceSub, Int.reduceToNat, Int.reduceNeg, cFd, cO, cS, cCt, hw20, he, ez, ez2, hst, hra, hrb, cD, p1, p2, p3, hj, b1, b2, hca])
        | (refine And.intro (by first | rfl | omega | decide | exact hla | exact hlb | (refine ⟨?_, ?_⟩ <;> (first | rfl | omega | decide | exact hla | exact hlb)) | (refine ⟨?_, ?_, ?_⟩ <;> (first | rfl | omega | decide | exact hla | exact hlb)) | (refine ⟨?_, ?_, ?_, ?_⟩ <;> (first | rfl | omega | decide | exact hla | exact hlb))) ?_)
        | fail)
      all_goals simp_all [expT, cCt]
  have b1 : (x.kind == 1) = false := by simp [k1]
  by_cases k2 : x.kind = 2
  · have b2 : (x.kind == 2) = true := by simp [k2]
    cases hca : ctlB fr to (trD o x.a) <;> cases hcb : ctlB fr to (trD o x.b)
    · refine Cd.impl_ExpectedControl_ok.fn0 Tryz.mixed Cd.impl_ExpectedControl_nt Cd.impl_ExpectedControl_rs rfl fun X => ?_
      unfold Cd.impl_ExpectedControl
      simp -dsimp only [go_sem, reduceIte, reduceCtorEq, Nat.reduceEqDiff, Nat.reduceLT, Nat.reduceLeDiff, Nat.reduceAdd, Nat.reduceMul, Nat.reduceSub, Int.reduceToNat, Int.reduceNeg, cFd, cO, cS, cCt, hw20, he, ez, ez2, hst, hra, hrb, cD, p1, p2, p3, hj, b1, b2]
      repeat' (first
        | (refine RgK.mk rfl ?_; simp -dsimp only [go_sem, reduceIte, reduceCtorEq, Nat.reduceEqDiff, Nat.reduceLT, Nat.reduceLeDiff, Nat.reduceAdd, Nat.reduceMul, Nat.reduceSub, Int.reduceToNat, Int.reduceNeg, cFd, cO, cS, cCt, hw20, he, ez, ez2, hst, hra, hrb, cD, p1, p2, p3, hj, b1, b2, hca, hcb])
        | (refine Br.mk (fun h => ?_) (fun h => ?_) <;> simp -dsimp only [go_sem, reduceIte, reduceCtorEq, Nat.reduceEqDiff, Nat.reduceLT, Nat.reduceLeDiff, Nat.reduceAdd, Nat.reduceMul, Nat.reduceSub, Int.reduceToNat, Int.reduceNeg, h, cFd, cO, cS, cCt, hw20, he, ez, ez2, hst, hra, hrb, cD, p1, p2, p3, hj, b1, b2, hca, hcb])
        | (refine CallK.flat (by first | exact officeCode0 fr to o ho | exact officeColumns o ho | exact impl_ValidStep x _ hs | exact impl_KeepsControl _ | exact controlOf _ fr to hsa.1 hka | exact controlOf _ fr to hsb.1 hkb | exact plusC _ _ _ _ _ _ _) rfl ?_; simp -dsimp only [go_sem, reduceIte, reduceCtorEq, Nat.reduceEqDiff, Nat.reduceLT, Nat.reduceLeDiff, Nat.reduceAdd, Nat.reduceMul, Nat.reduceSub, Int.reduceToNat, Int.reduceNeg, cFd, cO, cS, cCt, hw20, he, ez, ez2, hst, hra, hrb, cD, p1, p2, p3, hj, b1, b2, hca, hcb])
        | (refine CallK.pure (by first | exact officeCode0 fr to o ho | exact officeColumns o ho | exact impl_ValidStep x _ hs | exact impl_KeepsControl _ | exact controlOf _ fr to hsa.1 hka | exact controlOf _ fr to hsb.1 hkb | exact plusC _ _ _ _ _ _ _) ?_; simp -dsimp only [go_sem, reduceIte, reduceCtorEq, Nat.reduceEqDiff, Nat.reduceLT, Nat.reduceLeDiff, Nat.reduceAdd, Nat.reduceMul, Nat.reduceSub, Int.reduceToNat, Int.reduceNeg, cFd, cO, cS, cCt, hw20, he, ez, ez2, hst, hra, hrb, cD, p1, p2, p3, hj, b1, b2, hca, hcb])
        | (refine And.intro (by first | rfl | omega | decide | exact hla | exact hlb | (refine ⟨?_, ?_⟩ <;> (first | rfl | omega | decide | exact hla | exact hlb)) | (refine ⟨?_, ?_, ?_⟩ <;> (first | rfl | omega | decide | exact hla | exact hlb)) | (refine ⟨?_, ?_, ?_, ?_⟩ <;> (first | rfl | omega | decide | exact hla | exact hlb))) ?_)
        | fail)
      all_goals simp_all [expT, cCt, plC]
    · refine Cd.impl_ExpectedControl_ok.fn0 Tryz.mixed Cd.impl_ExpectedControl_nt Cd.impl_ExpectedControl_rs rfl fun X => ?_
      unfold Cd.impl_ExpectedControl
      simp -dsimp only [go_sem, reduceIte, reduceCtorEq, Nat.reduceEqDiff, Nat.reduceLT, Nat.reduceLeDiff, Nat.reduceAdd, Nat.reduceMul, Nat.reduceSub, Int.reduceToNat, Int.reduceNeg, cFd, cO, cS, cCt, hw20, he, ez, ez2, hst, hra, hrb, cD, p1, p2, p3, hj, b1, b2]
      repeat' (first
        | (refine RgK.mk rfl ?_; simp -dsimp only [go_sem, reduceIte, reduceCtorEq, Nat.reduceEqDiff, Nat.reduceLT, Nat.reduceLeDiff, Nat.reduceAdd, Nat.reduceMul, Nat.reduceSub, Int.reduceToNat, Int.reduceNeg, cFd, cO, cS, cCt, hw20, he, ez, ez2, hst, hra, hrb, cD, p1, p2, p3, hj, b1, b2, hca, hcb])
        | (refine Br.mk (fun h => ?_) (fun h => ?_) <;> simp -dsimp only [go_sem, reduceIte, reduceCtorEq, Nat.reduceEqDiff, Nat.reduceLT, Nat.reduceLeDiff, Nat.reduceAdd, Nat.reduceMul, Nat.reduceSub, Int.reduceToNat, Int.reduceNeg, h, cFd, cO, cS, cCt, hw20, he, ez, ez2, hst, hra, hrb, cD, p1, p2, p3, hj, b1, b2, hca, hcb])
        | (refine CallK.flat (by first | exact officeCode0 fr to o ho | exact officeColumns o ho | exact impl_ValidStep x _ hs | exact impl_KeepsControl _ | exact controlOf _ fr to hsa.1 hka | exact controlOf _ fr to hsb.1 hkb | exact plusC _ _ _ _ _ _ _) rfl ?_; simp -dsimp only [go_sem, reduceIte, reduceCtorEq, Nat.reduceEqDiff, Nat.reduceLT, Nat.reduceLeDiff, Nat.reduceAdd, Nat.reduceMul, Nat.reduceSub, Int.reduceToNat, Int.reduceNeg, cFd, cO, cS, cCt, hw20, he, ez, ez2, hst, hra, hrb, cD, p1, p2, p3, hj, b1, b2, hca, hcb])
        | (refine CallK.pure (by first | exact officeCode0 fr to o ho | exact officeColumns o ho | exact impl_ValidStep x _ hs | exact impl_KeepsControl _ | exact controlOf _ fr to hsa.1 hka | exact controlOf _ fr to hsb.1 hkb | exact plusC _ _ _ _ _ _ _) ?_; simp -dsimp only [go_sem, reduceIte, reduceCtorEq, Nat.reduceEqDiff, Nat.reduceLT, Nat.reduceLeDiff, Nat.reduceAdd, Nat.reduceMul, Nat.reduceSub, Int.reduceToNat, Int.reduceNeg, cFd, cO, cS, cCt, hw20, he, ez, ez2, hst, hra, hrb, cD, p1, p2, p3, hj, b1, b2, hca, hcb])
        | (refine And.intro (by first | rfl | omega | decide | exact hla | exact hlb | (refine ⟨?_, ?_⟩ <;> (first | rfl | omega | decide | exact hla | exact hlb)) | (refine ⟨?_, ?_, ?_⟩ <;> (first | rfl | omega | decide | exact hla | exact hlb)) | (refine ⟨?_, ?_, ?_, ?_⟩ <;> (first | rfl | omega | decide | exact hla | exact hlb))) ?_)
        | fail)
      all_goals simp_all [expT, cCt, plC]
    · refine Cd.impl_ExpectedControl_ok.fn0 Tryz.mixed Cd.impl_ExpectedControl_nt Cd.impl_ExpectedControl_rs rfl fun X => ?_
      unfold Cd.impl_ExpectedControl
      simp -dsimp only [go_sem, reduceIte, reduceCtorEq, Nat.reduceEqDiff, Nat.reduceLT, Nat.reduceLeDiff, Nat.reduceAdd, Nat.reduceMul, Nat.reduceSub, Int.reduceToNat, Int.reduceNeg, cFd, cO, cS, cCt, hw20, he, ez, ez2, hst, hra, hrb, cD, p1, p2, p3, hj, b1, b2]
      repeat' (first
        | (refine RgK.mk rfl ?_; simp -dsimp only [go_sem, reduceIte, reduceCtorEq, Nat.reduceEqDiff, Nat.reduceLT, Nat.reduceLeDiff, Nat.reduceAdd, Nat.reduceMul, Nat.reduceSub, Int.reduceToNat, Int.reduceNeg, cFd, cO, cS, cCt, hw20, he, ez, ez2, hst, hra, hrb, cD, p1, p2, p3, hj, b1, b2, hca, hcb])
        | (refine Br.mk (fun h => ?_) (fun h => ?_) <;> simp -dsimp only [go_sem, reduceIte, reduceCtorEq, Nat.reduceEqDiff, Nat.reduceLT, Nat.reduceLeDiff, Nat.reduceAdd, Nat.reduceMul, Nat.reduceSub, Int.reduceToNat, Int.reduceNeg, h, cFd, cO, cS, cCt, hw20, he, ez, ez2, hst, hra, hrb, cD, p1, p2, p3, hj, b1, b2, hca, hcb])
        | (refine CallK.flat (by first | exact officeCode0 fr to o ho | exact officeColumns o ho | exact impl_ValidStep x _ hs | exact impl_KeepsControl _ | exact controlOf _ fr to hsa.1 hka | exact controlOf _ fr to hsb.1 hkb | exact plusC _ _ _ _ _ _ _) rfl ?_; simp -dsimp only [go_sem, reduceIte, reduceCtorEq, Nat.reduceEqDiff, Nat.reduceLT, Nat.reduceLeDiff, Nat.reduceAdd, Nat.reduceMul, Nat.reduceSub, Int.reduceToNat, Int.reduceNeg, cFd, cO, cS, cCt, hw20, he, ez, ez2, hst, hra, hrb, cD, p1, p2, p3, hj, b1, b2, hca, hcb])
        | (refine CallK.pure (by first | exact officeCode0 fr to o ho | exact officeColumns o ho | exact impl_ValidStep x _ hs | exact impl_KeepsControl _ | exact controlOf _ fr to hsa.1 hka | exact controlOf _ fr to hsb.1 hkb | exact plusC _ _ _ _ _ _ _) ?_; simp -dsimp only [go_sem, reduceIte, reduceCtorEq, Nat.reduceEqDiff, Nat.reduceLT, Nat.reduceLeDiff, Nat.reduceAdd, Nat.reduceMul, Nat.reduceSub, Int.reduceToNat, Int.reduceNeg, cFd, cO, cS, cCt, hw20, he, ez, ez2, hst, hra, hrb, cD, p1, p2, p3, hj, b1, b2, hca, hcb])
        | (refine And.intro (by first | rfl | omega | decide | exact hla | exact hlb | (refine ⟨?_, ?_⟩ <;> (first | rfl | omega | decide | exact hla | exact hlb)) | (refine ⟨?_, ?_, ?_⟩ <;> (first | rfl | omega | decide | exact hla | exact hlb)) | (refine ⟨?_, ?_, ?_, ?_⟩ <;> (first | rfl | omega | decide | exact hla | exact hlb))) ?_)
        | fail)
      all_goals simp_all [expT, cCt, plC]
    · refine Cd.impl_ExpectedControl_ok.fn0 Tryz.mixed Cd.impl_ExpectedControl_nt Cd.impl_ExpectedControl_rs rfl fun X => ?_
      unfold Cd.impl_ExpectedControl
      simp -dsimp only [go_sem, reduceIte, reduceCtorEq, Nat.reduceEqDiff, Nat.reduceLT, Nat.reduceLeDiff, Nat.reduceAdd, Nat.reduceMul, Nat.reduceSub, Int.reduceToNat, Int.reduceNeg, cFd, cO, cS, cCt, hw20, he, ez, ez2, hst, hra, hrb, cD, p1, p2, p3, hj, b1, b2]
      repeat' (first
        | (refine RgK.mk rfl ?_; simp -dsimp only [go_sem, reduceIte, reduceCtorEq, Nat.reduceEqDiff, Nat.reduceLT, Nat.reduceLeDiff, Nat.reduceAdd, Nat.reduceMul, Nat.reduceSub, Int.reduceToNat, Int.reduceNeg, cFd, cO, cS, cCt, hw20, he, ez, ez2, hst, hra, hrb, cD, p1, p2, p3, hj, b1, b2, hca, hcb])
        | (refine Br.mk (fun h => ?_) (fun h => ?_) <;> simp -dsimp only [go_sem, reduceIte, reduceCtorEq, Nat.reduceEqDiff, Nat.reduceLT, Nat.reduceLeDiff, Nat.reduceAdd, Nat.reduceMul, Nat.reduceSub, Int.reduceToNat, Int.reduceNeg, h, cFd, cO, cS, cCt, hw20, he, ez, ez2, hst, hra, hrb, cD, p1, p2, p3, hj, b1, b2, hca, hcb])
        | (refine CallK.flat (by first | exact officeCode0 fr to o ho | exact officeColumns o ho | exact impl_ValidStep x _ hs | exact impl_KeepsControl _ | exact controlOf _ fr to hsa.1 hka | exact controlOf _ fr to hsb.1 hkb | exact plusC _ _ _ _ _ _ _) rfl ?_; simp -dsimp only [go_sem, reduceIte, reduceCtorEq, Nat.reduceEqDiff, Nat.reduceLT, Nat.reduceLeDiff, Nat.reduceAdd, Nat.reduceMul, Nat.reduceSub, Int.reduceToNat, Int.reduceNeg, cFd, cO, cS, cCt, hw20, he, ez, ez2, hst, hra, hrb, cD, p1, p2, p3, hj, b1, b2, hca, hcb])
        | (refine CallK.pure (by first | exact officeCode0 fr to o ho | exact officeColumns o ho | exact impl_ValidStep x _ hs | exact impl_KeepsControl _ | exact controlOf _ fr to hsa.1 hka | exact controlOf _ fr to hsb.1 hkb | exact plusC _ _ _ _ _ _ _) ?_; simp -dsimp only [go_sem, reduceIte, reduceCtorEq, Nat.reduceEqDiff, Nat.reduceLT, Nat.reduceLeDiff, Nat.reduceAdd, Nat.reduceMul, Nat.reduceSub, Int.reduceToNat, Int.reduceNeg, cFd, cO, cS, cCt, hw20, he, ez, ez2, hst, hra, hrb, cD, p1, p2, p3, hj, b1, b2, hca, hcb])
        | (refine And.intro (by first | rfl | omega | decide | exact hla | exact hlb | (refine ⟨?_, ?_⟩ <;> (first | rfl | omega | decide | exact hla | exact hlb)) | (refine ⟨?_, ?_, ?_⟩ <;> (first | rfl | omega | decide | exact hla | exact hlb)) | (refine ⟨?_, ?_, ?_, ?_⟩ <;> (first | rfl | omega | decide | exact hla | exact hlb))) ?_)
        | fail)
      all_goals simp_all [expT, cCt, plC]
  have b2 : (x.kind == 2) = false := by simp [k2]
  refine Cd.impl_ExpectedControl_ok.fn0 Tryz.mixed Cd.impl_ExpectedControl_nt Cd.impl_ExpectedControl_rs rfl fun X => ?_
  unfold Cd.impl_ExpectedControl
  simp -dsimp only [go_sem, reduceIte, reduceCtorEq, Nat.reduceEqDiff, Nat.reduceLT, Nat.reduceLeDiff, Nat.reduceAdd, Nat.reduceMul, Nat.reduceSub, Int.reduceToNat, Int.reduceNeg, cFd, cO, cS, cCt, hw20, he, ez, ez2, hst, hra, hrb, cD, p1, p2, p3, hj, b1, b2]
  repeat' (first
    | (refine RgK.mk rfl ?_; simp -dsimp only [go_sem, reduceIte, reduceCtorEq, Nat.reduceEqDiff, Nat.reduceLT, Nat.reduceLeDiff, Nat.reduceAdd, Nat.reduceMul, Nat.reduceSub, Int.reduceToNat, Int.reduceNeg, cFd, cO, cS, cCt, hw20, he, ez, ez2, hst, hra, hrb, cD, p1, p2, p3, hj, b1, b2])
    | (refine Br.mk (fun h => ?_) (fun h => ?_) <;> simp -dsimp only [go_sem, reduceIte, reduceCtorEq, Nat.reduceEqDiff, Nat.reduceLT, Nat.reduceLeDiff, Nat.reduceAdd, Nat.reduceMul, Nat.reduceSub, Int.reduceToNat, Int.reduceNeg, h, cFd, cO, cS, cCt, hw20, he, ez, ez2, hst, hra, hrb, cD, p1, p2, p3, hj, b1, b2])
    | (refine CallK.flat (by first | exact officeCode0 fr to o ho | exact officeColumns o ho | exact impl_ValidStep x _ hs | exact impl_KeepsControl _) rfl ?_; simp -dsimp only [go_sem, reduceIte, reduceCtorEq, Nat.reduceEqDiff, Nat.reduceLT, Nat.reduceLeDiff, Nat.reduceAdd, Nat.reduceMul, Nat.reduceSub, Int.reduceToNat, Int.reduceNeg, cFd, cO, cS, cCt, hw20, he, ez, ez2, hst, hra, hrb, cD, p1, p2, p3, hj, b1, b2])
    | (refine CallK.pure (by first | exact officeCode0 fr to o ho | exact officeColumns o ho | exact impl_ValidStep x _ hs | exact impl_KeepsControl _) ?_; simp -dsimp only [go_sem, reduceIte, reduceCtorEq, Nat.reduceEqDiff, Nat.reduceLT, Nat.reduceLeDiff, Nat.reduceAdd, Nat.reduceMul, Nat.reduceSub, Int.reduceToNat, Int.reduceNeg, cFd, cO, cS, cCt, hw20, he, ez, ez2, hst, hra, hrb, cD, p1, p2, p3, hj, b1, b2])
    | (refine And.intro (by first | rfl | omega | decide | exact hla | exact hlb | (refine ⟨?_, ?_⟩ <;> (first | rfl | omega | decide | exact hla | exact hlb)) | (refine ⟨?_, ?_, ?_⟩ <;> (first | rfl | omega | decide | exact hla | exact hlb)) | (refine ⟨?_, ?_, ?_, ?_⟩ <;> (first | rfl | omega | decide | exact hla | exact hlb))) ?_)
    | fail)
  all_goals simp_all [expT, cCt]
end Go.Proofs.YtgeeipfdkamhmaaGreatDoor
