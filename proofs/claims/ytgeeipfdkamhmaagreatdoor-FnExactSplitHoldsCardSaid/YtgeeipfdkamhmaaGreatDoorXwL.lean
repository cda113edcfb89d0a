/- The control totals of a deck's field: what the program's controlOf and the reference's l18Of give. -/
import Derived.Test.YtgeeipfdkamhmaaGreatDoorXwK
import Derived.Test.YtgeeipfdkamhmaaGreatDoorXuS
import Derived.Test.YtgeeipfdkamhmaaGreatDoorXuF
import Derived.Test.YtgeeipfdkamhmaaGreatDoorEtN
namespace Go.Proofs.YtgeeipfdkamhmaaGreatDoor
open Go.Vs
set_option linter.unusedSimpArgs false
set_option linter.unusedVariables false
attribute [local irreducible] Vs.Fn
def cFd (fr to : Int) : List AV := [.v (.int .i64 fr), .v (.int .i64 to)]
def widB (l : List (List Int)) : Int := if l.length = 0 then 20 else ((l.getD 0 []).length : Int)
theorem l07Width (l : List (List Int)) : Vs.Fn Tryz.prog F.spec_l07Width [] [.sl 1 (E cC l)] (.v (.int .i64 (widB l))) [] := by
  refine Cd.spec_l07Width_ok.fn0 Tryz.mixed Cd.spec_l07Width_nt Cd.spec_l07Width_rs rfl fun X => ?_
  unfold Cd.spec_l07Width
  simp -dsimp only [go_sem, reduceIte, reduceCtorEq, Nat.reduceEqDiff, Nat.reduceLT, Nat.reduceLeDiff, Nat.reduceAdd, Nat.reduceMul, Nat.reduceSub, Int.reduceToNat, Int.reduceNeg, cC]
  by_cases h0 : l.length = 0
  · have e1 : ((l.length : Int) == 0) = true := beq_iff_eq.2 (by omega)
    simp -dsimp only [go_sem, reduceIte, reduceCtorEq, Nat.reduceEqDiff, Nat.reduceLT, Nat.reduceLeDiff, Nat.reduceAdd, Nat.reduceMul, Nat.reduceSub, Int.reduceToNat, Int.reduceNeg, e1, cC]
    repeat' (first
      | (refine RgK.mk rfl ?_; simp -dsimp only [go_sem, reduceIte, reduceCtorEq, Nat.reduceEqDiff, Nat.reduceLT, Nat.reduceLeDiff, Nat.reduceAdd, Nat.reduceMul, Nat.reduceSub, Int.reduceToNat, Int.reduceNeg, e1, cC])
      | (refine Br.mk (fun h => ?_) (fun h => ?_) <;> simp -dsimp only [go_sem, reduceIte, reduceCtorEq, Nat.reduceEqDiff, Nat.reduceLT, Nat.reduceLeDiff, Nat.reduceAdd, Nat.reduceMul, Nat.reduceSub, Int.reduceToNat, Int.reduceNeg, h, e1, cC])
      | (refine And.intro (by first | rfl | omega | decide | (refine ⟨?_, ?_⟩ <;> (first | rfl | omega | decide)) | (refine ⟨?_, ?_, ?_⟩ <;> (first | rfl | omega | decide)) | (refine ⟨?_, ?_, ?_, ?_⟩ <;> (first | rfl | omega | decide))) ?_)
      | fail)

    all_goals simp [widB, h0]
  · have e1 : ((l.length : Int) == 0) = false := beq_eq_false_iff_ne.2 (by omega)
    have h1 : 0 < l.length := by omega
    have g0 : (E cC l).getD 0 [] = [.sl 1 (E cI l[0])] := E_get h1
    have g1 : l.getD 0 [] = l[0] := by simp [List.getD, h1]
    simp -dsimp only [go_sem, reduceIte, reduceCtorEq, Nat.reduceEqDiff, Nat.reduceLT, Nat.reduceLeDiff, Nat.reduceAdd, Nat.reduceMul, Nat.reduceSub, Int.reduceToNat, Int.reduceNeg, e1, g0, cC]
    repeat' (first
      | (refine RgK.mk rfl ?_; simp -dsimp only [go_sem, reduceIte, reduceCtorEq, Nat.reduceEqDiff, Nat.reduceLT, Nat.reduceLeDiff, Nat.reduceAdd, Nat.reduceMul, Nat.reduceSub, Int.reduceToNat, Int.reduceNeg, e1, g0, cC])
      | (refine Br.mk (fun h => ?_) (fun h => ?_) <;> simp -dsimp only [go_sem, reduceIte, reduceCtorEq, Nat.reduceEqDiff, Nat.reduceLT, Nat.reduceLeDiff, Nat.reduceAdd, Nat.reduceMul, Nat.reduceSub, Int.reduceToNat, Int.reduceNeg, h, e1, g0, cC])
      | (refine And.intro (by first | rfl | omega | decide | (refine ⟨?_, ?_⟩ <;> (first | rfl | omega | decide)) | (refine ⟨?_, ?_, ?_⟩ <;> (first | rfl | omega | decide)) | (refine ⟨?_, ?_, ?_, ?_⟩ <;> (first | rfl | omega | decide))) ?_)
      | fail)

    all_goals simp_all [widB]
theorem deckColumns (l : List (List Int)) : Vs.Fn Tryz.prog F.impl_deckColumns [] [.sl 1 (E cC l)] (.v (.int .i64 (widB l))) [] := by
  refine Cd.impl_deckColumns_ok.fn0 Tryz.mixed Cd.impl_deckColumns_nt Cd.impl_deckColumns_rs rfl fun X => ?_
  unfold Cd.impl_deckColumns
  simp -dsimp only [go_sem, reduceIte, reduceCtorEq, Nat.reduceEqDiff, Nat.reduceLT, Nat.reduceLeDiff, Nat.reduceAdd, Nat.reduceMul, Nat.reduceSub, Int.reduceToNat, Int.reduceNeg, cC]
  by_cases h0 : l.length = 0
  · have e1 : ((l.length : Int) == 0) = true := beq_iff_eq.2 (by omega)
    simp -dsimp only [go_sem, reduceIte, reduceCtorEq, Nat.reduceEqDiff, Nat.reduceLT, Nat.reduceLeDiff, Nat.reduceAdd, Nat.reduceMul, Nat.reduceSub, Int.reduceToNat, Int.reduceNeg, e1, cC]
    repeat' (first
      | (refine RgK.mk rfl ?_; simp -dsimp only [go_sem, reduceIte, reduceCtorEq, Nat.reduceEqDiff, Nat.reduceLT, Nat.reduceLeDiff, Nat.reduceAdd, Nat.reduceMul, Nat.reduceSub, Int.reduceToNat, Int.reduceNeg, e1, cC])
      | (refine Br.mk (fun h => ?_) (fun h => ?_) <;> simp -dsimp only [go_sem, reduceIte, reduceCtorEq, Nat.reduceEqDiff, Nat.reduceLT, Nat.reduceLeDiff, Nat.reduceAdd, Nat.reduceMul, Nat.reduceSub, Int.reduceToNat, Int.reduceNeg, h, e1, cC])
      | (refine CallK.flat (by first | exact columns l[0]) rfl ?_; simp -dsimp only [go_sem, reduceIte, reduceCtorEq, Nat.reduceEqDiff, Nat.reduceLT, Nat.reduceLeDiff, Nat.reduceAdd, Nat.reduceMul, Nat.reduceSub, Int.reduceToNat, Int.reduceNeg, e1, cC])
      | (refine CallK.pure (by first | exact columns l[0]) ?_; simp -dsimp only [go_sem, reduceIte, reduceCtorEq, Nat.reduceEqDiff, Nat.reduceLT, Nat.reduceLeDiff, Nat.reduceAdd, Nat.reduceMul, Nat.reduceSub, Int.reduceToNat, Int.reduceNeg, e1, cC])
      | (refine And.intro (by first | rfl | omega | decide | (refine ⟨?_, ?_⟩ <;> (first | rfl | omega | decide)) | (refine ⟨?_, ?_, ?_⟩ <;> (first | rfl | omega | decide)) | (refine ⟨?_, ?_, ?_, ?_⟩ <;> (first | rfl | omega | decide))) ?_)
      | fail)

    all_goals simp [widB, h0]
  · have e1 : ((l.length : Int) == 0) = false := beq_eq_false_iff_ne.2 (by omega)
    have h1 : 0 < l.length := by omega
    have g0 : (E cC l).getD 0 [] = [.sl 1 (E cI l[0])] := E_get h1
    have g1 : l.getD 0 [] = l[0] := by simp [List.getD, h1]
    simp -dsimp only [go_sem, reduceIte, reduceCtorEq, Nat.reduceEqDiff, Nat.reduceLT, Nat.reduceLeDiff, Nat.reduceAdd, Nat.reduceMul, Nat.reduceSub, Int.reduceToNat, Int.reduceNeg, e1, g0, cC]
    repeat' (first
      | (refine RgK.mk rfl ?_; simp -dsimp only [go_sem, reduceIte, reduceCtorEq, Nat.reduceEqDiff, Nat.reduceLT, Nat.reduceLeDiff, Nat.reduceAdd, Nat.reduceMul, Nat.reduceSub, Int.reduceToNat, Int.reduceNeg, e1, g0, cC])
      | (refine Br.mk (fun h => ?_) (fun h => ?_) <;> simp -dsimp only [go_sem, reduceIte, reduceCtorEq, Nat.reduceEqDiff, Nat.reduceLT, Nat.reduceLeDiff, Nat.reduceAdd, Nat.reduceMul, Nat.reduceSub, Int.reduceToNat, Int.reduceNeg, h, e1, g0, cC])
      | (refine CallK.flat (by first | exact columns l[0]) rfl ?_; simp -dsimp only [go_sem, reduceIte, reduceCtorEq, Nat.reduceEqDiff, Nat.reduceLT, Nat.reduceLeDiff, Nat.reduceAdd, Nat.reduceMul, Nat.reduceSub, Int.reduceToNat, Int.reduceNeg, e1, g0, cC])
      | (refine CallK.pure (by first | exact columns l[0]) ?_; simp -dsimp only [go_sem, reduceIte, reduceCtorEq, Nat.reduceEqDiff, Nat.reduceLT, Nat.reduceLeDiff, Nat.reduceAdd, Nat.reduceMul, Nat.reduceSub, Int.reduceToNat, Int.reduceNeg, e1, g0, cC])
      | (refine And.intro (by first | rfl | omega | decide | (refine ⟨?_, ?_⟩ <;> (first | rfl | omega | decide)) | (refine ⟨?_, ?_, ?_⟩ <;> (first | rfl | omega | decide)) | (refine ⟨?_, ?_, ?_, ?_⟩ <;> (first | rfl | omega | decide))) ?_)
      | fail)

    all_goals simp_all [widB]
theorem l18Field (fr to w : Int) : Vs.Fn Tryz.prog F.spec_l18Field [] [.agg (cFd fr to), .v (.int .i64 w)] (.v (.bool (numB fr to w))) [] := by
  refine Cd.spec_l18Field_ok.fn0 Tryz.mixed Cd.spec_l18Field_nt Cd.spec_l18Field_rs rfl fun X => ?_
  unfold Cd.spec_l18Field
  simp -dsimp only [go_sem, reduceIte, reduceCtorEq, Nat.reduceEqDiff, Nat.reduceLT, Nat.reduceLeDiff, Nat.reduceAdd, Nat.reduceMul, Nat.reduceSub, Int.reduceToNat, Int.reduceNeg, cFd]
  repeat' (first
    | (refine RgK.mk rfl ?_; simp -dsimp only [go_sem, reduceIte, reduceCtorEq, Nat.reduceEqDiff, Nat.reduceLT, Nat.reduceLeDiff, Nat.reduceAdd, Nat.reduceMul, Nat.reduceSub, Int.reduceToNat, Int.reduceNeg, cFd])
    | (refine Br.mk (fun h => ?_) (fun h => ?_) <;> simp -dsimp only [go_sem, reduceIte, reduceCtorEq, Nat.reduceEqDiff, Nat.reduceLT, Nat.reduceLeDiff, Nat.reduceAdd, Nat.reduceMul, Nat.reduceSub, Int.reduceToNat, Int.reduceNeg, h, cFd])
    | (refine CallK.flat (by first | exact l02Field fr to w) rfl ?_; simp -dsimp only [go_sem, reduceIte, reduceCtorEq, Nat.reduceEqDiff, Nat.reduceLT, Nat.reduceLeDiff, Nat.reduceAdd, Nat.reduceMul, Nat.reduceSub, Int.reduceToNat, Int.reduceNeg, cFd])
    | (refine CallK.pure (by first | exact l02Field fr to w) ?_; simp -dsimp only [go_sem, reduceIte, reduceCtorEq, Nat.reduceEqDiff, Nat.reduceLT, Nat.reduceLeDiff, Nat.reduceAdd, Nat.reduceMul, Nat.reduceSub, Int.reduceToNat, Int.reduceNeg, cFd])
    | (refine And.intro (by first | rfl | omega | decide | (refine ⟨?_, ?_⟩ <;> (first | rfl | omega | decide)) | (refine ⟨?_, ?_, ?_⟩ <;> (first | rfl | omega | decide)) | (refine ⟨?_, ?_, ?_, ?_⟩ <;> (first | rfl | omega | decide))) ?_)
    | fail)
  all_goals (simp_all [numB])


/-- the number in a card's field -/
def numC (fr to : Int) (c : List Int) : Int × Bool := numF ((c.take to.toNat).drop fr.toNat).dropLast (((c.take to.toNat).drop fr.toNat).getLastD 0)
/-- a field of this card, of at most 12 columns, of valid columns -/
def okP (fr to : Int) (c : List Int) : Prop := 0 ≤ fr ∧ fr < to ∧ to ≤ c.length ∧ to - fr ≤ 12 ∧ c.length ≤ 20 ∧ ∀ x, x ∈ c → 0 ≤ x ∧ x ≤ 4095
theorem okP_part {fr to : Int} {c : List Int} (h : okP fr to c) : ∃ u x, (c.take to.toNat).drop fr.toNat = u ++ [x] ∧ u.length + 1 ≤ 12 ∧ 0 ≤ x ∧ x ≤ 4095 ∧ numC fr to c = numF u x := by
  obtain ⟨h0, h1, h2, h3, h4, h5⟩ := h
  have hlen : ((c.take to.toNat).drop fr.toNat).length = to.toNat - fr.toNat := by simp; omega
  have hne : (c.take to.toNat).drop fr.toNat ≠ [] := by intro e; rw [e] at hlen; simp at hlen; omega
  have hd := List.dropLast_concat_getLast hne
  have hx := h5 (((c.take to.toNat).drop fr.toNat).getLast hne) (List.mem_of_mem_take (List.mem_of_mem_drop (List.getLast_mem hne)))
  refine ⟨_, _, hd.symm, ?_, hx.1, hx.2, ?_⟩
  · rw [List.length_dropLast, hlen]; omega
  · unfold numC
    rw [List.getLastD_eq_getLast?, List.getLast?_eq_some_getLast hne]
    rfl
theorem numC_le {fr to : Int} {c : List Int} (h : okP fr to c) : -1000000000000 ≤ (numC fr to c).1 ∧ (numC fr to c).1 ≤ 1000000000000 := by
  obtain ⟨u, x, _, hu, _, _, hn⟩ := okP_part h
  rw [hn]; exact numF_le u x hu
theorem numberInC {fr to : Int} {c : List Int} (h : okP fr to c) : Vs.Fn Tryz.prog F.impl_numberIn [] [.agg (cC c), .agg (cFd fr to)] (.tup [.v (.int .i64 (numC fr to c).1), .v (.bool (numC fr to c).2)]) [] := by
  obtain ⟨u, x, hp, hu, _, _, hn⟩ := okP_part h
  obtain ⟨h0, h1, h2, h3, h4, h5⟩ := h
  rw [hn]
  exact numberIn c fr to u x h0 (by omega) h2 hp hu
theorem l03NumberC {fr to : Int} {c : List Int} (h : okP fr to c) : Vs.Fn Tryz.prog F.spec_l03Number [] [.sl 1 (E cI ((c.take to.toNat).drop fr.toNat))] (.tup [.v (.int .i64 (numC fr to c).1), .v (.bool (numC fr to c).2)]) [] := by
  obtain ⟨u, x, hp, hu, hx0, hx1, hn⟩ := okP_part h
  rw [hn, hp]
  exact l03Number u x hx0 hx1 hu
theorem partC {fr to : Int} {c : List Int} (h : okP fr to c) : Vs.Fn Tryz.prog F.spec_l02Part [] [.ro (cC c), .agg (cFd fr to)] (.sl 1 (E cI ((c.take to.toNat).drop fr.toNat))) [] := by
  obtain ⟨h0, h1, h2, h3, h4, h5⟩ := h
  exact part c fr to h0 (by omega) h2
/-- sums and digit sums of the numbers of a deck's field -/
def ctlG (fr to : Int) : List (List Int) → Int → Int → Option (Int × Int)
  | [], s, d => some (s, d)
  | c :: r, s, d => if (numC fr to c).2 = true then ctlG fr to r (W (s + (numC fr to c).1)) (W (d + (dsN (numC fr to c).1.natAbs : Int))) else none
def ctlT (fr to : Int) (l : List (List Int)) : Int × Int × Int :=
  match ctlG fr to l 0 0 with
  | some (s, d) => (l.length, s, d)
  | none => (0, 0, 0)
def cCt (x : Int × Int × Int) : List AV := [.v (.int .i64 x.1), .v (.int .i64 x.2.1), .v (.int .i64 x.2.2)]
def ctlB (fr to : Int) (l : List (List Int)) : Bool := (ctlG fr to l 0 0).isSome
set_option maxHeartbeats 1000000 in
theorem l18Of (l : List (List Int)) (fr to : Int) (hl : l.length ≤ 1048576) (hok : ∀ c, c ∈ l → okP fr to c) : Vs.Fn Tryz.prog F.spec_l18Of [] [.sl 1 (E cC l), .agg (cFd fr to)] (.tup [.agg (cCt (ctlT fr to l)), .v (.bool (ctlB fr to l))]) [] := by
  refine Cd.spec_l18Of_ok.fn0 Tryz.mixed Cd.spec_l18Of_nt Cd.spec_l18Of_rs rfl fun X => ?_
  unfold Cd.spec_l18Of
  simp -dsimp only [go_sem, reduceIte, reduceCtorEq, Nat.reduceEqDiff, Nat.reduceLT, Nat.reduceLeDiff, Nat.reduceAdd, Nat.reduceMul, Nat.reduceSub, Int.reduceToNat, Int.reduceNeg, cC, cFd, cCt]
  refine LoopK.at (drawn_ok Tryz.mixed) (X := { zz : Nat × (Int × Int) // zz.1 ≤ l.length ∧ ctlG fr to (l.drop zz.1) zz.2.1 zz.2.2 = ctlG fr to l 0 0 }) (fun zz => [(7, .v (.int .i64 zz.1.1))]) (fun zz => [(.t 6 0, .var [.v (.int .i64 l.length), .v (.int .i64 zz.1.2.1), .v (.int .i64 zz.1.2.2)] false)]) (fun zz => l.length - zz.1.1) ⟨(0, (0, 0)), by omega, by simp⟩ ?_ ?_
  · simp [Vs.LeL, Vs.look, Vs.hlook, Vs.sput, Vs.sputs, Vs.hset, Vs.hputs]
  · rintro ⟨⟨i, a, b⟩, hi, hg⟩
    dsimp only at hi hg
    simp -dsimp only [go_sem, reduceIte, reduceCtorEq, Nat.reduceEqDiff, Nat.reduceLT, Nat.reduceLeDiff, Nat.reduceAdd, Nat.reduceMul, Nat.reduceSub, Int.reduceToNat, Int.reduceNeg]
    refine Br.mk (fun hc => ?_) fun hc => ?_
    · have hlt : i < l.length := by simpa using hc
      have hw := wrap_succ hlt hl
      have hk := hok _ (List.getElem_mem hlt)
      have hle := numC_le hk
      have hm : (E cC l).getD i [] = [.sl 1 (E cI l[i])] := E_get hlt
      rw [List.drop_eq_getElem_cons hlt, ctlG] at hg
      cases hb : (numC fr to l[i]).2
      · rw [if_neg (by simp [hb])] at hg
        simp -dsimp only [go_sem, reduceIte, reduceCtorEq, Nat.reduceEqDiff, Nat.reduceLT, Nat.reduceLeDiff, Nat.reduceAdd, Nat.reduceMul, Nat.reduceSub, Int.reduceToNat, Int.reduceNeg, hm, hw, hb, cC, cFd]
        repeat' (first
          | (refine RgK.mk rfl ?_; simp -dsimp only [go_sem, reduceIte, reduceCtorEq, Nat.reduceEqDiff, Nat.reduceLT, Nat.reduceLeDiff, Nat.reduceAdd, Nat.reduceMul, Nat.reduceSub, Int.reduceToNat, Int.reduceNeg, hm, hw, hb, cC, cFd])
          | (refine Br.mk (fun h => ?_) (fun h => ?_) <;> simp -dsimp only [go_sem, reduceIte, reduceCtorEq, Nat.reduceEqDiff, Nat.reduceLT, Nat.reduceLeDiff, Nat.reduceAdd, Nat.reduceMul, Nat.reduceSub, Int.reduceToNat, Int.reduceNeg, h, hm, hw, hb, cC, cFd])
          | (refine CallK.flat (by first | exact partC hk | exact l03NumberC hk | exact l18Digits _ (by omega) (by omega)) rfl ?_; simp -dsimp only [go_sem, reduceIte, reduceCtorEq, Nat.reduceEqDiff, Nat.reduceLT, Nat.reduceLeDiff, Nat.reduceAdd, Nat.reduceMul, Nat.reduceSub, Int.reduceToNat, Int.reduceNeg, hm, hw, hb, cC, cFd])
          | (refine CallK.pure (by first | exact partC hk | exact l03NumberC hk | exact l18Digits _ (by omega) (by omega)) ?_; simp -dsimp only [go_sem, reduceIte, reduceCtorEq, Nat.reduceEqDiff, Nat.reduceLT, Nat.reduceLeDiff, Nat.reduceAdd, Nat.reduceMul, Nat.reduceSub, Int.reduceToNat, Int.reduceNeg, hm, hw, hb, cC, cFd])
          | (refine And.intro (by first | rfl | omega | decide | (refine ⟨?_, ?_⟩ <;> (first | rfl | omega | decide)) | (refine ⟨?_, ?_, ?_⟩ <;> (first | rfl | omega | decide)) | (refine ⟨?_, ?_, ?_, ?_⟩ <;> (first | rfl | omega | decide))) ?_)
          | fail)

        all_goals simp [cCt, ctlT, ctlB, ← hg]
      · rw [if_pos hb] at hg
        simp -dsimp only [go_sem, reduceIte, reduceCtorEq, Nat.reduceEqDiff, Nat.reduceLT, Nat.reduceLeDiff, Nat.reduceAdd, Nat.reduceMul, Nat.reduceSub, Int.reduceToNat, Int.reduceNeg, hm, hw, hb, cC, cFd]
        repeat' (first
          | (refine RgK.mk rfl ?_; simp -dsimp only [go_sem, reduceIte, reduceCtorEq, Nat.reduceEqDiff, Nat.reduceLT, Nat.reduceLeDiff, Nat.reduceAdd, Nat.reduceMul, Nat.reduceSub, Int.reduceToNat, Int.reduceNeg, hm, hw, hb, cC, cFd])
          | (refine Br.mk (fun h => ?_) (fun h => ?_) <;> simp -dsimp only [go_sem, reduceIte, reduceCtorEq, Nat.reduceEqDiff, Nat.reduceLT, Nat.reduceLeDiff, Nat.reduceAdd, Nat.reduceMul, Nat.reduceSub, Int.reduceToNat, Int.reduceNeg, h, hm, hw, hb, cC, cFd])
          | (refine CallK.flat (by first | exact partC hk | exact l03NumberC hk | exact l18Digits _ (by omega) (by omega)) rfl ?_; simp -dsimp only [go_sem, reduceIte, reduceCtorEq, Nat.reduceEqDiff, Nat.reduceLT, Nat.reduceLeDiff, Nat.reduceAdd, Nat.reduceMul, Nat.reduceSub, Int.reduceToNat, Int.reduceNeg, hm, hw, hb, cC, cFd])
          | (refine CallK.pure (by first | exact partC hk | exact l03NumberC hk | exact l18Digits _ (by omega) (by omega)) ?_; simp -dsimp only [go_sem, reduceIte, reduceCtorEq, Nat.reduceEqDiff, Nat.reduceLT, Nat.reduceLeDiff, Nat.reduceAdd, Nat.reduceMul, Nat.reduceSub, Int.reduceToNat, Int.reduceNeg, hm, hw, hb, cC, cFd])
          | (refine And.intro (by first | rfl | omega | decide | (refine ⟨?_, ?_⟩ <;> (first | rfl | omega | decide)) | (refine ⟨?_, ?_, ?_⟩ <;> (first | rfl | omega | decide)) | (refine ⟨?_, ?_, ?_, ?_⟩ <;> (first | rfl | omega | decide))) ?_)
          | fail)

        all_goals (exact ⟨⟨(i + 1, (W (a + (numC fr to l[i]).1), W (b + (dsN (numC fr to l[i]).1.natAbs : Int)))), by first | omega | simp | exact ⟨by omega, by omega⟩, hg⟩, by simp [Vs.LeL, Vs.look, Vs.hlook, Vs.sput, Vs.sputs, Vs.hset, Vs.hputs], by simp only; omega⟩)
    · have hge : i = l.length := by
        have : ¬ i < l.length := by simpa using hc
        omega
      subst hge
      simp -dsimp only [go_sem, reduceIte, reduceCtorEq, Nat.reduceEqDiff, Nat.reduceLT, Nat.reduceLeDiff, Nat.reduceAdd, Nat.reduceMul, Nat.reduceSub, Int.reduceToNat, Int.reduceNeg]
      rw [List.drop_length, ctlG] at hg
      simp [cCt, ctlT, ctlB, ← hg]

set_option maxHeartbeats 1000000 in
theorem controlOf (l : List (List Int)) (fr to : Int) (hl : l.length ≤ 1048576) (hok : ∀ c, c ∈ l → okP fr to c) : Vs.Fn Tryz.prog F.impl_controlOf [] [.sl 1 (E cC l), .agg (cFd fr to)] (.tup [.agg (cCt (ctlT fr to l)), .v (.bool (ctlB fr to l))]) [] := by
  refine Cd.impl_controlOf_ok.fn0 Tryz.mixed Cd.impl_controlOf_nt Cd.impl_controlOf_rs rfl fun X => ?_
  unfold Cd.impl_controlOf
  simp -dsimp only [go_sem, reduceIte, reduceCtorEq, Nat.reduceEqDiff, Nat.reduceLT, Nat.reduceLeDiff, Nat.reduceAdd, Nat.reduceMul, Nat.reduceSub, Int.reduceToNat, Int.reduceNeg, cC, cFd, cCt]
  refine CallK.flat (sizeC l) rfl ?_
  simp -dsimp only [go_sem, reduceIte, reduceCtorEq, Nat.reduceEqDiff, Nat.reduceLT, Nat.reduceLeDiff, Nat.reduceAdd, Nat.reduceMul, Nat.reduceSub, Int.reduceToNat, Int.reduceNeg, cC, cFd]
  refine LoopK.at (drawn_ok Tryz.mixed) (X := { zz : Nat × (Int × Int) // zz.1 ≤ l.length ∧ ctlG fr to (l.drop zz.1) zz.2.1 zz.2.2 = ctlG fr to l 0 0 }) (fun zz => [(16, .v (.int .i64 zz.1.1))]) (fun zz => [(.t 6 0, .var [.v (.int .i64 l.length), .v (.int .i64 zz.1.2.1), .v (.int .i64 zz.1.2.2)] false)]) (fun zz => l.length - zz.1.1) ⟨(0, (0, 0)), by omega, by simp⟩ ?_ ?_
  · simp [Vs.LeL, Vs.look, Vs.hlook, Vs.sput, Vs.sputs, Vs.hset, Vs.hputs]
  · rintro ⟨⟨i, a, b⟩, hi, hg⟩
    dsimp only at hi hg
    simp -dsimp only [go_sem, reduceIte, reduceCtorEq, Nat.reduceEqDiff, Nat.reduceLT, Nat.reduceLeDiff, Nat.reduceAdd, Nat.reduceMul, Nat.reduceSub, Int.reduceToNat, Int.reduceNeg]
    refine Br.mk (fun hc => ?_) fun hc => ?_
    · have hlt : i < l.length := by simpa using hc
      have hw := wrap_succ hlt hl
      have hk := hok _ (List.getElem_mem hlt)
      have hle := numC_le hk
      have hm : (E cC l).getD i [] = [.sl 1 (E cI l[i])] := E_get hlt
      rw [List.drop_eq_getElem_cons hlt, ctlG] at hg
      cases hb : (numC fr to l[i]).2
      · rw [if_neg (by simp [hb])] at hg
        simp -dsimp only [go_sem, reduceIte, reduceCtorEq, Nat.reduceEqDiff, Nat.reduceLT, Nat.reduceLeDiff, Nat.reduceAdd, Nat.reduceMul, Nat.reduceSub, Int.reduceToNat, Int.reduceNeg, hm, hw, hb, cC, cFd]
        repeat' (first
          | (refine RgK.mk rfl ?_; simp -dsimp only [go_sem, reduceIte, reduceCtorEq, Nat.reduceEqDiff, Nat.reduceLT, Nat.reduceLeDiff, Nat.reduceAdd, Nat.reduceMul, Nat.reduceSub, Int.reduceToNat, Int.reduceNeg, hm, hw, hb, cC, cFd])
          | (refine Br.mk (fun h => ?_) (fun h => ?_) <;> simp -dsimp only [go_sem, reduceIte, reduceCtorEq, Nat.reduceEqDiff, Nat.reduceLT, Nat.reduceLeDiff, Nat.reduceAdd, Nat.reduceMul, Nat.reduceSub, Int.reduceToNat, Int.reduceNeg, h, hm, hw, hb, cC, cFd])
          | (refine CallK.flat (by first | exact numberInC hk | exact digitSum _ (by omega) (by omega)) rfl ?_; simp -dsimp only [go_sem, reduceIte, reduceCtorEq, Nat.reduceEqDiff, Nat.reduceLT, Nat.reduceLeDiff, Nat.reduceAdd, Nat.reduceMul, Nat.reduceSub, Int.reduceToNat, Int.reduceNeg, hm, hw, hb, cC, cFd])
          | (refine CallK.pure (by first | exact numberInC hk | exact digitSum _ (by omega) (by omega)) ?_; simp -dsimp only [go_sem, reduceIte, reduceCtorEq, Nat.reduceEqDiff, Nat.reduceLT, Nat.reduceLeDiff, Nat.reduceAdd, Nat.reduceMul, Nat.reduceSub, Int.reduceToNat, Int.reduceNeg, hm, hw, hb, cC, cFd])
          | (refine And.intro (by first | rfl | omega | decide | (refine ⟨?_, ?_⟩ <;> (first | rfl | omega | decide)) | (refine ⟨?_, ?_, ?_⟩ <;> (first | rfl | omega | decide)) | (refine ⟨?_, ?_, ?_, ?_⟩ <;> (first | rfl | omega | decide))) ?_)
          | fail)

        all_goals simp [cCt, ctlT, ctlB, ← hg]
      · rw [if_pos hb] at hg
        simp -dsimp only [go_sem, reduceIte, reduceCtorEq, Nat.reduceEqDiff, Nat.reduceLT, Nat.reduceLeDiff, Nat.reduceAdd, Nat.reduceMul, Nat.reduceSub, Int.reduceToNat, Int.reduceNeg, hm, hw, hb, cC, cFd]
        repeat' (first
          | (refine RgK.mk rfl ?_; simp -dsimp only [go_sem, reduceIte, reduceCtorEq, Nat.reduceEqDiff, Nat.reduceLT, Nat.reduceLeDiff, Nat.reduceAdd, Nat.reduceMul, Nat.reduceSub, Int.reduceToNat, Int.reduceNeg, hm, hw, hb, cC, cFd])
          | (refine Br.mk (fun h => ?_) (fun h => ?_) <;> simp -dsimp only [go_sem, reduceIte, reduceCtorEq, Nat.reduceEqDiff, Nat.reduceLT, Nat.reduceLeDiff, Nat.reduceAdd, Nat.reduceMul, Nat.reduceSub, Int.reduceToNat, Int.reduceNeg, h, hm, hw, hb, cC, cFd])
          | (refine CallK.flat (by first | exact numberInC hk | exact digitSum _ (by omega) (by omega)) rfl ?_; simp -dsimp only [go_sem, reduceIte, reduceCtorEq, Nat.reduceEqDiff, Nat.reduceLT, Nat.reduceLeDiff, Nat.reduceAdd, Nat.reduceMul, Nat.reduceSub, Int.reduceToNat, Int.reduceNeg, hm, hw, hb, cC, cFd])
          | (refine CallK.pure (by first | exact numberInC hk | exact digitSum _ (by omega) (by omega)) ?_; simp -dsimp only [go_sem, reduceIte, reduceCtorEq, Nat.reduceEqDiff, Nat.reduceLT, Nat.reduceLeDiff, Nat.reduceAdd, Nat.reduceMul, Nat.reduceSub, Int.reduceToNat, Int.reduceNeg, hm, hw, hb, cC, cFd])
          | (refine And.intro (by first | rfl | omega | decide | (refine ⟨?_, ?_⟩ <;> (first | rfl | omega | decide)) | (refine ⟨?_, ?_, ?_⟩ <;> (first | rfl | omega | decide)) | (refine ⟨?_, ?_, ?_, ?_⟩ <;> (first | rfl | omega | decide))) ?_)
          | fail)

        all_goals (exact ⟨⟨(i + 1, (W (a + (numC fr to l[i]).1), W (b + (dsN (numC fr to l[i]).1.natAbs : Int)))), by first | omega | simp | exact ⟨by omega, by omega⟩, hg⟩, by simp [Vs.LeL, Vs.look, Vs.hlook, Vs.sput, Vs.sputs, Vs.hset, Vs.hputs], by simp only; omega⟩)
    · have hge : i = l.length := by
        have : ¬ i < l.length := by simpa using hc
        omega
      subst hge
      simp -dsimp only [go_sem, reduceIte, reduceCtorEq, Nat.reduceEqDiff, Nat.reduceLT, Nat.reduceLeDiff, Nat.reduceAdd, Nat.reduceMul, Nat.reduceSub, Int.reduceToNat, Int.reduceNeg]
      rw [List.drop_length, ctlG] at hg
      simp [cCt, ctlT, ctlB, ← hg]

end Go.Proofs.YtgeeipfdkamhmaaGreatDoor
