/- The control totals of a deck's field: what the program's controlOf and the reference's l18Of give. -/
import Derived.Test.YthpokkcbbpapdaaDoorTwK
import Derived.Test.YthpokkcbbpapdaaDoorTuS
import Derived.Test.YthpokkcbbpapdaaDoorDtO
namespace Go.Proofs.YthpokkcbbpapdaaDoor
open Go.Vs
set_option linter.unusedSimpArgs false
set_option linter.unusedVariables false
attribute [local irreducible] Vs.Fn

def cFd (fr to : Int) : List AV := [.v (.int .i64 fr), .v (.int .i64 to)]
def widB (l : List (List Int)) : Int := if l.length = 0 then 20 else ((l.getD 0 []).length : Int)
def fldB (fr to w : Int) : Bool := decide (0 ≤ fr) && (decide (fr < to) && decide (to ≤ w))
def numB (fr to w : Int) : Bool := fldB fr to w && decide (W (to - fr) ≤ 12)
theorem l07Width (l : List (List Int)) : Vs.Fn Tryd.prog F.spec_l07Width [] [.sl 1 (E cC l)] (.v (.int .i64 (widB l))) [] := by
  refine Cd.spec_l07Width_ok.fn0 Tryd.mixed Cd.spec_l07Width_nt Cd.spec_l07Width_rs rfl fun X => ?_
  unfold Cd.spec_l07Width
  simp -dsimp only [go_sem, reduceIte, reduceCtorEq, Nat.reduceEqDiff, Nat.reduceLT, Nat.reduceLeDiff, Nat.reduceAdd, Nat.reduceMul, Nat.reduceSub, Int.reduceToNat, Int.reduceNeg, cC]
  by_cases h0 : l.length = 0
  · have e1 : ((l.length : Int) == 0) = true := beq_iff_eq.2 (by omega)
    simp -dsimp only [go_sem, reduceIte, reduceCtorEq, Nat.reduceEqDiff, Nat.reduceLT, Nat.reduceLeDiff, Nat.reduceAdd, Nat.reduceMul, Nat.reduceSub, Int.reduceToNat, Int.reduceNeg, e1, cC]
    repeat' (first
      | (refine RgK.mk rfl ?_; simp -dsimp only [go_sem, reduceIte, reduceCtorEq, Nat.reduceEqDiff, Nat.reduceLT, Nat.reduceLeDiff, Nat.reduceAdd, Nat.reduceMul, Nat.reduceSub, Int.reduceToNat, Int.reduceNeg, e1, cC])
      | (refine Br.mk (fun h => ?_) (fun h => ?_) <;> simp -dsimp only [go_sem, reduceIte, reduceCtorEq, Nat.reduceEqDiff, Nat.reduceLT, Nat.reduceLeDiff, Nat.reduceAdd, Nat.reduceMul, Nat.reduceSub, Int.reduceToNat, Int.reduceNeg, h, e1, cC])
      | (refine And.intro (by first | rfl | omega | decide | (refine ⟨?_, ?_⟩ <;> (first | rfl | omega | decide)) | (refine ⟨?_, ?_, ?_⟩ <;> (first | rfl | omega | decide)) | (refine ⟨?_, ?_, ?_, ?_⟩ <;> (first | rfl | omega | decide))) ?_)
      | fail)

    all_goals simp [widB, h0]
  · have e1 : ((l.length : Int) == 0) = false := beq_eq_false_iff_ne.2 (by omega)
    have h1 : 0 < l.length := by omega
    have g0 : (E cC l).getD 0 [] = [.sl 1 (E cI l[0])] := E_get h1
    have g1 : l.getD 0 [] = l[0] := by simp [List.getD, h1]
    simp -dsimp only [go_sem, reduceIte, reduceCtorEq, Nat.reduceEqDiff, Nat.reduceLT, Nat.reduceLeDiff, Nat.reduceAdd, Nat.reduceMul, Nat.reduceSub, Int.reduceToNat, Int.reduceNeg, e1, g0, cC]
    repeat' (first
      | (refine RgK.mk rfl ?_; simp -dsimp only [go_sem, reduceIte, reduceCtorEq, Nat.reduceEqDiff, Nat.reduceLT, Nat.reduceLeDiff, Nat.reduceAdd, Nat.reduceMul, Nat.reduceSub, Int.reduceToNat, Int.reduceNeg, e1, g0, cC])
      | (refine Br.mk (fun h => ?_) (fun h => ?_) <;> simp -dsimp only [go_sem, reduceIte, reduceCtorEq, Nat.reduceEqDiff, Nat.reduceLT, Nat.reduceLeDiff, Nat.reduceAdd, Nat.reduceMul, Nat.reduceSub, Int.reduceToNat, Int.reduceNeg, h, e1, g0, cC])
      | (refine And.intro (by first | rfl | omega | decide | (refine ⟨?_, ?_⟩ <;> (first | rfl | omega | decide)) | (refine ⟨?_, ?_, ?_⟩ <;> (first | rfl | omega | decide)) | (refine ⟨?_, ?_, ?_, ?_⟩ <;> (first | rfl | omega | decide))) ?_)
      | fail)

    all_goals simp_all [widB]
theorem deckColumns (l : List (List Int)) : Vs.Fn Tryd.prog F.impl_deckColumns [] [.sl 1 (E cC l)] (.v (.int .i64 (widB l))) [] := by
  refine Cd.impl_deckColumns_ok.fn0 Tryd.mixed Cd.impl_deckColumns_nt Cd.impl_deckColumns_rs rfl fun X => ?_
  unfold Cd.impl_deckColumns
  simp -dsimp only [go_sem, reduceIte, reduceCtorEq, Nat.reduceEqDiff, Nat.reduceLT, Nat.reduceLeDiff, Nat.reduceAdd, Nat.reduceMul, Nat.reduceSub, Int.reduceToNat, Int.reduceNeg, cC]
  by_cases h0 : l.length = 0
  · have e1 : ((l.length : Int) == 0) = true := beq_iff_eq.2 (by omega)
    simp -dsimp only [go_sem, reduceIte, reduceCtorEq, Nat.reduceEqDiff, Nat.reduceLT, Nat.reduceLeDiff, Nat.reduceAdd, Nat.reduceMul, Nat.reduceSub, Int.reduceToNat, Int.reduceNeg, e1, cC]
    repeat' (first
      | (refine RgK.mk rfl ?_; simp -dsimp only [go_sem, reduceIte, reduceCtorEq, Nat.reduceEqDiff, Nat.reduceLT, Nat.reduceLeDiff, Nat.reduceAdd, Nat.reduceMul, Nat.reduceSub, Int.reduceToNat, Int.reduceNeg, e1, cC])
      | (refine Br.mk (fun h => ?_) (fun h => ?_) <;> simp -dsimp only [go_sem, reduceIte, reduceCtorEq, Nat.reduceEqDiff, Nat.reduceLT, Nat.reduceLeDiff, Nat.reduceAdd, Nat.reduceMul, Nat.reduceSub, Int.reduceToNat, Int.reduceNeg, h, e1, cC])
      | (refine CallK.flat (by first | exact columns l[0]) rfl ?_; simp -dsimp only [go_sem, reduceIte, reduceCtorEq, Nat.reduceEqDiff, Nat.reduceLT, Nat.reduceLeDiff, Nat.reduceAdd, Nat.reduceMul, Nat.reduceSub, Int.reduceToNat, Int.reduceNeg, e1, cC])
      | (refine CallK.pure (by first | exact columns l[0]) ?_; simp -dsimp only [go_sem, reduceIte, reduceCtorEq, Nat.reduceEqDiff, Nat.reduceLT, Nat.reduceLeDiff, Nat.reduceAdd, Nat.reduceMul, Nat.reduceSub, Int.reduceToNat, Int.reduceNeg, e1, cC])
      | (refine And.intro (by first | rfl | omega | decide | (refine ⟨?_, ?_⟩ <;> (first | rfl | omega | decide)) | (refine ⟨?_, ?_, ?_⟩ <;> (first | rfl | omega | decide)) | (refine ⟨?_, ?_, ?_, ?_⟩ <;> (first | rfl | omega | decide))) ?_)
      | fail)

    all_goals simp [widB, h0]
  · have e1 : ((l.length : Int) == 0) = false := beq_eq_false_iff_ne.2 (by omega)
    have h1 : 0 < l.length := by omega
    have g0 : (E cC l).getD 0 [] = [.sl 1 (E cI l[0])] := E_get h1
    have g1 : l.getD 0 [] = l[0] := by simp [List.getD, h1]
    simp -dsimp only [go_sem, reduceIte, reduceCtorEq, Nat.reduceEqDiff, Nat.reduceLT, Nat.reduceLeDiff, Nat.reduceAdd, Nat.reduceMul, Nat.reduceSub, Int.reduceToNat, Int.reduceNeg, e1, g0, cC]
    repeat' (first
      | (refine RgK.mk rfl ?_; simp -dsimp only [go_sem, reduceIte, reduceCtorEq, Nat.reduceEqDiff, Nat.reduceLT, Nat.reduceLeDiff, Nat.reduceAdd, Nat.reduceMul, Nat.reduceSub, Int.reduceToNat, Int.reduceNeg, e1, g0, cC])
      | (refine Br.mk (fun h => ?_) (fun h => ?_) <;> simp -dsimp only [go_sem, reduceIte, reduceCtorEq, Nat.reduceEqDiff, Nat.reduceLT, Nat.reduceLeDiff, Nat.reduceAdd, Nat.reduceMul, Nat.reduceSub, Int.reduceToNat, Int.reduceNeg, h, e1, g0, cC])
      | (refine CallK.flat (by first | exact columns l[0]) rfl ?_; simp -dsimp only [go_sem, reduceIte, reduceCtorEq, Nat.reduceEqDiff, Nat.reduceLT, Nat.reduceLeDiff, Nat.reduceAdd, Nat.reduceMul, Nat.reduceSub, Int.reduceToNat, Int.reduceNeg, e1, g0, cC])
      | (refine CallK.pure (by first | exact columns l[0]) ?_; simp -dsimp only [go_sem, reduceIte, reduceCtorEq, Nat.reduceEqDiff, Nat.reduceLT, Nat.reduceLeDiff, Nat.reduceAdd, Nat.reduceMul, Nat.reduceSub, Int.reduceToNat, Int.reduceNeg, e1, g0, cC])
      | (refine And.intro (by first | rfl | omega | decide | (refine ⟨?_, ?_⟩ <;> (first | rfl | omega | decide)) | (refine ⟨?_, ?_, ?_⟩ <;> (first | rfl | omega | decide)) | (refine ⟨?_, ?_, ?_, ?_⟩ <;> (first | rfl | omega | decide))) ?_)
      | fail)

    all_goals simp_all [widB]
theorem l02Field (fr to w : Int) : Vs.Fn Tryd.prog F.spec_l02Field [] [.agg (cFd fr to), .v (.int .i64 w)] (.v (.bool (fldB fr to w))) [] := by
  refine Cd.spec_l02Field_ok.fn0 Tryd.mixed Cd.spec_l02Field_nt Cd.spec_l02Field_rs rfl fun X => ?_
  unfold Cd.spec_l02Field
  simp -dsimp only [go_sem, reduceIte, reduceCtorEq, Nat.reduceEqDiff, Nat.reduceLT, Nat.reduceLeDiff, Nat.reduceAdd, Nat.reduceMul, Nat.reduceSub, Int.reduceToNat, Int.reduceNeg, cFd]
  repeat' (first
    | (refine RgK.mk rfl ?_; simp -dsimp only [go_sem, reduceIte, reduceCtorEq, Nat.reduceEqDiff, Nat.reduceLT, Nat.reduceLeDiff, Nat.reduceAdd, Nat.reduceMul, Nat.reduceSub, Int.reduceToNat, Int.reduceNeg, cFd])
    | (refine Br.mk (fun h => ?_) (fun h => ?_) <;> simp -dsimp only [go_sem, reduceIte, reduceCtorEq, Nat.reduceEqDiff, Nat.reduceLT, Nat.reduceLeDiff, Nat.reduceAdd, Nat.reduceMul, Nat.reduceSub, Int.reduceToNat, Int.reduceNeg, h, cFd])
    | (refine And.intro (by first | rfl | omega | decide | (refine ⟨?_, ?_⟩ <;> (first | rfl | omega | decide)) | (refine ⟨?_, ?_, ?_⟩ <;> (first | rfl | omega | decide)) | (refine ⟨?_, ?_, ?_, ?_⟩ <;> (first | rfl | omega | decide))) ?_)
    | fail)
  all_goals (first | (simp_all [fldB]; done) | (simp_all [fldB]; omega))

theorem isField (fr to w : Int) : Vs.Fn Tryd.prog F.impl_isField [] [.agg (cFd fr to), .v (.int .i64 w)] (.v (.bool (fldB fr to w))) [] := by
  refine Cd.impl_isField_ok.fn0 Tryd.mixed Cd.impl_isField_nt Cd.impl_isField_rs rfl fun X => ?_
  unfold Cd.impl_isField
  simp -dsimp only [go_sem, reduceIte, reduceCtorEq, Nat.reduceEqDiff, Nat.reduceLT, Nat.reduceLeDiff, Nat.reduceAdd, Nat.reduceMul, Nat.reduceSub, Int.reduceToNat, Int.reduceNeg, cFd]
  repeat' (first
    | (refine RgK.mk rfl ?_; simp -dsimp only [go_sem, reduceIte, reduceCtorEq, Nat.reduceEqDiff, Nat.reduceLT, Nat.reduceLeDiff, Nat.reduceAdd, Nat.reduceMul, Nat.reduceSub, Int.reduceToNat, Int.reduceNeg, cFd])
    | (refine Br.mk (fun h => ?_) (fun h => ?_) <;> simp -dsimp only [go_sem, reduceIte, reduceCtorEq, Nat.reduceEqDiff, Nat.reduceLT, Nat.reduceLeDiff, Nat.reduceAdd, Nat.reduceMul, Nat.reduceSub, Int.reduceToNat, Int.reduceNeg, h, cFd])
    | (refine And.intro (by first | rfl | omega | decide | (refine ⟨?_, ?_⟩ <;> (first | rfl | omega | decide)) | (refine ⟨?_, ?_, ?_⟩ <;> (first | rfl | omega | decide)) | (refine ⟨?_, ?_, ?_, ?_⟩ <;> (first | rfl | omega | decide))) ?_)
    | fail)
  all_goals (first | (simp_all [fldB]; done) | (simp_all [fldB]; omega))

theorem isNumberField (fr to w : Int) : Vs.Fn Tryd.prog F.impl_isNumberField [] [.agg (cFd fr to), .v (.int .i64 w)] (.v (.bool (numB fr to w))) [] := by
  refine Cd.impl_isNumberField_ok.fn0 Tryd.mixed Cd.impl_isNumberField_nt Cd.impl_isNumberField_rs rfl fun X => ?_
  unfold Cd.impl_isNumberField
  simp -dsimp only [go_sem, reduceIte, reduceCtorEq, Nat.reduceEqDiff, Nat.reduceLT, Nat.reduceLeDiff, Nat.reduceAdd, Nat.reduceMul, Nat.reduceSub, Int.reduceToNat, Int.reduceNeg, cFd]
  repeat' (first
    | (refine RgK.mk rfl ?_; simp -dsimp only [go_sem, reduceIte, reduceCtorEq, Nat.reduceEqDiff, Nat.reduceLT, Nat.reduceLeDiff, Nat.reduceAdd, Nat.reduceMul, Nat.reduceSub, Int.reduceToNat, Int.reduceNeg, cFd])
    | (refine Br.mk (fun h => ?_) (fun h => ?_) <;> simp -dsimp only [go_sem, reduceIte, reduceCtorEq, Nat.reduceEqDiff, Nat.reduceLT, Nat.reduceLeDiff, Nat.reduceAdd, Nat.reduceMul, Nat.reduceSub, Int.reduceToNat, Int.reduceNeg, h, cFd])
    | (refine CallK.flat (by first | exact isField fr to w) rfl ?_; simp -dsimp only [go_sem, reduceIte, reduceCtorEq, Nat.reduceEqDiff, Nat.reduceLT, Nat.reduceLeDiff, Nat.reduceAdd, Nat.reduceMul, Nat.reduceSub, Int.reduceToNat, Int.reduceNeg, cFd])
    | (refine CallK.pure (by first | exact isField fr to w) ?_; simp -dsimp only [go_sem, reduceIte, reduceCtorEq, Nat.reduceEqDiff, Nat.reduceLT, Nat.reduceLeDiff, Nat.reduceAdd, Nat.reduceMul, Nat.reduceSub, Int.reduceToNat, Int.reduceNeg, cFd])
    | (refine And.intro (by first | rfl | omega | decide | (refine ⟨?_, ?_⟩ <;> (first | rfl | omega | decide)) | (refine ⟨?_, ?_, ?_⟩ <;> (first | rfl | omega | decide)) | (refine ⟨?_, ?_, ?_, ?_⟩ <;> (first | rfl | omega | decide))) ?_)
    | fail)
  all_goals (simp_all [numB])


/-- the number in a card's field -/
def numC (fr to : Int) (c : List Int) : Int × Bool := numF ((c.take to.toNat).drop fr.toNat).dropLast (((c.take to.toNat).drop fr.toNat).getLastD 0)
/-- a field of this card, of at most 12 columns, of valid columns -/
def okP (fr to : Int) (c : List Int) : Prop := 0 ≤ fr ∧ fr < to ∧ to ≤ c.length ∧ to - fr ≤ 12 ∧ c.length ≤ 20 ∧ ∀ x, x ∈ c → 0 ≤ x ∧ x ≤ 4095
theorem okP_part {fr to : Int} {c : List Int} (h : okP fr to c) : ∃ u x, (c.take to.toNat).drop fr.toNat = u ++ [x] ∧ u.length + 1 ≤ 12 ∧ 0 ≤ x ∧ x ≤ 4095 ∧ numC fr to c = numF u x := by
  obtain ⟨h0, h1, h2, h3, h4, h5⟩ := h
  have hlen : ((c.take to.toNat).drop fr.toNat).length = to.toNat - fr.toNat := by simp; omega
  have hne : (c.take to.toNat).drop fr.toNat ≠ [] := by intro e; rw [e] at hlen; simp at hlen; omega
  have hd := List.dropLast_concat_getLast hne
  have hx := h5 (((c.take to.toNat).drop fr.toNat).getLast hne) (List.mem_of_mem_take (List.mem_of_mem_drop (List.getLast_mem hne)))
  refine ⟨_, _, hd.symm, ?_, hx.1, hx.2, ?_⟩
  · rw [List.length_dropLast, hlen]; omega
  · unfold numC
    rw [List.getLastD_eq_getLast?, List.getLast?_eq_some_getLast hne]
    rfl
theorem numC_le {fr to : Int} {c : List Int} (h : okP fr to c) : -1000000000000 ≤ (numC fr to c).1 ∧ (numC fr to c).1 ≤ 1000000000000 := by
  obtain ⟨u, x, _, hu, _, _, hn⟩ := okP_part h
  rw [hn]; exact numF_le u x hu
theorem numberInC {fr to : Int} {c : List Int} (h : okP fr to c) : Vs.Fn Tryd.prog F.impl_numberIn [] [.agg (cC c), .agg (cFd fr to)] (.tup [.v (.int .i64 (numC fr to c).1), .v (.bool (numC fr to c).2)]) [] := by
  obtain ⟨u, x, hp, hu, _, _, hn⟩ := okP_part h
  obtain ⟨h0, h1, h2, h3, h4, h5⟩ := h
  rw [hn]
  exact numberIn c fr to u x h0 (by omega) h2 hp hu
theorem l03NumberC {fr to : Int} {c : List Int} (h : okP fr to c) : Vs.Fn Tryd.prog F.spec_l03Number [] [.sl 1 (E cI ((c.take to.toNat).drop fr.toNat))] (.tup [.v (.int .i64 (numC fr to c).1), .v (.bool (numC fr to c).2)]) [] := by
  obtain ⟨u, x, hp, hu, hx0, hx1, hn⟩ := okP_part h
  rw [hn, hp]
  exact l03Number u x hx0 hx1 hu
theorem partC {fr to : Int} {c : List Int} (h : okP fr to c) : Vs.Fn Tryd.prog F.spec_l02Part [] [.ro (cC c), .agg (cFd fr to)] (.sl 1 (E cI ((c.take to.toNat).drop fr.toNat))) [] := by
  obtain ⟨h0, h1, h2, h3, h4, h5⟩ := h
  exact part c fr to h0 (by omega) h2
/-- sums and digit sums of the numbers of a deck's field -/
def ctlG (fr to : Int) : List (List Int) → Int → Int → Option (Int × Int)
  | [], s, d => some (s, d)
  | c :: r, s, d => if (numC fr to c).2 = true then ctlG fr to r (W (s + (numC fr to c).1)) (W (d + (dsN (numC fr to c).1.natAbs : Int))) else none
def ctlT (fr to : Int) (l : List (List Int)) : Int × Int × Int :=
  match ctlG fr to l 0 0 with
  | some (s, d) => (l.length, s, d)
  | none => (0, 0, 0)
def cCt (x : Int × Int × Int) : List AV := [.v (.int .i64 x.1), .v (.int .i64 x.2.1), .v (.int .i64 x.2.2)]
def ctlB (fr to : Int) (l : List (List Int)) : Bool := (ctlG fr to l 0 0).isSome
end Go.Proofs.YthpokkcbbpapdaaDoor
