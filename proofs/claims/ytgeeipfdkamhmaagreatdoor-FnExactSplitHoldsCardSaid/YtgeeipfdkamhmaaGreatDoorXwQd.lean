/- Fields of cards: comparisons, keys, steps down. -/
import Derived.Test.YtgeeipfdkamhmaaGreatDoorXwQc
import Derived.Test.YtgeeipfdkamhmaaGreatDoorXuS
import Derived.Test.YtgeeipfdkamhmaaGreatDoorXuF
namespace Go.Proofs.YtgeeipfdkamhmaaGreatDoor
open Go.Vs
set_option linter.unusedSimpArgs false
set_option linter.unusedVariables false
attribute [local irreducible] Vs.Fn chOK areCh chTo chAt l03 chB rk cd3 chI
/-- the columns of a field -/
def fH (fr to : Int) (c : List Int) : List Int := (c.take to.toNat).drop fr.toNat
def okF (fr to : Int) (c : List Int) : Prop := 0 ≤ fr ∧ fr < to ∧ to ≤ c.length ∧ c.length ≤ 20
theorem fH_len {fr to : Int} {c : List Int} (h : okF fr to c) : (fH fr to c).length = to.toNat - fr.toNat := by
  obtain ⟨h0, h1, h2, h3⟩ := h
  simp [fH]; omega
theorem fH_le {fr to : Int} {c : List Int} (h : okF fr to c) : (fH fr to c).length ≤ 1048576 := by
  have := fH_len h
  obtain ⟨h0, h1, h2, h3⟩ := h
  omega
theorem okF_b {fr to : Int} {c : List Int} (h : okF fr to c) : 0 ≤ fr ∧ fr ≤ to ∧ to ≤ ((E cI c).length : Int) := by
  obtain ⟨h0, h1, h2, h3⟩ := h
  rw [E_len]; omega
theorem okF_b2 {fr to : Int} {c : List Int} (h : okF fr to c) : 0 ≤ fr ∧ fr ≤ to ∧ to ≤ (c.length : Int) := by
  obtain ⟨h0, h1, h2, h3⟩ := h
  omega
theorem fH_E (fr to : Int) (c : List Int) : ((E cI c).take to.toNat).drop fr.toNat = E cI (fH fr to c) := by simp [fH, E, List.map_take, List.map_drop]
def cmF (fr to : Int) (a b : List Int) : Int := cmpR (fH fr to a) (fH fr to b)
/-- all decks' fields have characters -/
def allCh (fr to : Int) (l : List (List Int)) : Bool := l.all fun c => hasCh (fH fr to c)
theorem compareFields (a b : List Int) (fr to : Int) (ha : okF fr to a) (hb : okF fr to b) : Vs.Fn Tryz.prog F.impl_compareFields [] [.agg (cC a), .agg (cC b), .agg (cFd fr to)] (.v (.int .i64 (cmF fr to a b))) [] := by
  refine Cd.impl_compareFields_ok.fn0 Tryz.mixed Cd.impl_compareFields_nt Cd.impl_compareFields_rs rfl fun X => ?_
  unfold Cd.impl_compareFields
  simp -dsimp only [go_sem, reduceIte, reduceCtorEq, Nat.reduceEqDiff, Nat.reduceLT, Nat.reduceLeDiff, Nat.reduceAdd, Nat.reduceMul, Nat.reduceSub, Int.reduceToNat, Int.reduceNeg, fH_E, E_len, cC, cFd, List.replicate_succ, List.replicate_zero, List.flatten_cons, List.flatten_nil, List.cons_append, List.nil_append, List.set_cons_zero, List.set_cons_succ, List.length_cons, List.length_nil, List.length_set]
  repeat' (first
    | (refine RgK.mk rfl ?_; simp -dsimp only [go_sem, reduceIte, reduceCtorEq, Nat.reduceEqDiff, Nat.reduceLT, Nat.reduceLeDiff, Nat.reduceAdd, Nat.reduceMul, Nat.reduceSub, Int.reduceToNat, Int.reduceNeg, fH_E, E_len, cC, cFd, List.replicate_succ, List.replicate_zero, List.flatten_cons, List.flatten_nil, List.cons_append, List.nil_append, List.set_cons_zero, List.set_cons_succ, List.length_cons, List.length_nil, List.length_set])
    | (refine Br.mk (fun h => ?_) (fun h => ?_) <;> simp -dsimp only [go_sem, reduceIte, reduceCtorEq, Nat.reduceEqDiff, Nat.reduceLT, Nat.reduceLeDiff, Nat.reduceAdd, Nat.reduceMul, Nat.reduceSub, Int.reduceToNat, Int.reduceNeg, h, fH_E, E_len, cC, cFd, List.replicate_succ, List.replicate_zero, List.flatten_cons, List.flatten_nil, List.cons_append, List.nil_append, List.set_cons_zero, List.set_cons_succ, List.length_cons, List.length_nil, List.length_set])
    | (refine CallK.flat (by first | exact compareHoles _ _ (fH_le ha) ((fH_len ha).trans (fH_len hb).symm)) rfl ?_; simp -dsimp only [go_sem, reduceIte, reduceCtorEq, Nat.reduceEqDiff, Nat.reduceLT, Nat.reduceLeDiff, Nat.reduceAdd, Nat.reduceMul, Nat.reduceSub, Int.reduceToNat, Int.reduceNeg, fH_E, E_len, cC, cFd, List.replicate_succ, List.replicate_zero, List.flatten_cons, List.flatten_nil, List.cons_append, List.nil_append, List.set_cons_zero, List.set_cons_succ, List.length_cons, List.length_nil, List.length_set])
    | (refine CallK.pure (by first | exact compareHoles _ _ (fH_le ha) ((fH_len ha).trans (fH_len hb).symm)) ?_; simp -dsimp only [go_sem, reduceIte, reduceCtorEq, Nat.reduceEqDiff, Nat.reduceLT, Nat.reduceLeDiff, Nat.reduceAdd, Nat.reduceMul, Nat.reduceSub, Int.reduceToNat, Int.reduceNeg, fH_E, E_len, cC, cFd, List.replicate_succ, List.replicate_zero, List.flatten_cons, List.flatten_nil, List.cons_append, List.nil_append, List.set_cons_zero, List.set_cons_succ, List.length_cons, List.length_nil, List.length_set])
    | (refine And.intro (by first | rfl | omega | decide | exact okF_b ha | exact okF_b hb | exact ⟨rfl, okF_b ha⟩ | exact ⟨rfl, okF_b hb⟩ | exact okF_b2 ha | exact okF_b2 hb | exact ⟨rfl, okF_b2 ha⟩ | exact ⟨rfl, okF_b2 hb⟩ | (refine ⟨?_, ?_⟩ <;> (first | rfl | omega | decide | exact okF_b ha | exact okF_b hb | exact ⟨rfl, okF_b ha⟩ | exact ⟨rfl, okF_b hb⟩ | exact okF_b2 ha | exact okF_b2 hb | exact ⟨rfl, okF_b2 ha⟩ | exact ⟨rfl, okF_b2 hb⟩)) | (refine ⟨?_, ?_, ?_⟩ <;> (first | rfl | omega | decide | exact okF_b ha | exact okF_b hb | exact ⟨rfl, okF_b ha⟩ | exact ⟨rfl, okF_b hb⟩ | exact okF_b2 ha | exact okF_b2 hb | exact ⟨rfl, okF_b2 ha⟩ | exact ⟨rfl, okF_b2 hb⟩)) | (refine ⟨?_, ?_, ?_, ?_⟩ <;> (first | rfl | omega | decide | exact okF_b ha | exact okF_b hb | exact ⟨rfl, okF_b ha⟩ | exact ⟨rfl, okF_b hb⟩ | exact okF_b2 ha | exact okF_b2 hb | exact ⟨rfl, okF_b2 ha⟩ | exact ⟨rfl, okF_b2 hb⟩))) ?_)
    | fail)
  all_goals (simp_all [cmF])

theorem hasField (a : List Int) (fr to : Int) (ha : okF fr to a) : Vs.Fn Tryz.prog F.impl_hasField [] [.agg (cC a), .agg (cFd fr to)] (.v (.bool (hasCh (fH fr to a)))) [] := by
  refine Cd.impl_hasField_ok.fn0 Tryz.mixed Cd.impl_hasField_nt Cd.impl_hasField_rs rfl fun X => ?_
  unfold Cd.impl_hasField
  simp -dsimp only [go_sem, reduceIte, reduceCtorEq, Nat.reduceEqDiff, Nat.reduceLT, Nat.reduceLeDiff, Nat.reduceAdd, Nat.reduceMul, Nat.reduceSub, Int.reduceToNat, Int.reduceNeg, fH_E, E_len, cC, cFd, List.replicate_succ, List.replicate_zero, List.flatten_cons, List.flatten_nil, List.cons_append, List.nil_append, List.set_cons_zero, List.set_cons_succ, List.length_cons, List.length_nil, List.length_set]
  repeat' (first
    | (refine RgK.mk rfl ?_; simp -dsimp only [go_sem, reduceIte, reduceCtorEq, Nat.reduceEqDiff, Nat.reduceLT, Nat.reduceLeDiff, Nat.reduceAdd, Nat.reduceMul, Nat.reduceSub, Int.reduceToNat, Int.reduceNeg, fH_E, E_len, cC, cFd, List.replicate_succ, List.replicate_zero, List.flatten_cons, List.flatten_nil, List.cons_append, List.nil_append, List.set_cons_zero, List.set_cons_succ, List.length_cons, List.length_nil, List.length_set])
    | (refine Br.mk (fun h => ?_) (fun h => ?_) <;> simp -dsimp only [go_sem, reduceIte, reduceCtorEq, Nat.reduceEqDiff, Nat.reduceLT, Nat.reduceLeDiff, Nat.reduceAdd, Nat.reduceMul, Nat.reduceSub, Int.reduceToNat, Int.reduceNeg, h, fH_E, E_len, cC, cFd, List.replicate_succ, List.replicate_zero, List.flatten_cons, List.flatten_nil, List.cons_append, List.nil_append, List.set_cons_zero, List.set_cons_succ, List.length_cons, List.length_nil, List.length_set])
    | (refine CallK.flat (by first | exact hasCharacters _ (fH_le ha)) rfl ?_; simp -dsimp only [go_sem, reduceIte, reduceCtorEq, Nat.reduceEqDiff, Nat.reduceLT, Nat.reduceLeDiff, Nat.reduceAdd, Nat.reduceMul, Nat.reduceSub, Int.reduceToNat, Int.reduceNeg, fH_E, E_len, cC, cFd, List.replicate_succ, List.replicate_zero, List.flatten_cons, List.flatten_nil, List.cons_append, List.nil_append, List.set_cons_zero, List.set_cons_succ, List.length_cons, List.length_nil, List.length_set])
    | (refine CallK.pure (by first | exact hasCharacters _ (fH_le ha)) ?_; simp -dsimp only [go_sem, reduceIte, reduceCtorEq, Nat.reduceEqDiff, Nat.reduceLT, Nat.reduceLeDiff, Nat.reduceAdd, Nat.reduceMul, Nat.reduceSub, Int.reduceToNat, Int.reduceNeg, fH_E, E_len, cC, cFd, List.replicate_succ, List.replicate_zero, List.flatten_cons, List.flatten_nil, List.cons_append, List.nil_append, List.set_cons_zero, List.set_cons_succ, List.length_cons, List.length_nil, List.length_set])
    | (refine And.intro (by first | rfl | omega | decide | exact okF_b ha | exact ⟨rfl, okF_b ha⟩ | exact okF_b2 ha | exact ⟨rfl, okF_b2 ha⟩ | (refine ⟨?_, ?_⟩ <;> (first | rfl | omega | decide | exact okF_b ha | exact ⟨rfl, okF_b ha⟩ | exact okF_b2 ha | exact ⟨rfl, okF_b2 ha⟩)) | (refine ⟨?_, ?_, ?_⟩ <;> (first | rfl | omega | decide | exact okF_b ha | exact ⟨rfl, okF_b ha⟩ | exact okF_b2 ha | exact ⟨rfl, okF_b2 ha⟩)) | (refine ⟨?_, ?_, ?_, ?_⟩ <;> (first | rfl | omega | decide | exact okF_b ha | exact ⟨rfl, okF_b ha⟩ | exact okF_b2 ha | exact ⟨rfl, okF_b2 ha⟩))) ?_)
    | fail)
  all_goals (simp_all)

theorem haveField1 (a : List Int) (fr to : Int) (ha : okF fr to a) : Vs.Fn Tryz.prog F.impl_haveField_1 [] [.agg (cC a), .ro (cFd fr to)] (.v (.bool (!hasCh (fH fr to a)))) [] := by
  refine Cd.impl_haveField_1_ok.fn0 Tryz.mixed Cd.impl_haveField_1_nt Cd.impl_haveField_1_rs rfl fun X => ?_
  unfold Cd.impl_haveField_1
  simp -dsimp only [go_sem, reduceIte, reduceCtorEq, Nat.reduceEqDiff, Nat.reduceLT, Nat.reduceLeDiff, Nat.reduceAdd, Nat.reduceMul, Nat.reduceSub, Int.reduceToNat, Int.reduceNeg, cC, cFd, List.replicate_succ, List.replicate_zero, List.flatten_cons, List.flatten_nil, List.cons_append, List.nil_append, List.set_cons_zero, List.set_cons_succ, List.length_cons, List.length_nil, List.length_set]
  repeat' (first
    | (refine RgK.mk rfl ?_; simp -dsimp only [go_sem, reduceIte, reduceCtorEq, Nat.reduceEqDiff, Nat.reduceLT, Nat.reduceLeDiff, Nat.reduceAdd, Nat.reduceMul, Nat.reduceSub, Int.reduceToNat, Int.reduceNeg, cC, cFd, List.replicate_succ, List.replicate_zero, List.flatten_cons, List.flatten_nil, List.cons_append, List.nil_append, List.set_cons_zero, List.set_cons_succ, List.length_cons, List.length_nil, List.length_set])
    | (refine Br.mk (fun h => ?_) (fun h => ?_) <;> simp -dsimp only [go_sem, reduceIte, reduceCtorEq, Nat.reduceEqDiff, Nat.reduceLT, Nat.reduceLeDiff, Nat.reduceAdd, Nat.reduceMul, Nat.reduceSub, Int.reduceToNat, Int.reduceNeg, h, cC, cFd, List.replicate_succ, List.replicate_zero, List.flatten_cons, List.flatten_nil, List.cons_append, List.nil_append, List.set_cons_zero, List.set_cons_succ, List.length_cons, List.length_nil, List.length_set])
    | (refine CallK.flat (by first | exact hasField a fr to ha) rfl ?_; simp -dsimp only [go_sem, reduceIte, reduceCtorEq, Nat.reduceEqDiff, Nat.reduceLT, Nat.reduceLeDiff, Nat.reduceAdd, Nat.reduceMul, Nat.reduceSub, Int.reduceToNat, Int.reduceNeg, cC, cFd, List.replicate_succ, List.replicate_zero, List.flatten_cons, List.flatten_nil, List.cons_append, List.nil_append, List.set_cons_zero, List.set_cons_succ, List.length_cons, List.length_nil, List.length_set])
    | (refine CallK.pure (by first | exact hasField a fr to ha) ?_; simp -dsimp only [go_sem, reduceIte, reduceCtorEq, Nat.reduceEqDiff, Nat.reduceLT, Nat.reduceLeDiff, Nat.reduceAdd, Nat.reduceMul, Nat.reduceSub, Int.reduceToNat, Int.reduceNeg, cC, cFd, List.replicate_succ, List.replicate_zero, List.flatten_cons, List.flatten_nil, List.cons_append, List.nil_append, List.set_cons_zero, List.set_cons_succ, List.length_cons, List.length_nil, List.length_set])
    | (refine And.intro (by first | rfl | omega | decide | (refine ⟨?_, ?_⟩ <;> (first | rfl | omega | decide)) | (refine ⟨?_, ?_, ?_⟩ <;> (first | rfl | omega | decide)) | (refine ⟨?_, ?_, ?_, ?_⟩ <;> (first | rfl | omega | decide))) ?_)
    | fail)
  all_goals (simp_all)

theorem idxHF (l : List (List Int)) (fr to : Int) (ho : ∀ c, c ∈ l → okF fr to c) (hl : l.length ≤ 1048576) : Vs.Fn Tryz.prog F.slices_IndexFunc___impl_Card_impl_Card_ [] [.sl 1 (E cC l), .fn F.impl_haveField_1 [.ro (cFd fr to)]] (.v (.int .i64 (idxP (fun c => !hasCh (fH fr to c)) l))) [] :=
  ixA_fn Tryz.mixed (k := 1) Cd.slices_IndexFunc___impl_Card_impl_Card__ok Cd.slices_IndexFunc___impl_Card_impl_Card__nt Cd.slices_IndexFunc___impl_Card_impl_Card__rs rfl (fun c => !hasCh (fH fr to c)) F.impl_haveField_1 [.ro (cFd fr to)] rfl (fun _ => rfl) (fun _ => rfl) (fun x hx => haveField1 x fr to (ho x hx)) hl
theorem conHF (l : List (List Int)) (fr to : Int) (ho : ∀ c, c ∈ l → okF fr to c) (hl : l.length ≤ 1048576) : Vs.Fn Tryz.prog F.slices_ContainsFunc___impl_Card_impl_Card_ [] [.sl 1 (E cC l), .fn F.impl_haveField_1 [.ro (cFd fr to)]] (.v (.bool (l.any (fun c => !hasCh (fH fr to c))))) [] :=
  ct_fn Tryz.mixed (g := F.slices_IndexFunc___impl_Card_impl_Card_) Cd.slices_ContainsFunc___impl_Card_impl_Card__ok Cd.slices_ContainsFunc___impl_Card_impl_Card__nt Cd.slices_ContainsFunc___impl_Card_impl_Card__rs rfl (fun c => !hasCh (fH fr to c)) F.impl_haveField_1 [.ro (cFd fr to)] rfl (idxHF l fr to ho hl)
theorem any_allCh (fr to : Int) (l : List (List Int)) : (!l.any fun c => !hasCh (fH fr to c)) = allCh fr to l := by
  unfold allCh
  induction l with
  | nil => rfl
  | cons x r ih => simp only [List.any_cons, List.all_cons, Bool.not_or, Bool.not_not, ih]
theorem haveField (l : List (List Int)) (fr to : Int) (ho : ∀ c, c ∈ l → okF fr to c) (hl : l.length ≤ 1048576) : Vs.Fn Tryz.prog F.impl_haveField [] [.sl 1 (E cC l), .agg (cFd fr to)] (.v (.bool (allCh fr to l))) [] := by
  refine Cd.impl_haveField_ok.fn0 Tryz.mixed Cd.impl_haveField_nt Cd.impl_haveField_rs rfl fun X => ?_
  unfold Cd.impl_haveField
  simp -dsimp only [go_sem, reduceIte, reduceCtorEq, Nat.reduceEqDiff, Nat.reduceLT, Nat.reduceLeDiff, Nat.reduceAdd, Nat.reduceMul, Nat.reduceSub, Int.reduceToNat, Int.reduceNeg, cFd]
  repeat' (first
    | (refine RgK.mk rfl ?_; simp -dsimp only [go_sem, reduceIte, reduceCtorEq, Nat.reduceEqDiff, Nat.reduceLT, Nat.reduceLeDiff, Nat.reduceAdd, Nat.reduceMul, Nat.reduceSub, Int.reduceToNat, Int.reduceNeg, cFd])
    | (refine Br.mk (fun h => ?_) (fun h => ?_) <;> simp -dsimp only [go_sem, reduceIte, reduceCtorEq, Nat.reduceEqDiff, Nat.reduceLT, Nat.reduceLeDiff, Nat.reduceAdd, Nat.reduceMul, Nat.reduceSub, Int.reduceToNat, Int.reduceNeg, h, cFd])
    | (refine CallK.flat (by first | exact conHF l fr to ho hl) rfl ?_; simp -dsimp only [go_sem, reduceIte, reduceCtorEq, Nat.reduceEqDiff, Nat.reduceLT, Nat.reduceLeDiff, Nat.reduceAdd, Nat.reduceMul, Nat.reduceSub, Int.reduceToNat, Int.reduceNeg, cFd])
    | (refine CallK.pure (by first | exact conHF l fr to ho hl) ?_; simp -dsimp only [go_sem, reduceIte, reduceCtorEq, Nat.reduceEqDiff, Nat.reduceLT, Nat.reduceLeDiff, Nat.reduceAdd, Nat.reduceMul, Nat.reduceSub, Int.reduceToNat, Int.reduceNeg, cFd])
    | (refine And.intro (by first | rfl | omega | decide | (refine ⟨?_, ?_⟩ <;> (first | rfl | omega | decide)) | (refine ⟨?_, ?_, ?_⟩ <;> (first | rfl | omega | decide)) | (refine ⟨?_, ?_, ?_, ?_⟩ <;> (first | rfl | omega | decide))) ?_)
    | fail)
  all_goals (first | (simp_all [any_allCh]; done) | (refine ret_eq ?_; have e := any_allCh fr to l; simp_all))

theorem hasEqual1 (a d : List Int) (fr to : Int) (ha : okF fr to a) (hd : okF fr to d) : Vs.Fn Tryz.prog F.impl_hasEqual_1 [] [.agg (cC a), .ro (cC d), .ro (cFd fr to)] (.v (.bool (cmF fr to a d == 0))) [] := by
  refine Cd.impl_hasEqual_1_ok.fn0 Tryz.mixed Cd.impl_hasEqual_1_nt Cd.impl_hasEqual_1_rs rfl fun X => ?_
  unfold Cd.impl_hasEqual_1
  simp -dsimp only [go_sem, reduceIte, reduceCtorEq, Nat.reduceEqDiff, Nat.reduceLT, Nat.reduceLeDiff, Nat.reduceAdd, Nat.reduceMul, Nat.reduceSub, Int.reduceToNat, Int.reduceNeg, cC, cFd, List.replicate_succ, List.replicate_zero, List.flatten_cons, List.flatten_nil, List.cons_append, List.nil_append, List.set_cons_zero, List.set_cons_succ, List.length_cons, List.length_nil, List.length_set]
  repeat' (first
    | (refine RgK.mk rfl ?_; simp -dsimp only [go_sem, reduceIte, reduceCtorEq, Nat.reduceEqDiff, Nat.reduceLT, Nat.reduceLeDiff, Nat.reduceAdd, Nat.reduceMul, Nat.reduceSub, Int.reduceToNat, Int.reduceNeg, cC, cFd, List.replicate_succ, List.replicate_zero, List.flatten_cons, List.flatten_nil, List.cons_append, List.nil_append, List.set_cons_zero, List.set_cons_succ, List.length_cons, List.length_nil, List.length_set])
    | (refine Br.mk (fun h => ?_) (fun h => ?_) <;> simp -dsimp only [go_sem, reduceIte, reduceCtorEq, Nat.reduceEqDiff, Nat.reduceLT, Nat.reduceLeDiff, Nat.reduceAdd, Nat.reduceMul, Nat.reduceSub, Int.reduceToNat, Int.reduceNeg, h, cC, cFd, List.replicate_succ, List.replicate_zero, List.flatten_cons, List.flatten_nil, List.cons_append, List.nil_append, List.set_cons_zero, List.set_cons_succ, List.length_cons, List.length_nil, List.length_set])
    | (refine CallK.flat (by first | exact compareFields a d fr to ha hd) rfl ?_; simp -dsimp only [go_sem, reduceIte, reduceCtorEq, Nat.reduceEqDiff, Nat.reduceLT, Nat.reduceLeDiff, Nat.reduceAdd, Nat.reduceMul, Nat.reduceSub, Int.reduceToNat, Int.reduceNeg, cC, cFd, List.replicate_succ, List.replicate_zero, List.flatten_cons, List.flatten_nil, List.cons_append, List.nil_append, List.set_cons_zero, List.set_cons_succ, List.length_cons, List.length_nil, List.length_set])
    | (refine CallK.pure (by first | exact compareFields a d fr to ha hd) ?_; simp -dsimp only [go_sem, reduceIte, reduceCtorEq, Nat.reduceEqDiff, Nat.reduceLT, Nat.reduceLeDiff, Nat.reduceAdd, Nat.reduceMul, Nat.reduceSub, Int.reduceToNat, Int.reduceNeg, cC, cFd, List.replicate_succ, List.replicate_zero, List.flatten_cons, List.flatten_nil, List.cons_append, List.nil_append, List.set_cons_zero, List.set_cons_succ, List.length_cons, List.length_nil, List.length_set])
    | (refine And.intro (by first | rfl | omega | decide | (refine ⟨?_, ?_⟩ <;> (first | rfl | omega | decide)) | (refine ⟨?_, ?_, ?_⟩ <;> (first | rfl | omega | decide)) | (refine ⟨?_, ?_, ?_, ?_⟩ <;> (first | rfl | omega | decide))) ?_)
    | fail)
  all_goals (simp_all)

theorem idxHE (l : List (List Int)) (fr to : Int) (d : List Int) (hd : okF fr to d) (ho : ∀ c, c ∈ l → okF fr to c) (hl : l.length ≤ 1048576) : Vs.Fn Tryz.prog F.slices_IndexFunc___impl_Card_impl_Card_ [] [.sl 1 (E cC l), .fn F.impl_hasEqual_1 [.ro (cC d), .ro (cFd fr to)]] (.v (.int .i64 (idxP (fun c => cmF fr to c d == 0) l))) [] :=
  ixA_fn Tryz.mixed (k := 1) Cd.slices_IndexFunc___impl_Card_impl_Card__ok Cd.slices_IndexFunc___impl_Card_impl_Card__nt Cd.slices_IndexFunc___impl_Card_impl_Card__rs rfl (fun c => cmF fr to c d == 0) F.impl_hasEqual_1 [.ro (cC d), .ro (cFd fr to)] rfl (fun _ => rfl) (fun _ => rfl) (fun x hx => hasEqual1 x d fr to (ho x hx) hd) hl
theorem conHE (l : List (List Int)) (fr to : Int) (d : List Int) (hd : okF fr to d) (ho : ∀ c, c ∈ l → okF fr to c) (hl : l.length ≤ 1048576) : Vs.Fn Tryz.prog F.slices_ContainsFunc___impl_Card_impl_Card_ [] [.sl 1 (E cC l), .fn F.impl_hasEqual_1 [.ro (cC d), .ro (cFd fr to)]] (.v (.bool (l.any (fun c => cmF fr to c d == 0)))) [] :=
  ct_fn Tryz.mixed (g := F.slices_IndexFunc___impl_Card_impl_Card_) Cd.slices_ContainsFunc___impl_Card_impl_Card__ok Cd.slices_ContainsFunc___impl_Card_impl_Card__nt Cd.slices_ContainsFunc___impl_Card_impl_Card__rs rfl (fun c => cmF fr to c d == 0) F.impl_hasEqual_1 [.ro (cC d), .ro (cFd fr to)] rfl (idxHE l fr to d hd ho hl)
theorem hasEqual (l : List (List Int)) (d : List Int) (fr to : Int) (hd : okF fr to d) (ho : ∀ c, c ∈ l → okF fr to c) (hl : l.length ≤ 1048576) : Vs.Fn Tryz.prog F.impl_hasEqual [] [.sl 1 (E cC l), .agg (cC d), .agg (cFd fr to)] (.v (.bool (l.any (fun c => cmF fr to c d == 0)))) [] := by
  refine Cd.impl_hasEqual_ok.fn0 Tryz.mixed Cd.impl_hasEqual_nt Cd.impl_hasEqual_rs rfl fun X => ?_
  unfold Cd.impl_hasEqual
  simp -dsimp only [go_sem, reduceIte, reduceCtorEq, Nat.reduceEqDiff, Nat.reduceLT, Nat.reduceLeDiff, Nat.reduceAdd, Nat.reduceMul, Nat.reduceSub, Int.reduceToNat, Int.reduceNeg, cFd, cC]
  repeat' (first
    | (refine RgK.mk rfl ?_; simp -dsimp only [go_sem, reduceIte, reduceCtorEq, Nat.reduceEqDiff, Nat.reduceLT, Nat.reduceLeDiff, Nat.reduceAdd, Nat.reduceMul, Nat.reduceSub, Int.reduceToNat, Int.reduceNeg, cFd, cC])
    | (refine Br.mk (fun h => ?_) (fun h => ?_) <;> simp -dsimp only [go_sem, reduceIte, reduceCtorEq, Nat.reduceEqDiff, Nat.reduceLT, Nat.reduceLeDiff, Nat.reduceAdd, Nat.reduceMul, Nat.reduceSub, Int.reduceToNat, Int.reduceNeg, h, cFd, cC])
    | (refine CallK.flat (by first | exact conHE l fr to d hd ho hl) rfl ?_; simp -dsimp only [go_sem, reduceIte, reduceCtorEq, Nat.reduceEqDiff, Nat.reduceLT, Nat.reduceLeDiff, Nat.reduceAdd, Nat.reduceMul, Nat.reduceSub, Int.reduceToNat, Int.reduceNeg, cFd, cC])
    | (refine CallK.pure (by first | exact conHE l fr to d hd ho hl) ?_; simp -dsimp only [go_sem, reduceIte, reduceCtorEq, Nat.reduceEqDiff, Nat.reduceLT, Nat.reduceLeDiff, Nat.reduceAdd, Nat.reduceMul, Nat.reduceSub, Int.reduceToNat, Int.reduceNeg, cFd, cC])
    | (refine And.intro (by first | rfl | omega | decide | (refine ⟨?_, ?_⟩ <;> (first | rfl | omega | decide)) | (refine ⟨?_, ?_, ?_⟩ <;> (first | rfl | omega | decide)) | (refine ⟨?_, ?_, ?_, ?_⟩ <;> (first | rfl | omega | decide))) ?_)
    | fail)
  all_goals (simp_all)

theorem l03Key (a : List Int) (fr to : Int) (ha : okF fr to a) : Vs.Fn Tryz.prog F.spec_l03Key [] [.ro (cC a), .agg (cFd fr to)] (.tup [.v (.string (l03T (fH fr to a)).1), .v (.bool (l03T (fH fr to a)).2)]) [] := by
  refine Cd.spec_l03Key_ok.fn0 Tryz.mixed Cd.spec_l03Key_nt Cd.spec_l03Key_rs rfl fun X => ?_
  unfold Cd.spec_l03Key
  simp -dsimp only [go_sem, reduceIte, reduceCtorEq, Nat.reduceEqDiff, Nat.reduceLT, Nat.reduceLeDiff, Nat.reduceAdd, Nat.reduceMul, Nat.reduceSub, Int.reduceToNat, Int.reduceNeg, cFd]
  repeat' (first
    | (refine RgK.mk rfl ?_; simp -dsimp only [go_sem, reduceIte, reduceCtorEq, Nat.reduceEqDiff, Nat.reduceLT, Nat.reduceLeDiff, Nat.reduceAdd, Nat.reduceMul, Nat.reduceSub, Int.reduceToNat, Int.reduceNeg, cFd])
    | (refine Br.mk (fun h => ?_) (fun h => ?_) <;> simp -dsimp only [go_sem, reduceIte, reduceCtorEq, Nat.reduceEqDiff, Nat.reduceLT, Nat.reduceLeDiff, Nat.reduceAdd, Nat.reduceMul, Nat.reduceSub, Int.reduceToNat, Int.reduceNeg, h, cFd])
    | (refine CallK.flat (by first | exact part a fr to (okF_b2 ha).1 (okF_b2 ha).2.1 (okF_b2 ha).2.2 | exact l03Text (fH fr to a) (fH_le ha)) rfl ?_; simp -dsimp only [go_sem, reduceIte, reduceCtorEq, Nat.reduceEqDiff, Nat.reduceLT, Nat.reduceLeDiff, Nat.reduceAdd, Nat.reduceMul, Nat.reduceSub, Int.reduceToNat, Int.reduceNeg, cFd])
    | (refine CallK.pure (by first | exact part a fr to (okF_b2 ha).1 (okF_b2 ha).2.1 (okF_b2 ha).2.2 | exact l03Text (fH fr to a) (fH_le ha)) ?_; simp -dsimp only [go_sem, reduceIte, reduceCtorEq, Nat.reduceEqDiff, Nat.reduceLT, Nat.reduceLeDiff, Nat.reduceAdd, Nat.reduceMul, Nat.reduceSub, Int.reduceToNat, Int.reduceNeg, cFd])
    | (refine And.intro (by first | rfl | omega | decide | (refine ⟨?_, ?_⟩ <;> (first | rfl | omega | decide)) | (refine ⟨?_, ?_, ?_⟩ <;> (first | rfl | omega | decide)) | (refine ⟨?_, ?_, ?_, ?_⟩ <;> (first | rfl | omega | decide))) ?_)
    | fail)
  all_goals (simp_all)


def cSt (s : ByteArray) : List AV := [.v (.string s)]
/-- the texts of a field -/
def keyL (fr to : Int) (l : List (List Int)) : List ByteArray := l.map fun c => txt (fH fr to c)
def keyC (fr to : Int) (l : List (List Int)) : Int := if deckB l then (if fldB fr to (widB l) then (if allCh fr to l then 0 else 8) else 2) else 1
def keyV (fr to : Int) (l : List (List Int)) : AV := if keyC fr to l = 0 then .sl 1 (E cSt (keyL fr to l)) else .v (.slice none 0 0)
theorem okF_of {l : List (List Int)} {fr to : Int} (hd : deckB l = true) (hn : fldB fr to (widB l) = true) : ∀ c, c ∈ l → okF fr to c := by
  intro c hc
  simp only [deckB, Bool.and_eq_true, List.all_eq_true, decide_eq_true_eq] at hd
  simp only [fldB, Bool.and_eq_true, decide_eq_true_eq] at hn
  obtain ⟨hcb, hcl⟩ := hd.1 c hc
  simp only [cardB, inB, Bool.and_eq_true, List.all_eq_true, decide_eq_true_eq] at hcb
  have h0 : l.length ≠ 0 := by intro e; rw [List.eq_nil_of_length_eq_zero e] at hc; cases hc
  rw [widB, if_neg h0, ← hcl] at hn
  obtain ⟨h1, h2, h3⟩ := hn
  obtain ⟨h5, h6, _⟩ := hcb
  exact ⟨h1, h2, h3, by omega⟩
theorem key_row {fr to : Int} {l : List (List Int)} {i : Nat} (hi : i < l.length) : E cSt ((keyL fr to l).take i) ++ [[.v (.string (txt (fH fr to l[i])))]] = E cSt ((keyL fr to l).take (i + 1)) := by
  have h2 : i < (keyL fr to l).length := by simpa [keyL] using hi
  rw [take_succ h2, E_append]; simp [E, cSt, keyL]
theorem key_len {fr to : Int} {l : List (List Int)} {i : Nat} (hi : i ≤ l.length) : ((keyL fr to l).take i).length = i := by simp [keyL]; omega
theorem key_all (fr to : Int) (l : List (List Int)) : (keyL fr to l).take l.length = keyL fr to l := List.take_of_length_le (by simp [keyL])
theorem l07Keys (l : List (List Int)) (fr to : Int) (hs : ∀ x, x ∈ l → x.length ≤ 1048576) (hl : l.length ≤ 1048576) : Vs.Fn Tryz.prog F.spec_l07Keys [] [.sl 1 (E cC l), .agg (cFd fr to)] (.tup [keyV fr to l, .v (.int .i64 (keyC fr to l))]) [] := by
  cases hd : deckB l
  · refine Cd.spec_l07Keys_ok.fn0 Tryz.mixed Cd.spec_l07Keys_nt Cd.spec_l07Keys_rs rfl fun X => ?_
    unfold Cd.spec_l07Keys
    simp -dsimp only [go_sem, reduceIte, reduceCtorEq, Nat.reduceEqDiff, Nat.reduceLT, Nat.reduceLeDiff, Nat.reduceAdd, Nat.reduceMul, Nat.reduceSub, Int.reduceToNat, Int.reduceNeg, cC, cFd, List.replicate_succ, List.replicate_zero, List.flatten_cons, List.flatten_nil, List.cons_append, List.nil_append, List.set_cons_zero, List.set_cons_succ, List.length_cons, List.length_nil, List.length_set, hd]
    repeat' (first
    | (refine RgK.mk rfl ?_; simp -dsimp only [go_sem, reduceIte, reduceCtorEq, Nat.reduceEqDiff, Nat.reduceLT, Nat.reduceLeDiff, Nat.reduceAdd, Nat.reduceMul, Nat.reduceSub, Int.reduceToNat, Int.reduceNeg, cC, cFd, List.replicate_succ, List.replicate_zero, List.flatten_cons, List.flatten_nil, List.cons_append, List.nil_append, List.set_cons_zero, List.set_cons_succ, List.length_cons, List.length_nil, List.length_set, hd])
    | (refine Br.mk (fun h => ?_) (fun h => ?_) <;> simp -dsimp only [go_sem, reduceIte, reduceCtorEq, Nat.reduceEqDiff, Nat.reduceLT, Nat.reduceLeDiff, Nat.reduceAdd, Nat.reduceMul, Nat.reduceSub, Int.reduceToNat, Int.reduceNeg, h, cC, cFd, List.replicate_succ, List.replicate_zero, List.flatten_cons, List.flatten_nil, List.cons_append, List.nil_append, List.set_cons_zero, List.set_cons_succ, List.length_cons, List.length_nil, List.length_set, hd])
    | (refine CallK.flat (by first | exact l02Deck l hs hl) rfl ?_; simp -dsimp only [go_sem, reduceIte, reduceCtorEq, Nat.reduceEqDiff, Nat.reduceLT, Nat.reduceLeDiff, Nat.reduceAdd, Nat.reduceMul, Nat.reduceSub, Int.reduceToNat, Int.reduceNeg, cC, cFd, List.replicate_succ, List.replicate_zero, List.flatten_cons, List.flatten_nil, List.cons_append, List.nil_append, List.set_cons_zero, List.set_cons_succ, List.length_cons, List.length_nil, List.length_set, hd])
    | (refine CallK.pure (by first | exact l02Deck l hs hl) ?_; simp -dsimp only [go_sem, reduceIte, reduceCtorEq, Nat.reduceEqDiff, Nat.reduceLT, Nat.reduceLeDiff, Nat.reduceAdd, Nat.reduceMul, Nat.reduceSub, Int.reduceToNat, Int.reduceNeg, cC, cFd, List.replicate_succ, List.replicate_zero, List.flatten_cons, List.flatten_nil, List.cons_append, List.nil_append, List.set_cons_zero, List.set_cons_succ, List.length_cons, List.length_nil, List.length_set, hd])
    | (refine And.intro (by first | rfl | omega | decide | (refine ⟨?_, ?_⟩ <;> (first | rfl | omega | decide)) | (refine ⟨?_, ?_, ?_⟩ <;> (first | rfl | omega | decide)) | (refine ⟨?_, ?_, ?_, ?_⟩ <;> (first | rfl | omega | decide))) ?_)
    | fail)
    all_goals simp [keyV, keyC, hd]
  cases hf : fldB fr to (widB l)
  · refine Cd.spec_l07Keys_ok.fn0 Tryz.mixed Cd.spec_l07Keys_nt Cd.spec_l07Keys_rs rfl fun X => ?_
    unfold Cd.spec_l07Keys
    simp -dsimp only [go_sem, reduceIte, reduceCtorEq, Nat.reduceEqDiff, Nat.reduceLT, Nat.reduceLeDiff, Nat.reduceAdd, Nat.reduceMul, Nat.reduceSub, Int.reduceToNat, Int.reduceNeg, cC, cFd, List.replicate_succ, List.replicate_zero, List.flatten_cons, List.flatten_nil, List.cons_append, List.nil_append, List.set_cons_zero, List.set_cons_succ, List.length_cons, List.length_nil, List.length_set, hd, hf]
    repeat' (first
    | (refine RgK.mk rfl ?_; simp -dsimp only [go_sem, reduceIte, reduceCtorEq, Nat.reduceEqDiff, Nat.reduceLT, Nat.reduceLeDiff, Nat.reduceAdd, Nat.reduceMul, Nat.reduceSub, Int.reduceToNat, Int.reduceNeg, cC, cFd, List.replicate_succ, List.replicate_zero, List.flatten_cons, List.flatten_nil, List.cons_append, List.nil_append, List.set_cons_zero, List.set_cons_succ, List.length_cons, List.length_nil, List.length_set, hd, hf])
    | (refine Br.mk (fun h => ?_) (fun h => ?_) <;> simp -dsimp only [go_sem, reduceIte, reduceCtorEq, Nat.reduceEqDiff, Nat.reduceLT, Nat.reduceLeDiff, Nat.reduceAdd, Nat.reduceMul, Nat.reduceSub, Int.reduceToNat, Int.reduceNeg, h, cC, cFd, List.replicate_succ, List.replicate_zero, List.flatten_cons, List.flatten_nil, List.cons_append, List.nil_append, List.set_cons_zero, List.set_cons_succ, List.length_cons, List.length_nil, List.length_set, hd, hf])
    | (refine CallK.flat (by first | exact l02Deck l hs hl | exact l07Width l | exact l02Field fr to _) rfl ?_; simp -dsimp only [go_sem, reduceIte, reduceCtorEq, Nat.reduceEqDiff, Nat.reduceLT, Nat.reduceLeDiff, Nat.reduceAdd, Nat.reduceMul, Nat.reduceSub, Int.reduceToNat, Int.reduceNeg, cC, cFd, List.replicate_succ, List.replicate_zero, List.flatten_cons, List.flatten_nil, List.cons_append, List.nil_append, List.set_cons_zero, List.set_cons_succ, List.length_cons, List.length_nil, List.length_set, hd, hf])
    | (refine CallK.pure (by first | exact l02Deck l hs hl | exact l07Width l | exact l02Field fr to _) ?_; simp -dsimp only [go_sem, reduceIte, reduceCtorEq, Nat.reduceEqDiff, Nat.reduceLT, Nat.reduceLeDiff, Nat.reduceAdd, Nat.reduceMul, Nat.reduceSub, Int.reduceToNat, Int.reduceNeg, cC, cFd, List.replicate_succ, List.replicate_zero, List.flatten_cons, List.flatten_nil, List.cons_append, List.nil_append, List.set_cons_zero, List.set_cons_succ, List.length_cons, List.length_nil, List.length_set, hd, hf])
    | (refine And.intro (by first | rfl | omega | decide | (refine ⟨?_, ?_⟩ <;> (first | rfl | omega | decide)) | (refine ⟨?_, ?_, ?_⟩ <;> (first | rfl | omega | decide)) | (refine ⟨?_, ?_, ?_, ?_⟩ <;> (first | rfl | omega | decide))) ?_)
    | fail)
    all_goals simp [keyV, keyC, hd, hf]
  have ho := okF_of hd hf
  refine Cd.spec_l07Keys_ok.fn0 Tryz.mixed Cd.spec_l07Keys_nt Cd.spec_l07Keys_rs rfl fun X => ?_
  unfold Cd.spec_l07Keys
  simp -dsimp only [go_sem, reduceIte, reduceCtorEq, Nat.reduceEqDiff, Nat.reduceLT, Nat.reduceLeDiff, Nat.reduceAdd, Nat.reduceMul, Nat.reduceSub, Int.reduceToNat, Int.reduceNeg, cC, cFd, List.replicate_succ, List.replicate_zero, List.flatten_cons, List.flatten_nil, List.cons_append, List.nil_append, List.set_cons_zero, List.set_cons_succ, List.length_cons, List.length_nil, List.length_set, hd, hf]
  repeat' (first
    | (refine RgK.mk rfl ?_; simp -dsimp only [go_sem, reduceIte, reduceCtorEq, Nat.reduceEqDiff, Nat.reduceLT, Nat.reduceLeDiff, Nat.reduceAdd, Nat.reduceMul, Nat.reduceSub, Int.reduceToNat, Int.reduceNeg, cC, cFd, List.replicate_succ, List.replicate_zero, List.flatten_cons, List.flatten_nil, List.cons_append, List.nil_append, List.set_cons_zero, List.set_cons_succ, List.length_cons, List.length_nil, List.length_set, hd, hf])
    | (refine Br.mk (fun h => ?_) (fun h => ?_) <;> simp -dsimp only [go_sem, reduceIte, reduceCtorEq, Nat.reduceEqDiff, Nat.reduceLT, Nat.reduceLeDiff, Nat.reduceAdd, Nat.reduceMul, Nat.reduceSub, Int.reduceToNat, Int.reduceNeg, h, cC, cFd, List.replicate_succ, List.replicate_zero, List.flatten_cons, List.flatten_nil, List.cons_append, List.nil_append, List.set_cons_zero, List.set_cons_succ, List.length_cons, List.length_nil, List.length_set, hd, hf])
    | (refine CallK.flat (by first | exact l02Deck l hs hl | exact l07Width l | exact l02Field fr to _) rfl ?_; simp -dsimp only [go_sem, reduceIte, reduceCtorEq, Nat.reduceEqDiff, Nat.reduceLT, Nat.reduceLeDiff, Nat.reduceAdd, Nat.reduceMul, Nat.reduceSub, Int.reduceToNat, Int.reduceNeg, cC, cFd, List.replicate_succ, List.replicate_zero, List.flatten_cons, List.flatten_nil, List.cons_append, List.nil_append, List.set_cons_zero, List.set_cons_succ, List.length_cons, List.length_nil, List.length_set, hd, hf])
    | (refine CallK.pure (by first | exact l02Deck l hs hl | exact l07Width l | exact l02Field fr to _) ?_; simp -dsimp only [go_sem, reduceIte, reduceCtorEq, Nat.reduceEqDiff, Nat.reduceLT, Nat.reduceLeDiff, Nat.reduceAdd, Nat.reduceMul, Nat.reduceSub, Int.reduceToNat, Int.reduceNeg, cC, cFd, List.replicate_succ, List.replicate_zero, List.flatten_cons, List.flatten_nil, List.cons_append, List.nil_append, List.set_cons_zero, List.set_cons_succ, List.length_cons, List.length_nil, List.length_set, hd, hf])
    | (refine And.intro (by first | rfl | omega | decide | (refine ⟨?_, ?_⟩ <;> (first | rfl | omega | decide)) | (refine ⟨?_, ?_, ?_⟩ <;> (first | rfl | omega | decide)) | (refine ⟨?_, ?_, ?_, ?_⟩ <;> (first | rfl | omega | decide))) ?_)
    | fail)
  refine LoopK.at (drawn_ok Tryz.mixed) (X := { zz : Nat × (Unit) // zz.1 ≤ l.length ∧ (l.take zz.1).all (fun c => hasCh (fH fr to c)) = true }) (fun zz => [(6, .loc (.t 6 0) 0 zz.1.1), (7, .v (.int .i64 zz.1.1))]) (fun zz => [(.t 6 0, .arr 1 (E cSt ((keyL fr to l).take zz.1.1)) false)]) (fun zz => l.length - zz.1.1) ⟨(0, ()), by omega, by simp⟩ ?_ ?_
  · simp [Vs.LeL, Vs.look, Vs.hlook, Vs.sput, Vs.sputs, Vs.hset, Vs.hputs, Vs.E]
  · rintro ⟨⟨i, _⟩, hi, hg⟩
    dsimp only at hi hg
    simp -dsimp only [go_sem, reduceIte, reduceCtorEq, Nat.reduceEqDiff, Nat.reduceLT, Nat.reduceLeDiff, Nat.reduceAdd, Nat.reduceMul, Nat.reduceSub, Int.reduceToNat, Int.reduceNeg, cC, cFd, List.replicate_succ, List.replicate_zero, List.flatten_cons, List.flatten_nil, List.cons_append, List.nil_append, List.set_cons_zero, List.set_cons_succ, List.length_cons, List.length_nil, List.length_set]
    refine Br.mk (fun hc => ?_) fun hc => ?_
    · have hlt : i < l.length := by first | (simpa using hc) | (simp at hc; omega)
      have hw := wrap_succ hlt hl
      have hk := ho _ (List.getElem_mem hlt)
      have hap := key_row (fr := fr) (to := to) hlt
      have hkl := key_len (fr := fr) (to := to) (l := l) (i := i) (by omega)
      have hm : (E cC l).getD i [] = [.sl 1 (E cI l[i])] := E_get hlt
      cases hb : hasCh (fH fr to l[i])
      · have e1 : l03T (fH fr to l[i]) = (⟨#[]⟩, false) := by simp [l03T, hb]
        have e2 : allCh fr to l = false := not_all (p := fun c => hasCh (fH fr to c)) hlt hb
        simp -dsimp only [go_sem, reduceIte, reduceCtorEq, Nat.reduceEqDiff, Nat.reduceLT, Nat.reduceLeDiff, Nat.reduceAdd, Nat.reduceMul, Nat.reduceSub, Int.reduceToNat, Int.reduceNeg, hw, hm, e1, cC, cFd, List.replicate_succ, List.replicate_zero, List.flatten_cons, List.flatten_nil, List.cons_append, List.nil_append, List.set_cons_zero, List.set_cons_succ, List.length_cons, List.length_nil, List.length_set]
        repeat' (first
          | (refine RgK.mk rfl ?_; simp -dsimp only [go_sem, reduceIte, reduceCtorEq, Nat.reduceEqDiff, Nat.reduceLT, Nat.reduceLeDiff, Nat.reduceAdd, Nat.reduceMul, Nat.reduceSub, Int.reduceToNat, Int.reduceNeg, hw, hm, e1, cC, cFd, List.replicate_succ, List.replicate_zero, List.flatten_cons, List.flatten_nil, List.cons_append, List.nil_append, List.set_cons_zero, List.set_cons_succ, List.length_cons, List.length_nil, List.length_set])
          | (refine Br.mk (fun h => ?_) (fun h => ?_) <;> simp -dsimp only [go_sem, reduceIte, reduceCtorEq, Nat.reduceEqDiff, Nat.reduceLT, Nat.reduceLeDiff, Nat.reduceAdd, Nat.reduceMul, Nat.reduceSub, Int.reduceToNat, Int.reduceNeg, h, hw, hm, e1, cC, cFd, List.replicate_succ, List.replicate_zero, List.flatten_cons, List.flatten_nil, List.cons_append, List.nil_append, List.set_cons_zero, List.set_cons_succ, List.length_cons, List.length_nil, List.length_set])
          | (refine CallK.flat (by first | exact l03Key _ fr to hk) rfl ?_; simp -dsimp only [go_sem, reduceIte, reduceCtorEq, Nat.reduceEqDiff, Nat.reduceLT, Nat.reduceLeDiff, Nat.reduceAdd, Nat.reduceMul, Nat.reduceSub, Int.reduceToNat, Int.reduceNeg, hw, hm, e1, cC, cFd, List.replicate_succ, List.replicate_zero, List.flatten_cons, List.flatten_nil, List.cons_append, List.nil_append, List.set_cons_zero, List.set_cons_succ, List.length_cons, List.length_nil, List.length_set])
          | (refine CallK.pure (by first | exact l03Key _ fr to hk) ?_; simp -dsimp only [go_sem, reduceIte, reduceCtorEq, Nat.reduceEqDiff, Nat.reduceLT, Nat.reduceLeDiff, Nat.reduceAdd, Nat.reduceMul, Nat.reduceSub, Int.reduceToNat, Int.reduceNeg, hw, hm, e1, cC, cFd, List.replicate_succ, List.replicate_zero, List.flatten_cons, List.flatten_nil, List.cons_append, List.nil_append, List.set_cons_zero, List.set_cons_succ, List.length_cons, List.length_nil, List.length_set])
          | (refine And.intro (by first | rfl | omega | decide | (refine ⟨?_, ?_⟩ <;> (first | rfl | omega | decide)) | (refine ⟨?_, ?_, ?_⟩ <;> (first | rfl | omega | decide)) | (refine ⟨?_, ?_, ?_, ?_⟩ <;> (first | rfl | omega | decide))) ?_)
          | fail)

        all_goals first | omega | (refine ret_eq ?_; simp [keyV, keyC, hd, hf, e2]; done) | (simp [keyV, keyC, hd, hf, e2]; done)
      · have e1 : l03T (fH fr to l[i]) = (txt (fH fr to l[i]), true) := by simp [l03T, hb]
        simp -dsimp only [go_sem, reduceIte, reduceCtorEq, Nat.reduceEqDiff, Nat.reduceLT, Nat.reduceLeDiff, Nat.reduceAdd, Nat.reduceMul, Nat.reduceSub, Int.reduceToNat, Int.reduceNeg, hw, hm, e1, hap, hkl, E_len, cC, cFd, List.replicate_succ, List.replicate_zero, List.flatten_cons, List.flatten_nil, List.cons_append, List.nil_append, List.set_cons_zero, List.set_cons_succ, List.length_cons, List.length_nil, List.length_set]
        repeat' (first
          | (refine RgK.mk rfl ?_; simp -dsimp only [go_sem, reduceIte, reduceCtorEq, Nat.reduceEqDiff, Nat.reduceLT, Nat.reduceLeDiff, Nat.reduceAdd, Nat.reduceMul, Nat.reduceSub, Int.reduceToNat, Int.reduceNeg, hw, hm, e1, hap, hkl, E_len, cC, cFd, List.replicate_succ, List.replicate_zero, List.flatten_cons, List.flatten_nil, List.cons_append, List.nil_append, List.set_cons_zero, List.set_cons_succ, List.length_cons, List.length_nil, List.length_set])
          | (refine Br.mk (fun h => ?_) (fun h => ?_) <;> simp -dsimp only [go_sem, reduceIte, reduceCtorEq, Nat.reduceEqDiff, Nat.reduceLT, Nat.reduceLeDiff, Nat.reduceAdd, Nat.reduceMul, Nat.reduceSub, Int.reduceToNat, Int.reduceNeg, h, hw, hm, e1, hap, hkl, E_len, cC, cFd, List.replicate_succ, List.replicate_zero, List.flatten_cons, List.flatten_nil, List.cons_append, List.nil_append, List.set_cons_zero, List.set_cons_succ, List.length_cons, List.length_nil, List.length_set])
          | (refine CallK.flat (by first | exact l03Key _ fr to hk) rfl ?_; simp -dsimp only [go_sem, reduceIte, reduceCtorEq, Nat.reduceEqDiff, Nat.reduceLT, Nat.reduceLeDiff, Nat.reduceAdd, Nat.reduceMul, Nat.reduceSub, Int.reduceToNat, Int.reduceNeg, hw, hm, e1, hap, hkl, E_len, cC, cFd, List.replicate_succ, List.replicate_zero, List.flatten_cons, List.flatten_nil, List.cons_append, List.nil_append, List.set_cons_zero, List.set_cons_succ, List.length_cons, List.length_nil, List.length_set])
          | (refine CallK.pure (by first | exact l03Key _ fr to hk) ?_; simp -dsimp only [go_sem, reduceIte, reduceCtorEq, Nat.reduceEqDiff, Nat.reduceLT, Nat.reduceLeDiff, Nat.reduceAdd, Nat.reduceMul, Nat.reduceSub, Int.reduceToNat, Int.reduceNeg, hw, hm, e1, hap, hkl, E_len, cC, cFd, List.replicate_succ, List.replicate_zero, List.flatten_cons, List.flatten_nil, List.cons_append, List.nil_append, List.set_cons_zero, List.set_cons_succ, List.length_cons, List.length_nil, List.length_set])
          | (refine And.intro (by first | rfl | omega | decide | exact ⟨by omega, by omega⟩ | exact ⟨rfl, by omega, by omega⟩ | (refine ⟨?_, ?_⟩ <;> (first | rfl | omega | decide | exact ⟨by omega, by omega⟩ | exact ⟨rfl, by omega, by omega⟩)) | (refine ⟨?_, ?_, ?_⟩ <;> (first | rfl | omega | decide | exact ⟨by omega, by omega⟩ | exact ⟨rfl, by omega, by omega⟩)) | (refine ⟨?_, ?_, ?_, ?_⟩ <;> (first | rfl | omega | decide | exact ⟨by omega, by omega⟩ | exact ⟨rfl, by omega, by omega⟩))) ?_)
          | fail)

        all_goals first | omega | (exact ⟨⟨(i + 1, ()), by first | omega | simp | exact ⟨by omega, by omega⟩, take_succ_all (p := fun c => hasCh (fH fr to c)) hlt hg hb⟩, by simp [Vs.LeL, Vs.look, Vs.hlook, Vs.sput, Vs.sputs, Vs.hset, Vs.hputs], by simp only; omega⟩)
    · have hge : i = l.length := by
        have : ¬ i < l.length := by first | (simpa using hc) | (simp at hc; omega)
        omega
      subst hge
      simp -dsimp only [go_sem, reduceIte, reduceCtorEq, Nat.reduceEqDiff, Nat.reduceLT, Nat.reduceLeDiff, Nat.reduceAdd, Nat.reduceMul, Nat.reduceSub, Int.reduceToNat, Int.reduceNeg, cC, cFd, List.replicate_succ, List.replicate_zero, List.flatten_cons, List.flatten_nil, List.cons_append, List.nil_append, List.set_cons_zero, List.set_cons_succ, List.length_cons, List.length_nil, List.length_set]
      have hall : allCh fr to l = true := by simpa [allCh] using hg
      have hkl : (E cSt ((keyL fr to l).take l.length)).take l.length = E cSt (keyL fr to l) := by rw [key_all]; exact List.take_of_length_le (by simp [Vs.E, keyL])
      have hk2 : (E cSt (keyL fr to l)).take l.length = E cSt (keyL fr to l) := List.take_of_length_le (by simp [Vs.E, keyL])
      simp [keyV, keyC, hd, hf, hall, hkl, hk2, key_all]

/-- the places of the cards that are less than the one before them -/
def stpTo (fr to : Int) (l : List (List Int)) : Nat → List Int
  | 0 => []
  | i + 1 => stpTo fr to l i ++ (if cmF fr to (l.getD (i + 1) []) (l.getD i []) < 0 then [((i + 1 : Nat) : Int)] else [])
def stp (fr to : Int) (l : List (List Int)) : List Int := stpTo fr to l (l.length - 1)
def ascB (fr to : Int) (l : List (List Int)) : Bool := ((stp fr to l).length : Int) == 0
theorem stpTo_len (fr to : Int) (l : List (List Int)) : ∀ i, (stpTo fr to l i).length ≤ i
  | 0 => by simp [stpTo]
  | i + 1 => by
    have := stpTo_len fr to l i
    rw [stpTo, List.length_append]
    split <;> simp <;> omega
theorem wrap2 {i n : Nat} (h : i < n - 1) (hn : n ≤ 1048576) : IntKind.i64.wrap (((i + 1 : Nat) : Int) + 1) = ((i + 1 + 1 : Nat) : Int) := by rw [wrap_in (by omega) (by omega)]; omega
theorem wrap3 {i n : Nat} (h : i < n - 1) (hn : n ≤ 1048576) : IntKind.i64.wrap (((i + 1 : Nat) : Int) - 1) = (i : Int) := by rw [wrap_in (by omega) (by omega)]; omega
theorem steps (l : List (List Int)) (fr to : Int) (ho : ∀ c, c ∈ l → okF fr to c) (hl : l.length ≤ 1048576) : Vs.Fn Tryz.prog F.impl_steps [] [.sl 1 (E cC l), .agg (cFd fr to)] (.sl 1 (E cI (stp fr to l))) [] := by
  refine Cd.impl_steps_ok.fn0 Tryz.mixed Cd.impl_steps_nt Cd.impl_steps_rs rfl fun X => ?_
  unfold Cd.impl_steps
  simp -dsimp only [go_sem, reduceIte, reduceCtorEq, Nat.reduceEqDiff, Nat.reduceLT, Nat.reduceLeDiff, Nat.reduceAdd, Nat.reduceMul, Nat.reduceSub, Int.reduceToNat, Int.reduceNeg, cC, cFd, List.replicate_succ, List.replicate_zero, List.flatten_cons, List.flatten_nil, List.cons_append, List.nil_append, List.set_cons_zero, List.set_cons_succ, List.length_cons, List.length_nil, List.length_set]
  refine ⟨⟨by omega, by omega⟩, ?_⟩
  refine LoopK.at (drawn_ok Tryz.mixed) (X := { zz : Nat × (Unit) // zz.1 ≤ l.length - 1 ∧ True }) (fun zz => [(5, .loc (.t 5 0) 0 (stpTo fr to l zz.1.1).length), (6, .v (.int .i64 ((zz.1.1 + 1 : Nat) : Int)))]) (fun zz => [(.t 5 0, .arr 1 (E cI (stpTo fr to l zz.1.1)) false)]) (fun zz => l.length - 1 - zz.1.1) ⟨(0, ()), by omega, trivial⟩ ?_ ?_
  · simp [Vs.LeL, Vs.look, Vs.hlook, Vs.sput, Vs.sputs, Vs.hset, Vs.hputs, Vs.E, stpTo]
  · rintro ⟨⟨i, _⟩, hi, hg⟩
    dsimp only at hi hg
    simp -dsimp only [go_sem, reduceIte, reduceCtorEq, Nat.reduceEqDiff, Nat.reduceLT, Nat.reduceLeDiff, Nat.reduceAdd, Nat.reduceMul, Nat.reduceSub, Int.reduceToNat, Int.reduceNeg, cC, cFd, List.replicate_succ, List.replicate_zero, List.flatten_cons, List.flatten_nil, List.cons_append, List.nil_append, List.set_cons_zero, List.set_cons_succ, List.length_cons, List.length_nil, List.length_set]
    refine Br.mk (fun hc => ?_) fun hc => ?_
    · have hlt : i < l.length - 1 := by first | (simpa using hc) | (simp at hc; omega)
      have hw := wrap_succ hlt (by omega)
      have hl1 : i + 1 < l.length := by omega
      have hl0 : i < l.length := by omega
      have hk1 := ho _ (List.getElem_mem hl1)
      have hk0 := ho _ (List.getElem_mem hl0)
      have hm1 : (E cC l).getD (i + 1) [] = [.sl 1 (E cI l[i + 1])] := E_get hl1
      have hm0 : (E cC l).getD i [] = [.sl 1 (E cI l[i])] := E_get hl0
      have hw2 := wrap2 hlt hl
      have hw3 := wrap3 hlt hl
      have hsl := stpTo_len fr to l i
      have g1 : l.getD (i + 1) [] = l[i + 1] := by simp [List.getD, hl1]
      have g0 : l.getD i [] = l[i] := by simp [List.getD, hl0]
      by_cases hz : cmF fr to l[i + 1] l[i] < 0
      · have e1 : decide (cmF fr to l[i + 1] l[i] < 0) = true := decide_eq_true hz
        have hs : stpTo fr to l (i + 1) = stpTo fr to l i ++ [((i + 1 : Nat) : Int)] := by rw [stpTo, g1, g0, if_pos hz]
        have hap : E cI (stpTo fr to l i) ++ [[.v (.int .i64 ((i + 1 : Nat) : Int))]] = E cI (stpTo fr to l (i + 1)) := by rw [hs, E_append]; rfl
        have hln : (stpTo fr to l (i + 1)).length = (stpTo fr to l i).length + 1 := by rw [hs]; simp
        simp -dsimp only [go_sem, reduceIte, reduceCtorEq, Nat.reduceEqDiff, Nat.reduceLT, Nat.reduceLeDiff, Nat.reduceAdd, Nat.reduceMul, Nat.reduceSub, Int.reduceToNat, Int.reduceNeg, hw2, hw3, hm1, hm0, e1, hap, E_len, cC, cFd, List.replicate_succ, List.replicate_zero, List.flatten_cons, List.flatten_nil, List.cons_append, List.nil_append, List.set_cons_zero, List.set_cons_succ, List.length_cons, List.length_nil, List.length_set]
        repeat' (first
          | (refine RgK.mk rfl ?_; simp -dsimp only [go_sem, reduceIte, reduceCtorEq, Nat.reduceEqDiff, Nat.reduceLT, Nat.reduceLeDiff, Nat.reduceAdd, Nat.reduceMul, Nat.reduceSub, Int.reduceToNat, Int.reduceNeg, hw2, hw3, hm1, hm0, e1, hap, E_len, cC, cFd, List.replicate_succ, List.replicate_zero, List.flatten_cons, List.flatten_nil, List.cons_append, List.nil_append, List.set_cons_zero, List.set_cons_succ, List.length_cons, List.length_nil, List.length_set])
          | (refine Br.mk (fun h => ?_) (fun h => ?_) <;> simp -dsimp only [go_sem, reduceIte, reduceCtorEq, Nat.reduceEqDiff, Nat.reduceLT, Nat.reduceLeDiff, Nat.reduceAdd, Nat.reduceMul, Nat.reduceSub, Int.reduceToNat, Int.reduceNeg, h, hw2, hw3, hm1, hm0, e1, hap, E_len, cC, cFd, List.replicate_succ, List.replicate_zero, List.flatten_cons, List.flatten_nil, List.cons_append, List.nil_append, List.set_cons_zero, List.set_cons_succ, List.length_cons, List.length_nil, List.length_set])
          | (refine CallK.flat (by first | exact compareFields _ _ fr to hk1 hk0) rfl ?_; simp -dsimp only [go_sem, reduceIte, reduceCtorEq, Nat.reduceEqDiff, Nat.reduceLT, Nat.reduceLeDiff, Nat.reduceAdd, Nat.reduceMul, Nat.reduceSub, Int.reduceToNat, Int.reduceNeg, hw2, hw3, hm1, hm0, e1, hap, E_len, cC, cFd, List.replicate_succ, List.replicate_zero, List.flatten_cons, List.flatten_nil, List.cons_append, List.nil_append, List.set_cons_zero, List.set_cons_succ, List.length_cons, List.length_nil, List.length_set])
          | (refine CallK.pure (by first | exact compareFields _ _ fr to hk1 hk0) ?_; simp -dsimp only [go_sem, reduceIte, reduceCtorEq, Nat.reduceEqDiff, Nat.reduceLT, Nat.reduceLeDiff, Nat.reduceAdd, Nat.reduceMul, Nat.reduceSub, Int.reduceToNat, Int.reduceNeg, hw2, hw3, hm1, hm0, e1, hap, E_len, cC, cFd, List.replicate_succ, List.replicate_zero, List.flatten_cons, List.flatten_nil, List.cons_append, List.nil_append, List.set_cons_zero, List.set_cons_succ, List.length_cons, List.length_nil, List.length_set])
          | (refine And.intro (by first | rfl | omega | decide | exact ⟨by omega, by omega⟩ | exact ⟨rfl, by omega, by omega⟩ | (refine ⟨?_, ?_⟩ <;> (first | rfl | omega | decide | exact ⟨by omega, by omega⟩ | exact ⟨rfl, by omega, by omega⟩)) | (refine ⟨?_, ?_, ?_⟩ <;> (first | rfl | omega | decide | exact ⟨by omega, by omega⟩ | exact ⟨rfl, by omega, by omega⟩)) | (refine ⟨?_, ?_, ?_, ?_⟩ <;> (first | rfl | omega | decide | exact ⟨by omega, by omega⟩ | exact ⟨rfl, by omega, by omega⟩))) ?_)
          | fail)

        all_goals first | omega | (exact ⟨⟨(i + 1, ()), by first | omega | simp | exact ⟨by omega, by omega⟩, trivial⟩, by simp [Vs.LeL, Vs.look, Vs.hlook, Vs.sput, Vs.sputs, Vs.hset, Vs.hputs, hln], by simp only; omega⟩)
      · have e1 : decide (cmF fr to l[i + 1] l[i] < 0) = false := decide_eq_false hz
        have hs : stpTo fr to l (i + 1) = stpTo fr to l i := by rw [stpTo, g1, g0, if_neg hz]; simp
        simp -dsimp only [go_sem, reduceIte, reduceCtorEq, Nat.reduceEqDiff, Nat.reduceLT, Nat.reduceLeDiff, Nat.reduceAdd, Nat.reduceMul, Nat.reduceSub, Int.reduceToNat, Int.reduceNeg, hw2, hw3, hm1, hm0, e1, E_len, cC, cFd, List.replicate_succ, List.replicate_zero, List.flatten_cons, List.flatten_nil, List.cons_append, List.nil_append, List.set_cons_zero, List.set_cons_succ, List.length_cons, List.length_nil, List.length_set]
        repeat' (first
          | (refine RgK.mk rfl ?_; simp -dsimp only [go_sem, reduceIte, reduceCtorEq, Nat.reduceEqDiff, Nat.reduceLT, Nat.reduceLeDiff, Nat.reduceAdd, Nat.reduceMul, Nat.reduceSub, Int.reduceToNat, Int.reduceNeg, hw2, hw3, hm1, hm0, e1, E_len, cC, cFd, List.replicate_succ, List.replicate_zero, List.flatten_cons, List.flatten_nil, List.cons_append, List.nil_append, List.set_cons_zero, List.set_cons_succ, List.length_cons, List.length_nil, List.length_set])
          | (refine Br.mk (fun h => ?_) (fun h => ?_) <;> simp -dsimp only [go_sem, reduceIte, reduceCtorEq, Nat.reduceEqDiff, Nat.reduceLT, Nat.reduceLeDiff, Nat.reduceAdd, Nat.reduceMul, Nat.reduceSub, Int.reduceToNat, Int.reduceNeg, h, hw2, hw3, hm1, hm0, e1, E_len, cC, cFd, List.replicate_succ, List.replicate_zero, List.flatten_cons, List.flatten_nil, List.cons_append, List.nil_append, List.set_cons_zero, List.set_cons_succ, List.length_cons, List.length_nil, List.length_set])
          | (refine CallK.flat (by first | exact compareFields _ _ fr to hk1 hk0) rfl ?_; simp -dsimp only [go_sem, reduceIte, reduceCtorEq, Nat.reduceEqDiff, Nat.reduceLT, Nat.reduceLeDiff, Nat.reduceAdd, Nat.reduceMul, Nat.reduceSub, Int.reduceToNat, Int.reduceNeg, hw2, hw3, hm1, hm0, e1, E_len, cC, cFd, List.replicate_succ, List.replicate_zero, List.flatten_cons, List.flatten_nil, List.cons_append, List.nil_append, List.set_cons_zero, List.set_cons_succ, List.length_cons, List.length_nil, List.length_set])
          | (refine CallK.pure (by first | exact compareFields _ _ fr to hk1 hk0) ?_; simp -dsimp only [go_sem, reduceIte, reduceCtorEq, Nat.reduceEqDiff, Nat.reduceLT, Nat.reduceLeDiff, Nat.reduceAdd, Nat.reduceMul, Nat.reduceSub, Int.reduceToNat, Int.reduceNeg, hw2, hw3, hm1, hm0, e1, E_len, cC, cFd, List.replicate_succ, List.replicate_zero, List.flatten_cons, List.flatten_nil, List.cons_append, List.nil_append, List.set_cons_zero, List.set_cons_succ, List.length_cons, List.length_nil, List.length_set])
          | (refine And.intro (by first | rfl | omega | decide | exact ⟨by omega, by omega⟩ | (refine ⟨?_, ?_⟩ <;> (first | rfl | omega | decide | exact ⟨by omega, by omega⟩)) | (refine ⟨?_, ?_, ?_⟩ <;> (first | rfl | omega | decide | exact ⟨by omega, by omega⟩)) | (refine ⟨?_, ?_, ?_, ?_⟩ <;> (first | rfl | omega | decide | exact ⟨by omega, by omega⟩))) ?_)
          | fail)

        all_goals first | omega | (exact ⟨⟨(i + 1, ()), by first | omega | simp | exact ⟨by omega, by omega⟩, trivial⟩, by simp [Vs.LeL, Vs.look, Vs.hlook, Vs.sput, Vs.sputs, Vs.hset, Vs.hputs, hs], by simp only; omega⟩)
    · have hge : i = l.length - 1 := by
        have : ¬ i < l.length - 1 := by first | (simpa using hc) | (simp at hc; omega)
        omega
      subst hge
      simp -dsimp only [go_sem, reduceIte, reduceCtorEq, Nat.reduceEqDiff, Nat.reduceLT, Nat.reduceLeDiff, Nat.reduceAdd, Nat.reduceMul, Nat.reduceSub, Int.reduceToNat, Int.reduceNeg, cC, cFd, List.replicate_succ, List.replicate_zero, List.flatten_cons, List.flatten_nil, List.cons_append, List.nil_append, List.set_cons_zero, List.set_cons_succ, List.length_cons, List.length_nil, List.length_set]
      exact ⟨⟨_, _, rfl, rfl⟩, by simp⟩
theorem isAscending (l : List (List Int)) (fr to : Int) (ho : ∀ c, c ∈ l → okF fr to c) (hl : l.length ≤ 1048576) : Vs.Fn Tryz.prog F.impl_isAscending [] [.sl 1 (E cC l), .agg (cFd fr to)] (.v (.bool (ascB fr to l))) [] := by
  refine Cd.impl_isAscending_ok.fn0 Tryz.mixed Cd.impl_isAscending_nt Cd.impl_isAscending_rs rfl fun X => ?_
  unfold Cd.impl_isAscending
  simp -dsimp only [go_sem, reduceIte, reduceCtorEq, Nat.reduceEqDiff, Nat.reduceLT, Nat.reduceLeDiff, Nat.reduceAdd, Nat.reduceMul, Nat.reduceSub, Int.reduceToNat, Int.reduceNeg, cFd, E_len]
  repeat' (first
    | (refine RgK.mk rfl ?_; simp -dsimp only [go_sem, reduceIte, reduceCtorEq, Nat.reduceEqDiff, Nat.reduceLT, Nat.reduceLeDiff, Nat.reduceAdd, Nat.reduceMul, Nat.reduceSub, Int.reduceToNat, Int.reduceNeg, cFd, E_len])
    | (refine Br.mk (fun h => ?_) (fun h => ?_) <;> simp -dsimp only [go_sem, reduceIte, reduceCtorEq, Nat.reduceEqDiff, Nat.reduceLT, Nat.reduceLeDiff, Nat.reduceAdd, Nat.reduceMul, Nat.reduceSub, Int.reduceToNat, Int.reduceNeg, h, cFd, E_len])
    | (refine CallK.flat (by first | exact steps l fr to ho hl) rfl ?_; simp -dsimp only [go_sem, reduceIte, reduceCtorEq, Nat.reduceEqDiff, Nat.reduceLT, Nat.reduceLeDiff, Nat.reduceAdd, Nat.reduceMul, Nat.reduceSub, Int.reduceToNat, Int.reduceNeg, cFd, E_len])
    | (refine CallK.pure (by first | exact steps l fr to ho hl) ?_; simp -dsimp only [go_sem, reduceIte, reduceCtorEq, Nat.reduceEqDiff, Nat.reduceLT, Nat.reduceLeDiff, Nat.reduceAdd, Nat.reduceMul, Nat.reduceSub, Int.reduceToNat, Int.reduceNeg, cFd, E_len])
    | (refine And.intro (by first | rfl | omega | decide | (refine ⟨?_, ?_⟩ <;> (first | rfl | omega | decide)) | (refine ⟨?_, ?_, ?_⟩ <;> (first | rfl | omega | decide)) | (refine ⟨?_, ?_, ?_, ?_⟩ <;> (first | rfl | omega | decide))) ?_)
    | fail)
  all_goals (simp_all [ascB])

end Go.Proofs.YtgeeipfdkamhmaaGreatDoor
