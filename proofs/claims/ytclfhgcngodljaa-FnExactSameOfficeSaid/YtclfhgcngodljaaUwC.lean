/- Offices: sizes, copies, comparisons. -/
import Derived.Test.YtclfhgcngodljaaUuR
import Derived.Test.YtclfhgcngodljaaUuD
import Derived.Test.YtclfhgcngodljaaVtM
namespace Go.Proofs.Ytclfhgcngodljaa
open Go.Vs
set_option linter.unusedSimpArgs false
set_option linter.unusedVariables false
attribute [local irreducible] Vs.Fn

theorem getD_lt {α : Type} {l : List α} {i : Nat} (h : i < l.length) (d : α) : l.getD i d = l[i] := by simp [List.getD, h]
def cTs (t : List Tot) : List AV := [.sl 2 (E cT t)]
structure Off where
  trays : List (List (List Int))
  totals : List (List Tot)
def cO (o : Off) : List AV := [.sl 1 (E cD o.trays), .sl 1 (E cTs o.totals)]
/-- no list is greater than what the laws look at -/
def smallC (l : List (List Int)) : Prop := l.length ≤ 1048576 ∧ ∀ c, c ∈ l → c.length ≤ 1048576
def smallD (l : List (List (List Int))) : Prop := l.length ≤ 1048576 ∧ ∀ d, d ∈ l → smallC d
def smallT (l : List Tot) : Prop := l.length ≤ 1048576 ∧ ∀ t, t ∈ l → t.1.size ≤ 1048576
def smallTs (l : List (List Tot)) : Prop := l.length ≤ 1048576 ∧ ∀ t, t ∈ l → smallT t
def smallO (o : Off) : Prop := smallD o.trays ∧ smallTs o.totals
def qC (c d : List Int) : Bool := eqLB qI c d
def qD (l m : List (List Int)) : Bool := eqLB qC l m
def qTs (l m : List Tot) : Bool := eqLB qT l m
def qO (o p : Off) : Bool := eqLB qD o.trays p.trays && eqLB qTs o.totals p.totals
theorem l00Same (l m : List Int) (hl : l.length ≤ 1048576) : Vs.Fn Try.prog F.spec_l00Same [] [.sl 1 (E cI l), .sl 1 (E cI m)] (.v (.bool (qC l m))) [] :=
  spI_fn Try.mixed Cd.spec_l00Same_ok Cd.spec_l00Same_nt Cd.spec_l00Same_rs rfl hl
theorem slEqualI (l m : List Int) (hl : l.length ≤ 1048576) : Vs.Fn Try.prog F.slices_Equal___int64_int64_ [] [.sl 1 (E cI l), .sl 1 (E cI m)] (.v (.bool (qC l m))) [] :=
  slI_fn Try.mixed Cd.slices_Equal___int64_int64__ok Cd.slices_Equal___int64_int64__nt Cd.slices_Equal___int64_int64__rs rfl hl
theorem sameCard (l m : List Int) (hl : l.length ≤ 1048576) : Vs.Fn Try.prog F.impl_SameCard [] [.agg [.sl 1 (E cI l)], .agg [.sl 1 (E cI m)]] (.v (.bool (qC l m))) [] := by
  refine Cd.impl_SameCard_ok.fn0 Try.mixed Cd.impl_SameCard_nt Cd.impl_SameCard_rs rfl fun X => ?_
  unfold Cd.impl_SameCard
  simp -dsimp only [go_sem, reduceIte, reduceCtorEq, Nat.reduceEqDiff, Nat.reduceLT, Nat.reduceLeDiff, Nat.reduceAdd, Nat.reduceMul, Nat.reduceSub, Int.reduceToNat, Int.reduceNeg]
  repeat' (first
    | (refine RgK.mk rfl ?_; simp -dsimp only [go_sem, reduceIte, reduceCtorEq, Nat.reduceEqDiff, Nat.reduceLT, Nat.reduceLeDiff, Nat.reduceAdd, Nat.reduceMul, Nat.reduceSub, Int.reduceToNat, Int.reduceNeg])
    | (refine Br.mk (fun h => ?_) (fun h => ?_) <;> simp -dsimp only [go_sem, reduceIte, reduceCtorEq, Nat.reduceEqDiff, Nat.reduceLT, Nat.reduceLeDiff, Nat.reduceAdd, Nat.reduceMul, Nat.reduceSub, Int.reduceToNat, Int.reduceNeg, h])
    | (refine CallK.flat (by first | exact slEqualI l m hl) rfl ?_; simp -dsimp only [go_sem, reduceIte, reduceCtorEq, Nat.reduceEqDiff, Nat.reduceLT, Nat.reduceLeDiff, Nat.reduceAdd, Nat.reduceMul, Nat.reduceSub, Int.reduceToNat, Int.reduceNeg])
    | (refine CallK.pure (by first | exact slEqualI l m hl) ?_; simp -dsimp only [go_sem, reduceIte, reduceCtorEq, Nat.reduceEqDiff, Nat.reduceLT, Nat.reduceLeDiff, Nat.reduceAdd, Nat.reduceMul, Nat.reduceSub, Int.reduceToNat, Int.reduceNeg])
    | (refine And.intro (by first | rfl | omega | decide | (refine ⟨?_, ?_⟩ <;> (first | rfl | omega | decide)) | (refine ⟨?_, ?_, ?_⟩ <;> (first | rfl | omega | decide)) | (refine ⟨?_, ?_, ?_, ?_⟩ <;> (first | rfl | omega | decide))) ?_))
  all_goals (simp_all)

theorem eqfCards (l m : List (List Int)) (hl : smallC l) : Vs.Fn Try.prog F.slices_EqualFunc___impl_Card___impl_Card_impl_Card_impl_Card_ [] [.sl 1 (E cC l), .sl 1 (E cC m), .fn F.impl_SameCard []] (.v (.bool (qD l m))) [] :=
  eqfC_fn Try.mixed (k := 1) (r := fun x => E cI x) Cd.slices_EqualFunc___impl_Card___impl_Card_impl_Card_impl_Card__ok Cd.slices_EqualFunc___impl_Card___impl_Card_impl_Card_impl_Card__nt Cd.slices_EqualFunc___impl_Card___impl_Card_impl_Card_impl_Card__rs rfl qC F.impl_SameCard (fun x hx y hy => sameCard x y (hl.2 x hx)) hl.1
theorem impl_SameDeck (l m : List (List Int)) (hl : smallC l) : Vs.Fn Try.prog F.impl_SameDeck [] [.sl 1 (E cC l), .sl 1 (E cC m)] (.v (.bool (qD l m))) [] := by
  refine Cd.impl_SameDeck_ok.fn0 Try.mixed Cd.impl_SameDeck_nt Cd.impl_SameDeck_rs rfl fun X => ?_
  unfold Cd.impl_SameDeck
  simp -dsimp only [go_sem, reduceIte, reduceCtorEq, Nat.reduceEqDiff, Nat.reduceLT, Nat.reduceLeDiff, Nat.reduceAdd, Nat.reduceMul, Nat.reduceSub, Int.reduceToNat, Int.reduceNeg]
  repeat' (first
    | (refine RgK.mk rfl ?_; simp -dsimp only [go_sem, reduceIte, reduceCtorEq, Nat.reduceEqDiff, Nat.reduceLT, Nat.reduceLeDiff, Nat.reduceAdd, Nat.reduceMul, Nat.reduceSub, Int.reduceToNat, Int.reduceNeg])
    | (refine Br.mk (fun h => ?_) (fun h => ?_) <;> simp -dsimp only [go_sem, reduceIte, reduceCtorEq, Nat.reduceEqDiff, Nat.reduceLT, Nat.reduceLeDiff, Nat.reduceAdd, Nat.reduceMul, Nat.reduceSub, Int.reduceToNat, Int.reduceNeg, h])
    | (refine CallK.flat (by first | exact eqfCards l m hl) rfl ?_; simp -dsimp only [go_sem, reduceIte, reduceCtorEq, Nat.reduceEqDiff, Nat.reduceLT, Nat.reduceLeDiff, Nat.reduceAdd, Nat.reduceMul, Nat.reduceSub, Int.reduceToNat, Int.reduceNeg])
    | (refine CallK.pure (by first | exact eqfCards l m hl) ?_; simp -dsimp only [go_sem, reduceIte, reduceCtorEq, Nat.reduceEqDiff, Nat.reduceLT, Nat.reduceLeDiff, Nat.reduceAdd, Nat.reduceMul, Nat.reduceSub, Int.reduceToNat, Int.reduceNeg])
    | (refine And.intro (by first | rfl | omega | decide | (refine ⟨?_, ?_⟩ <;> (first | rfl | omega | decide)) | (refine ⟨?_, ?_, ?_⟩ <;> (first | rfl | omega | decide)) | (refine ⟨?_, ?_, ?_, ?_⟩ <;> (first | rfl | omega | decide))) ?_))
  all_goals (simp_all)

theorem eqfDecks (l m : List (List (List Int))) (hl : smallD l) : Vs.Fn Try.prog F.slices_EqualFunc_____impl_Card_____impl_Card___impl_Card___impl_Card_ [] [.sl 1 (E cD l), .sl 1 (E cD m), .fn F.impl_SameDeck []] (.v (.bool (eqLB qD l m))) [] :=
  eqf1_fn Try.mixed (k := 1) (r := fun x => E cC x) Cd.slices_EqualFunc_____impl_Card_____impl_Card___impl_Card___impl_Card__ok Cd.slices_EqualFunc_____impl_Card_____impl_Card___impl_Card___impl_Card__nt Cd.slices_EqualFunc_____impl_Card_____impl_Card___impl_Card___impl_Card__rs rfl qD F.impl_SameDeck (fun x hx y hy => impl_SameDeck x y (hl.2 x hx)) hl.1
theorem eqfTotals (l m : List (List Tot)) (hl : smallTs l) : Vs.Fn Try.prog F.slices_EqualFunc_____impl_Total_____impl_Total___impl_Total___impl_Total_ [] [.sl 1 (E cTs l), .sl 1 (E cTs m), .fn F.slices_Equal___impl_Total_impl_Total_ []] (.v (.bool (eqLB qTs l m))) [] :=
  eqf1_fn Try.mixed (k := 2) (r := fun x => E cT x) Cd.slices_EqualFunc_____impl_Total_____impl_Total___impl_Total___impl_Total__ok Cd.slices_EqualFunc_____impl_Total_____impl_Total___impl_Total___impl_Total__nt Cd.slices_EqualFunc_____impl_Total_____impl_Total___impl_Total___impl_Total__rs rfl qTs F.slices_Equal___impl_Total_impl_Total_ (fun x hx y hy => slEqualT x y (hl.2 x hx).1) hl.1
theorem impl_SameOffice (o p : Off) (ho : smallO o) : Vs.Fn Try.prog F.impl_SameOffice [] [.agg (cO o), .agg (cO p)] (.v (.bool (qO o p))) [] := by
  refine Cd.impl_SameOffice_ok.fn0 Try.mixed Cd.impl_SameOffice_nt Cd.impl_SameOffice_rs rfl fun X => ?_
  unfold Cd.impl_SameOffice
  simp -dsimp only [go_sem, reduceIte, reduceCtorEq, Nat.reduceEqDiff, Nat.reduceLT, Nat.reduceLeDiff, Nat.reduceAdd, Nat.reduceMul, Nat.reduceSub, Int.reduceToNat, Int.reduceNeg, cO]
  repeat' (first
    | (refine RgK.mk rfl ?_; simp -dsimp only [go_sem, reduceIte, reduceCtorEq, Nat.reduceEqDiff, Nat.reduceLT, Nat.reduceLeDiff, Nat.reduceAdd, Nat.reduceMul, Nat.reduceSub, Int.reduceToNat, Int.reduceNeg, cO])
    | (refine Br.mk (fun h => ?_) (fun h => ?_) <;> simp -dsimp only [go_sem, reduceIte, reduceCtorEq, Nat.reduceEqDiff, Nat.reduceLT, Nat.reduceLeDiff, Nat.reduceAdd, Nat.reduceMul, Nat.reduceSub, Int.reduceToNat, Int.reduceNeg, h, cO])
    | (refine CallK.flat (by first | exact eqfDecks _ _ ho.1 | exact eqfTotals _ _ ho.2) rfl ?_; simp -dsimp only [go_sem, reduceIte, reduceCtorEq, Nat.reduceEqDiff, Nat.reduceLT, Nat.reduceLeDiff, Nat.reduceAdd, Nat.reduceMul, Nat.reduceSub, Int.reduceToNat, Int.reduceNeg, cO])
    | (refine CallK.pure (by first | exact eqfDecks _ _ ho.1 | exact eqfTotals _ _ ho.2) ?_; simp -dsimp only [go_sem, reduceIte, reduceCtorEq, Nat.reduceEqDiff, Nat.reduceLT, Nat.reduceLeDiff, Nat.reduceAdd, Nat.reduceMul, Nat.reduceSub, Int.reduceToNat, Int.reduceNeg, cO])
    | (refine And.intro (by first | rfl | omega | decide | (refine ⟨?_, ?_⟩ <;> (first | rfl | omega | decide)) | (refine ⟨?_, ?_, ?_⟩ <;> (first | rfl | omega | decide)) | (refine ⟨?_, ?_, ?_, ?_⟩ <;> (first | rfl | omega | decide))) ?_))
  all_goals (simp_all [qO])

theorem spec_SameDeck (l m : List (List Int)) (hl : smallC l) : Vs.Fn Try.prog F.spec_SameDeck [] [.sl 1 (E cC l), .sl 1 (E cC m)] (.v (.bool (qD l m))) [] := by
  refine Cd.spec_SameDeck_ok.fn0 Try.mixed Cd.spec_SameDeck_nt Cd.spec_SameDeck_rs rfl fun X => ?_
  unfold Cd.spec_SameDeck
  simp -dsimp only [go_sem, reduceIte, reduceCtorEq, Nat.reduceEqDiff, Nat.reduceLT, Nat.reduceLeDiff, Nat.reduceAdd, Nat.reduceMul, Nat.reduceSub, Int.reduceToNat, Int.reduceNeg]
  refine Br.mk (fun h0 => ?_) fun h0 => ?_
  · simp -dsimp only [go_sem, reduceIte, reduceCtorEq, Nat.reduceEqDiff, Nat.reduceLT, Nat.reduceLeDiff, Nat.reduceAdd, Nat.reduceMul, Nat.reduceSub, Int.reduceToNat, Int.reduceNeg]
    have : l.length ≠ m.length := by rintro e; simp [e] at h0
    simp [qD, eqLB_len this]
  have he : l.length = m.length := by
    have := h0
    simp at this
    omega
  simp -dsimp only [go_sem, reduceIte, reduceCtorEq, Nat.reduceEqDiff, Nat.reduceLT, Nat.reduceLeDiff, Nat.reduceAdd, Nat.reduceMul, Nat.reduceSub, Int.reduceToNat, Int.reduceNeg]
  refine LoopK.at (drawn_ok Try.mixed) (X := { zz : Nat × (Unit) // zz.1 ≤ l.length ∧ eqLB qC (l.drop zz.1) (m.drop zz.1) = qD l m }) (fun zz => [(5, .v (.int .i64 zz.1.1))]) (fun zz => []) (fun zz => l.length - zz.1.1) ⟨(0, ()), by omega, rfl⟩ ?_ ?_
  · simp [Vs.LeL, Vs.look, Vs.hlook, Vs.sput, Vs.sputs, Vs.hset, Vs.hputs]
  · rintro ⟨⟨i, _⟩, hi, hg⟩
    dsimp only at hi hg
    simp -dsimp only [go_sem, reduceIte, reduceCtorEq, Nat.reduceEqDiff, Nat.reduceLT, Nat.reduceLeDiff, Nat.reduceAdd, Nat.reduceMul, Nat.reduceSub, Int.reduceToNat, Int.reduceNeg]
    refine Br.mk (fun hc => ?_) fun hc => ?_
    · have hlt : i < l.length := by simpa using hc
      have hw := wrap_succ hlt hl.1
      have hlt' : i < m.length := by omega
      rw [eqLB_step hlt hlt'] at hg
      simp -dsimp only [go_sem, reduceIte, reduceCtorEq, Nat.reduceEqDiff, Nat.reduceLT, Nat.reduceLeDiff, Nat.reduceAdd, Nat.reduceMul, Nat.reduceSub, Int.reduceToNat, Int.reduceNeg, E_get hlt, E_get hlt', cC]
      repeat' (first
        | (refine RgK.mk rfl ?_; simp -dsimp only [go_sem, reduceIte, reduceCtorEq, Nat.reduceEqDiff, Nat.reduceLT, Nat.reduceLeDiff, Nat.reduceAdd, Nat.reduceMul, Nat.reduceSub, Int.reduceToNat, Int.reduceNeg, E_get hlt, E_get hlt', cC, hw])
        | (refine Br.mk (fun h => ?_) (fun h => ?_) <;> simp -dsimp only [go_sem, reduceIte, reduceCtorEq, Nat.reduceEqDiff, Nat.reduceLT, Nat.reduceLeDiff, Nat.reduceAdd, Nat.reduceMul, Nat.reduceSub, Int.reduceToNat, Int.reduceNeg, h, E_get hlt, E_get hlt', cC, hw])
        | (refine CallK.flat (by first | exact l00Same _ _ (hl.2 _ (List.getElem_mem hlt))) rfl ?_; simp -dsimp only [go_sem, reduceIte, reduceCtorEq, Nat.reduceEqDiff, Nat.reduceLT, Nat.reduceLeDiff, Nat.reduceAdd, Nat.reduceMul, Nat.reduceSub, Int.reduceToNat, Int.reduceNeg, E_get hlt, E_get hlt', cC, hw])
        | (refine CallK.pure (by first | exact l00Same _ _ (hl.2 _ (List.getElem_mem hlt))) ?_; simp -dsimp only [go_sem, reduceIte, reduceCtorEq, Nat.reduceEqDiff, Nat.reduceLT, Nat.reduceLeDiff, Nat.reduceAdd, Nat.reduceMul, Nat.reduceSub, Int.reduceToNat, Int.reduceNeg, E_get hlt, E_get hlt', cC, hw])
        | (refine And.intro (by first | rfl | omega | decide | (refine ⟨?_, ?_⟩ <;> (first | rfl | omega | decide)) | (refine ⟨?_, ?_, ?_⟩ <;> (first | rfl | omega | decide)) | (refine ⟨?_, ?_, ?_, ?_⟩ <;> (first | rfl | omega | decide))) ?_))

      all_goals first
        | (refine ret_eq ?_; simp_all [qD]; done)
        | (exact ⟨⟨(i + 1, ()), by first | omega | simp | exact ⟨by omega, by omega⟩, by simp_all [qD]⟩, by simp [Vs.LeL, Vs.look, Vs.hlook, Vs.sput, Vs.sputs, Vs.hset, Vs.hputs], by simp only; omega⟩)
    · have hge : i = l.length := by
        have : ¬ i < l.length := by simpa using hc
        omega
      subst hge
      simp -dsimp only [go_sem, reduceIte, reduceCtorEq, Nat.reduceEqDiff, Nat.reduceLT, Nat.reduceLeDiff, Nat.reduceAdd, Nat.reduceMul, Nat.reduceSub, Int.reduceToNat, Int.reduceNeg]
      simp only [he, List.drop_length] at hg
      rw [← he, List.drop_length] at hg
      simp [← hg, eqLB]
theorem spec_SameOffice (o p : Off) (ho : smallO o) : Vs.Fn Try.prog F.spec_SameOffice [] [.agg (cO o), .agg (cO p)] (.v (.bool (qO o p))) [] := by
  refine Cd.spec_SameOffice_ok.fn0 Try.mixed Cd.spec_SameOffice_nt Cd.spec_SameOffice_rs rfl fun X => ?_
  unfold Cd.spec_SameOffice
  simp -dsimp only [go_sem, reduceIte, reduceCtorEq, Nat.reduceEqDiff, Nat.reduceLT, Nat.reduceLeDiff, Nat.reduceAdd, Nat.reduceMul, Nat.reduceSub, Int.reduceToNat, Int.reduceNeg, cO]
  by_cases h1 : o.trays.length = p.trays.length
  rotate_left
  · have hb : (((o.trays.length : Int)) != (p.trays.length : Int)) = true := by simp; omega
    have hf : qO o p = false := by simp [qO, eqLB_len h1]
    simp -dsimp only [go_sem, reduceIte, reduceCtorEq, Nat.reduceEqDiff, Nat.reduceLT, Nat.reduceLeDiff, Nat.reduceAdd, Nat.reduceMul, Nat.reduceSub, Int.reduceToNat, Int.reduceNeg, hb]
    simp [hf]
  by_cases h2 : o.totals.length = p.totals.length
  rotate_left
  · have hb : (((o.trays.length : Int)) != (p.trays.length : Int)) = false := by simp; omega
    have hb2 : (((o.totals.length : Int)) != (p.totals.length : Int)) = true := by simp; omega
    have hf : qO o p = false := by simp [qO, eqLB_len h2]
    simp -dsimp only [go_sem, reduceIte, reduceCtorEq, Nat.reduceEqDiff, Nat.reduceLT, Nat.reduceLeDiff, Nat.reduceAdd, Nat.reduceMul, Nat.reduceSub, Int.reduceToNat, Int.reduceNeg, hb, hb2]
    simp [hf]
  have hb : (((o.trays.length : Int)) != (p.trays.length : Int)) = false := by simp; omega
  have hb2 : (((o.totals.length : Int)) != (p.totals.length : Int)) = false := by simp; omega
  simp -dsimp only [go_sem, reduceIte, reduceCtorEq, Nat.reduceEqDiff, Nat.reduceLT, Nat.reduceLeDiff, Nat.reduceAdd, Nat.reduceMul, Nat.reduceSub, Int.reduceToNat, Int.reduceNeg, hb, hb2]
  refine LoopK.at (drawn_ok Try.mixed) (X := { zz : Nat × (Unit) // zz.1 ≤ o.trays.length ∧ eqLB qD (o.trays.drop zz.1) (p.trays.drop zz.1) = eqLB qD o.trays p.trays }) (fun zz => [(5, .v (.int .i64 zz.1.1))]) (fun zz => []) (fun zz => o.trays.length - zz.1.1) ⟨(0, ()), by omega, rfl⟩ ?_ ?_
  · simp [Vs.LeL, Vs.look, Vs.hlook, Vs.sput, Vs.sputs, Vs.hset, Vs.hputs]
  · rintro ⟨⟨i, _⟩, hi, hg⟩
    dsimp only at hi hg
    simp -dsimp only [go_sem, reduceIte, reduceCtorEq, Nat.reduceEqDiff, Nat.reduceLT, Nat.reduceLeDiff, Nat.reduceAdd, Nat.reduceMul, Nat.reduceSub, Int.reduceToNat, Int.reduceNeg]
    refine Br.mk (fun hc => ?_) fun hc => ?_
    · have hlt : i < o.trays.length := by simpa using hc
      have hw := wrap_succ hlt ho.1.1
      have hlt' : i < p.trays.length := by omega
      rw [eqLB_step hlt hlt'] at hg
      simp -dsimp only [go_sem, reduceIte, reduceCtorEq, Nat.reduceEqDiff, Nat.reduceLT, Nat.reduceLeDiff, Nat.reduceAdd, Nat.reduceMul, Nat.reduceSub, Int.reduceToNat, Int.reduceNeg, E_get hlt, E_get hlt', cD, cTs]
      repeat' (first
        | (refine RgK.mk rfl ?_; simp -dsimp only [go_sem, reduceIte, reduceCtorEq, Nat.reduceEqDiff, Nat.reduceLT, Nat.reduceLeDiff, Nat.reduceAdd, Nat.reduceMul, Nat.reduceSub, Int.reduceToNat, Int.reduceNeg, E_get hlt, E_get hlt', cD, cTs, hw])
        | (refine Br.mk (fun h => ?_) (fun h => ?_) <;> simp -dsimp only [go_sem, reduceIte, reduceCtorEq, Nat.reduceEqDiff, Nat.reduceLT, Nat.reduceLeDiff, Nat.reduceAdd, Nat.reduceMul, Nat.reduceSub, Int.reduceToNat, Int.reduceNeg, h, E_get hlt, E_get hlt', cD, cTs, hw])
        | (refine CallK.flat (by first | exact spec_SameDeck _ _ (ho.1.2 _ (List.getElem_mem hlt))) rfl ?_; simp -dsimp only [go_sem, reduceIte, reduceCtorEq, Nat.reduceEqDiff, Nat.reduceLT, Nat.reduceLeDiff, Nat.reduceAdd, Nat.reduceMul, Nat.reduceSub, Int.reduceToNat, Int.reduceNeg, E_get hlt, E_get hlt', cD, cTs, hw])
        | (refine CallK.pure (by first | exact spec_SameDeck _ _ (ho.1.2 _ (List.getElem_mem hlt))) ?_; simp -dsimp only [go_sem, reduceIte, reduceCtorEq, Nat.reduceEqDiff, Nat.reduceLT, Nat.reduceLeDiff, Nat.reduceAdd, Nat.reduceMul, Nat.reduceSub, Int.reduceToNat, Int.reduceNeg, E_get hlt, E_get hlt', cD, cTs, hw])
        | (refine And.intro (by first | rfl | omega | decide | (refine ⟨?_, ?_⟩ <;> (first | rfl | omega | decide)) | (refine ⟨?_, ?_, ?_⟩ <;> (first | rfl | omega | decide)) | (refine ⟨?_, ?_, ?_, ?_⟩ <;> (first | rfl | omega | decide))) ?_))

      all_goals first
        | (refine ret_eq ?_; simp_all [qO, qTs]; done)
        | (exact ⟨⟨(i + 1, ()), by first | omega | simp | exact ⟨by omega, by omega⟩, by simp_all [qTs]⟩, by simp [Vs.LeL, Vs.look, Vs.hlook, Vs.sput, Vs.sputs, Vs.hset, Vs.hputs], by simp only; omega⟩)
    · have hge : i = o.trays.length := by
        have : ¬ i < o.trays.length := by simpa using hc
        omega
      subst hge
      simp -dsimp only [go_sem, reduceIte, reduceCtorEq, Nat.reduceEqDiff, Nat.reduceLT, Nat.reduceLeDiff, Nat.reduceAdd, Nat.reduceMul, Nat.reduceSub, Int.reduceToNat, Int.reduceNeg]
      have hg1 : eqLB qD o.trays p.trays = true := by
        rw [← hg, h1, List.drop_length, ← h1, List.drop_length]; rfl
      clear hg hi hc
      refine ⟨?_, by simp⟩
      refine LoopK.at (drawn_ok Try.mixed) (X := { zz : Nat × (Unit) // zz.1 ≤ o.totals.length ∧ eqLB qTs (o.totals.drop zz.1) (p.totals.drop zz.1) = eqLB qTs o.totals p.totals }) (fun zz => [(6, .v (.int .i64 zz.1.1))]) (fun zz => []) (fun zz => o.totals.length - zz.1.1) ⟨(0, ()), by omega, rfl⟩ ?_ ?_
      · simp [Vs.LeL, Vs.look, Vs.hlook, Vs.sput, Vs.sputs, Vs.hset, Vs.hputs]
      · rintro ⟨⟨i, _⟩, hi, hg⟩
        dsimp only at hi hg
        simp -dsimp only [go_sem, reduceIte, reduceCtorEq, Nat.reduceEqDiff, Nat.reduceLT, Nat.reduceLeDiff, Nat.reduceAdd, Nat.reduceMul, Nat.reduceSub, Int.reduceToNat, Int.reduceNeg]
        refine Br.mk (fun hc => ?_) fun hc => ?_
        · have hlt : i < o.totals.length := by simpa using hc
          have hw := wrap_succ hlt ho.2.1
          have hlt' : i < p.totals.length := by omega
          rw [eqLB_step hlt hlt'] at hg
          simp -dsimp only [go_sem, reduceIte, reduceCtorEq, Nat.reduceEqDiff, Nat.reduceLT, Nat.reduceLeDiff, Nat.reduceAdd, Nat.reduceMul, Nat.reduceSub, Int.reduceToNat, Int.reduceNeg, E_get hlt, E_get hlt', cD, cTs]
          repeat' (first
            | (refine RgK.mk rfl ?_; simp -dsimp only [go_sem, reduceIte, reduceCtorEq, Nat.reduceEqDiff, Nat.reduceLT, Nat.reduceLeDiff, Nat.reduceAdd, Nat.reduceMul, Nat.reduceSub, Int.reduceToNat, Int.reduceNeg, E_get hlt, E_get hlt', cD, cTs, hw])
            | (refine Br.mk (fun h => ?_) (fun h => ?_) <;> simp -dsimp only [go_sem, reduceIte, reduceCtorEq, Nat.reduceEqDiff, Nat.reduceLT, Nat.reduceLeDiff, Nat.reduceAdd, Nat.reduceMul, Nat.reduceSub, Int.reduceToNat, Int.reduceNeg, h, E_get hlt, E_get hlt', cD, cTs, hw])
            | (refine CallK.flat (by first | exact l15Totals _ _ (ho.2.2 _ (List.getElem_mem hlt)).1) rfl ?_; simp -dsimp only [go_sem, reduceIte, reduceCtorEq, Nat.reduceEqDiff, Nat.reduceLT, Nat.reduceLeDiff, Nat.reduceAdd, Nat.reduceMul, Nat.reduceSub, Int.reduceToNat, Int.reduceNeg, E_get hlt, E_get hlt', cD, cTs, hw])
            | (refine CallK.pure (by first | exact l15Totals _ _ (ho.2.2 _ (List.getElem_mem hlt)).1) ?_; simp -dsimp only [go_sem, reduceIte, reduceCtorEq, Nat.reduceEqDiff, Nat.reduceLT, Nat.reduceLeDiff, Nat.reduceAdd, Nat.reduceMul, Nat.reduceSub, Int.reduceToNat, Int.reduceNeg, E_get hlt, E_get hlt', cD, cTs, hw])
            | (refine And.intro (by first | rfl | omega | decide | (refine ⟨?_, ?_⟩ <;> (first | rfl | omega | decide)) | (refine ⟨?_, ?_, ?_⟩ <;> (first | rfl | omega | decide)) | (refine ⟨?_, ?_, ?_, ?_⟩ <;> (first | rfl | omega | decide))) ?_))

          all_goals first
            | (refine ret_eq ?_; simp_all [qO, qTs]; done)
            | (exact ⟨⟨(i + 1, ()), by first | omega | simp | exact ⟨by omega, by omega⟩, by simp_all [qTs]⟩, by simp [Vs.LeL, Vs.look, Vs.hlook, Vs.sput, Vs.sputs, Vs.hset, Vs.hputs], by simp only; omega⟩)
        · have hge : i = o.totals.length := by
            have : ¬ i < o.totals.length := by simpa using hc
            omega
          subst hge
          simp -dsimp only [go_sem, reduceIte, reduceCtorEq, Nat.reduceEqDiff, Nat.reduceLT, Nat.reduceLeDiff, Nat.reduceAdd, Nat.reduceMul, Nat.reduceSub, Int.reduceToNat, Int.reduceNeg]
          have hg2 : eqLB qTs o.totals p.totals = true := by
            rw [← hg, h2, List.drop_length, ← h2, List.drop_length]; rfl
          simp [qO, hg1, hg2]
end Go.Proofs.Ytclfhgcngodljaa
