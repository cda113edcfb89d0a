/- A card's calculation. -/
import Derived.Test.YthpokkcbbpapdaaDoorTwX
namespace Go.Proofs.YthpokkcbbpapdaaDoor
open Go.Vs
set_option linter.unusedSimpArgs false
set_option linter.unusedVariables false
attribute [local irreducible] Vs.Fn

def cP (p : Int × Int) : List AV := cFd p.1 p.2
def allP (fs : List (Int × Int)) (w : Int) : Bool := fs.all fun p : Int × Int => numB p.1 p.2 w
theorem l14Fields (fs : List (Int × Int)) (w : Int) (hl : fs.length ≤ 1048576) : Vs.Fn Tryd.prog F.spec_l14Fields [] [.sl 2 (E cP fs), .v (.int .i64 w)] (.v (.bool (allP fs w))) [] := by
  refine Cd.spec_l14Fields_ok.fn0 Tryd.mixed Cd.spec_l14Fields_nt Cd.spec_l14Fields_rs rfl fun X => ?_
  unfold Cd.spec_l14Fields
  simp -dsimp only [go_sem, reduceIte, reduceCtorEq, Nat.reduceEqDiff, Nat.reduceLT, Nat.reduceLeDiff, Nat.reduceAdd, Nat.reduceMul, Nat.reduceSub, Int.reduceToNat, Int.reduceNeg]
  refine LoopK.at (drawn_ok Tryd.mixed) (X := { zz : Nat × (Unit) // zz.1 ≤ fs.length ∧ (fs.take zz.1).all (fun p : Int × Int => numB p.1 p.2 w) = true }) (fun zz => [(5, .v (.int .i64 zz.1.1))]) (fun zz => []) (fun zz => fs.length - zz.1.1) ⟨(0, ()), by omega, by simp⟩ ?_ ?_
  · simp [Vs.LeL, Vs.look, Vs.hlook, Vs.sput, Vs.sputs, Vs.hset, Vs.hputs]
  · rintro ⟨⟨i, _⟩, hi, hg⟩
    dsimp only at hi hg
    simp -dsimp only [go_sem, reduceIte, reduceCtorEq, Nat.reduceEqDiff, Nat.reduceLT, Nat.reduceLeDiff, Nat.reduceAdd, Nat.reduceMul, Nat.reduceSub, Int.reduceToNat, Int.reduceNeg]
    refine Br.mk (fun hc => ?_) fun hc => ?_
    · have hlt : i < fs.length := by simpa using hc
      have hw := wrap_succ hlt hl
      have hg2 : (E cP fs).getD i [] = [.v (.int .i64 fs[i].1), .v (.int .i64 fs[i].2)] := E_get hlt
      have hf := l02Field fs[i].1 fs[i].2 w
      cases h1 : fldB fs[i].1 fs[i].2 w
      · have e : numB fs[i].1 fs[i].2 w = false := by simp [numB, h1]
        simp -dsimp only [go_sem, reduceIte, reduceCtorEq, Nat.reduceEqDiff, Nat.reduceLT, Nat.reduceLeDiff, Nat.reduceAdd, Nat.reduceMul, Nat.reduceSub, Int.reduceToNat, Int.reduceNeg, hg2, hw, h1]
        repeat' (first
          | (refine RgK.mk rfl ?_; simp -dsimp only [go_sem, reduceIte, reduceCtorEq, Nat.reduceEqDiff, Nat.reduceLT, Nat.reduceLeDiff, Nat.reduceAdd, Nat.reduceMul, Nat.reduceSub, Int.reduceToNat, Int.reduceNeg, hg2, hw, h1])
          | (refine Br.mk (fun h => ?_) (fun h => ?_) <;> simp -dsimp only [go_sem, reduceIte, reduceCtorEq, Nat.reduceEqDiff, Nat.reduceLT, Nat.reduceLeDiff, Nat.reduceAdd, Nat.reduceMul, Nat.reduceSub, Int.reduceToNat, Int.reduceNeg, h, hg2, hw, h1])
          | (refine CallK.flat (by first | exact hf) rfl ?_; simp -dsimp only [go_sem, reduceIte, reduceCtorEq, Nat.reduceEqDiff, Nat.reduceLT, Nat.reduceLeDiff, Nat.reduceAdd, Nat.reduceMul, Nat.reduceSub, Int.reduceToNat, Int.reduceNeg, hg2, hw, h1])
          | (refine CallK.pure (by first | exact hf) ?_; simp -dsimp only [go_sem, reduceIte, reduceCtorEq, Nat.reduceEqDiff, Nat.reduceLT, Nat.reduceLeDiff, Nat.reduceAdd, Nat.reduceMul, Nat.reduceSub, Int.reduceToNat, Int.reduceNeg, hg2, hw, h1])
          | (refine And.intro (by first | rfl | omega | decide | (refine ⟨?_, ?_⟩ <;> (first | rfl | omega | decide)) | (refine ⟨?_, ?_, ?_⟩ <;> (first | rfl | omega | decide)) | (refine ⟨?_, ?_, ?_, ?_⟩ <;> (first | rfl | omega | decide))) ?_)
          | fail)

        all_goals simp [allP, not_all (p := fun p : Int × Int => numB p.1 p.2 w) hlt e]
      · by_cases h2 : W (fs[i].2 - fs[i].1) ≤ 12
        · have e : numB fs[i].1 fs[i].2 w = true := by simp [numB, h1, h2]
          have e2 : decide (IntKind.i64.wrap (fs[i].2 - fs[i].1) > 12) = false := by simp; exact h2
          simp -dsimp only [go_sem, reduceIte, reduceCtorEq, Nat.reduceEqDiff, Nat.reduceLT, Nat.reduceLeDiff, Nat.reduceAdd, Nat.reduceMul, Nat.reduceSub, Int.reduceToNat, Int.reduceNeg, hg2, hw, h1, e2]
          repeat' (first
            | (refine RgK.mk rfl ?_; simp -dsimp only [go_sem, reduceIte, reduceCtorEq, Nat.reduceEqDiff, Nat.reduceLT, Nat.reduceLeDiff, Nat.reduceAdd, Nat.reduceMul, Nat.reduceSub, Int.reduceToNat, Int.reduceNeg, hg2, hw, h1, e2])
            | (refine Br.mk (fun h => ?_) (fun h => ?_) <;> simp -dsimp only [go_sem, reduceIte, reduceCtorEq, Nat.reduceEqDiff, Nat.reduceLT, Nat.reduceLeDiff, Nat.reduceAdd, Nat.reduceMul, Nat.reduceSub, Int.reduceToNat, Int.reduceNeg, h, hg2, hw, h1, e2])
            | (refine CallK.flat (by first | exact hf) rfl ?_; simp -dsimp only [go_sem, reduceIte, reduceCtorEq, Nat.reduceEqDiff, Nat.reduceLT, Nat.reduceLeDiff, Nat.reduceAdd, Nat.reduceMul, Nat.reduceSub, Int.reduceToNat, Int.reduceNeg, hg2, hw, h1, e2])
            | (refine CallK.pure (by first | exact hf) ?_; simp -dsimp only [go_sem, reduceIte, reduceCtorEq, Nat.reduceEqDiff, Nat.reduceLT, Nat.reduceLeDiff, Nat.reduceAdd, Nat.reduceMul, Nat.reduceSub, Int.reduceToNat, Int.reduceNeg, hg2, hw, h1, e2])
            | (refine And.intro (by first | rfl | omega | decide | (refine ⟨?_, ?_⟩ <;> (first | rfl | omega | decide)) | (refine ⟨?_, ?_, ?_⟩ <;> (first | rfl | omega | decide)) | (refine ⟨?_, ?_, ?_, ?_⟩ <;> (first | rfl | omega | decide))) ?_)
            | fail)

          all_goals (exact ⟨⟨(i + 1, ()), by first | omega | simp | exact ⟨by omega, by omega⟩, take_succ_all (p := fun p : Int × Int => numB p.1 p.2 w) hlt hg e⟩, by simp [Vs.LeL, Vs.look, Vs.hlook, Vs.sput, Vs.sputs, Vs.hset, Vs.hputs], by simp only; omega⟩)
        · have e : numB fs[i].1 fs[i].2 w = false := by simp [numB, h1, h2]
          have e2 : decide (IntKind.i64.wrap (fs[i].2 - fs[i].1) > 12) = true := by simp; exact Int.not_le.1 h2
          simp -dsimp only [go_sem, reduceIte, reduceCtorEq, Nat.reduceEqDiff, Nat.reduceLT, Nat.reduceLeDiff, Nat.reduceAdd, Nat.reduceMul, Nat.reduceSub, Int.reduceToNat, Int.reduceNeg, hg2, hw, h1, e2]
          repeat' (first
            | (refine RgK.mk rfl ?_; simp -dsimp only [go_sem, reduceIte, reduceCtorEq, Nat.reduceEqDiff, Nat.reduceLT, Nat.reduceLeDiff, Nat.reduceAdd, Nat.reduceMul, Nat.reduceSub, Int.reduceToNat, Int.reduceNeg, hg2, hw, h1, e2])
            | (refine Br.mk (fun h => ?_) (fun h => ?_) <;> simp -dsimp only [go_sem, reduceIte, reduceCtorEq, Nat.reduceEqDiff, Nat.reduceLT, Nat.reduceLeDiff, Nat.reduceAdd, Nat.reduceMul, Nat.reduceSub, Int.reduceToNat, Int.reduceNeg, h, hg2, hw, h1, e2])
            | (refine CallK.flat (by first | exact hf) rfl ?_; simp -dsimp only [go_sem, reduceIte, reduceCtorEq, Nat.reduceEqDiff, Nat.reduceLT, Nat.reduceLeDiff, Nat.reduceAdd, Nat.reduceMul, Nat.reduceSub, Int.reduceToNat, Int.reduceNeg, hg2, hw, h1, e2])
            | (refine CallK.pure (by first | exact hf) ?_; simp -dsimp only [go_sem, reduceIte, reduceCtorEq, Nat.reduceEqDiff, Nat.reduceLT, Nat.reduceLeDiff, Nat.reduceAdd, Nat.reduceMul, Nat.reduceSub, Int.reduceToNat, Int.reduceNeg, hg2, hw, h1, e2])
            | (refine And.intro (by first | rfl | omega | decide | (refine ⟨?_, ?_⟩ <;> (first | rfl | omega | decide)) | (refine ⟨?_, ?_, ?_⟩ <;> (first | rfl | omega | decide)) | (refine ⟨?_, ?_, ?_, ?_⟩ <;> (first | rfl | omega | decide))) ?_)
            | fail)

          all_goals simp [allP, not_all (p := fun p : Int × Int => numB p.1 p.2 w) hlt e]
    · have hge : i = fs.length := by
        have : ¬ i < fs.length := by simpa using hc
        omega
      subst hge
      simp -dsimp only [go_sem, reduceIte, reduceCtorEq, Nat.reduceEqDiff, Nat.reduceLT, Nat.reduceLeDiff, Nat.reduceAdd, Nat.reduceMul, Nat.reduceSub, Int.reduceToNat, Int.reduceNeg]
      have : fs.all (fun p : Int × Int => numB p.1 p.2 w) = true := by simpa using hg
      simp [allP, this]
end Go.Proofs.YthpokkcbbpapdaaDoor

namespace Go.Proofs.YthpokkcbbpapdaaDoor
open Go.Vs
set_option linter.unusedSimpArgs false
set_option linter.unusedVariables false
attribute [local irreducible] Vs.Fn
theorem calcCode1 (p : Int × Int) (w : Int) : Vs.Fn Tryd.prog F.impl_calcCode_1 [] [.agg (cP p), .ro [.v (.int .i64 w)]] (.v (.bool (!numB p.1 p.2 w))) [] := by
  refine Cd.impl_calcCode_1_ok.fn0 Tryd.mixed Cd.impl_calcCode_1_nt Cd.impl_calcCode_1_rs rfl fun X => ?_
  unfold Cd.impl_calcCode_1
  simp -dsimp only [go_sem, reduceIte, reduceCtorEq, Nat.reduceEqDiff, Nat.reduceLT, Nat.reduceLeDiff, Nat.reduceAdd, Nat.reduceMul, Nat.reduceSub, Int.reduceToNat, Int.reduceNeg, cP, cFd]
  repeat' (first
    | (refine RgK.mk rfl ?_; simp -dsimp only [go_sem, reduceIte, reduceCtorEq, Nat.reduceEqDiff, Nat.reduceLT, Nat.reduceLeDiff, Nat.reduceAdd, Nat.reduceMul, Nat.reduceSub, Int.reduceToNat, Int.reduceNeg, cP, cFd])
    | (refine Br.mk (fun h => ?_) (fun h => ?_) <;> simp -dsimp only [go_sem, reduceIte, reduceCtorEq, Nat.reduceEqDiff, Nat.reduceLT, Nat.reduceLeDiff, Nat.reduceAdd, Nat.reduceMul, Nat.reduceSub, Int.reduceToNat, Int.reduceNeg, h, cP, cFd])
    | (refine CallK.flat (by first | exact isNumberField p.1 p.2 w) rfl ?_; simp -dsimp only [go_sem, reduceIte, reduceCtorEq, Nat.reduceEqDiff, Nat.reduceLT, Nat.reduceLeDiff, Nat.reduceAdd, Nat.reduceMul, Nat.reduceSub, Int.reduceToNat, Int.reduceNeg, cP, cFd])
    | (refine CallK.pure (by first | exact isNumberField p.1 p.2 w) ?_; simp -dsimp only [go_sem, reduceIte, reduceCtorEq, Nat.reduceEqDiff, Nat.reduceLT, Nat.reduceLeDiff, Nat.reduceAdd, Nat.reduceMul, Nat.reduceSub, Int.reduceToNat, Int.reduceNeg, cP, cFd])
    | (refine And.intro (by first | rfl | omega | decide | (refine ⟨?_, ?_⟩ <;> (first | rfl | omega | decide)) | (refine ⟨?_, ?_, ?_⟩ <;> (first | rfl | omega | decide)) | (refine ⟨?_, ?_, ?_, ?_⟩ <;> (first | rfl | omega | decide))) ?_)
    | fail)
  all_goals (simp_all)

theorem idxF (fs : List (Int × Int)) (w : Int) (hl : fs.length ≤ 1048576) : Vs.Fn Tryd.prog F.slices_IndexFunc___impl_Field_impl_Field_ [] [.sl 2 (E cP fs), .fn F.impl_calcCode_1 [.ro [.v (.int .i64 w)]]] (.v (.int .i64 (idxP (fun p : Int × Int => !numB p.1 p.2 w) fs))) [] :=
  ixA_fn Tryd.mixed (k := 2) Cd.slices_IndexFunc___impl_Field_impl_Field__ok Cd.slices_IndexFunc___impl_Field_impl_Field__nt Cd.slices_IndexFunc___impl_Field_impl_Field__rs rfl (fun p : Int × Int => !numB p.1 p.2 w) F.impl_calcCode_1 [.ro [.v (.int .i64 w)]] rfl (fun _ => rfl) (fun _ => rfl) (fun x hx => calcCode1 x w) hl
theorem conF (fs : List (Int × Int)) (w : Int) (hl : fs.length ≤ 1048576) : Vs.Fn Tryd.prog F.slices_ContainsFunc___impl_Field_impl_Field_ [] [.sl 2 (E cP fs), .fn F.impl_calcCode_1 [.ro [.v (.int .i64 w)]]] (.v (.bool (fs.any (fun p : Int × Int => !numB p.1 p.2 w)))) [] :=
  ct_fn Tryd.mixed (g := F.slices_IndexFunc___impl_Field_impl_Field_) Cd.slices_ContainsFunc___impl_Field_impl_Field__ok Cd.slices_ContainsFunc___impl_Field_impl_Field__nt Cd.slices_ContainsFunc___impl_Field_impl_Field__rs rfl (fun p : Int × Int => !numB p.1 p.2 w) F.impl_calcCode_1 [.ro [.v (.int .i64 w)]] rfl (idxF fs w hl)
theorem any_notP (l : List (Int × Int)) (p : Int × Int → Bool) : (l.any fun x => !p x) = !(l.all p) := by
  induction l with
  | nil => rfl
  | cons x r ih => simp only [List.any_cons, List.all_cons, ih, Bool.not_and]
theorem calcCode (k w : Int) (fs : List (Int × Int)) (hl : fs.length ≤ 1048576) : Vs.Fn Tryd.prog F.impl_calcCode [] [.v (.int .i64 k), .v (.int .i64 w), .sl 2 (E cP fs)] (.v (.int .i64 (if inB k 1 4 && allP fs w then 0 else 2))) [] := by
  have hany : (fs.any fun p : Int × Int => !numB p.1 p.2 w) = !allP fs w := any_notP fs (fun p : Int × Int => numB p.1 p.2 w)
  refine Cd.impl_calcCode_ok.fn0 Tryd.mixed Cd.impl_calcCode_nt Cd.impl_calcCode_rs rfl fun X => ?_
  unfold Cd.impl_calcCode
  simp -dsimp only [go_sem, reduceIte, reduceCtorEq, Nat.reduceEqDiff, Nat.reduceLT, Nat.reduceLeDiff, Nat.reduceAdd, Nat.reduceMul, Nat.reduceSub, Int.reduceToNat, Int.reduceNeg, hany]
  repeat' (first
    | (refine RgK.mk rfl ?_; simp -dsimp only [go_sem, reduceIte, reduceCtorEq, Nat.reduceEqDiff, Nat.reduceLT, Nat.reduceLeDiff, Nat.reduceAdd, Nat.reduceMul, Nat.reduceSub, Int.reduceToNat, Int.reduceNeg, hany])
    | (refine Br.mk (fun h => ?_) (fun h => ?_) <;> simp -dsimp only [go_sem, reduceIte, reduceCtorEq, Nat.reduceEqDiff, Nat.reduceLT, Nat.reduceLeDiff, Nat.reduceAdd, Nat.reduceMul, Nat.reduceSub, Int.reduceToNat, Int.reduceNeg, h, hany])
    | (refine CallK.flat (by first | exact isCalc k | exact conF fs w hl) rfl ?_; simp -dsimp only [go_sem, reduceIte, reduceCtorEq, Nat.reduceEqDiff, Nat.reduceLT, Nat.reduceLeDiff, Nat.reduceAdd, Nat.reduceMul, Nat.reduceSub, Int.reduceToNat, Int.reduceNeg, hany])
    | (refine CallK.pure (by first | exact isCalc k | exact conF fs w hl) ?_; simp -dsimp only [go_sem, reduceIte, reduceCtorEq, Nat.reduceEqDiff, Nat.reduceLT, Nat.reduceLeDiff, Nat.reduceAdd, Nat.reduceMul, Nat.reduceSub, Int.reduceToNat, Int.reduceNeg, hany])
    | (refine And.intro (by first | rfl | omega | decide | (refine ⟨?_, ?_⟩ <;> (first | rfl | omega | decide)) | (refine ⟨?_, ?_, ?_⟩ <;> (first | rfl | omega | decide)) | (refine ⟨?_, ?_, ?_, ?_⟩ <;> (first | rfl | omega | decide))) ?_)
    | fail)
  all_goals (clear hany; simp_all)

end Go.Proofs.YthpokkcbbpapdaaDoor

namespace Go.Proofs.YthpokkcbbpapdaaDoor
open Go.Vs
set_option linter.unusedSimpArgs false
set_option linter.unusedVariables false
attribute [local irreducible] Vs.Fn

/-- what a kind gives for the numbers of a card's fields -/
def calR (k : Int) (p q : Int × Int) (c : List Int) : Int × Int × Int :=
  if (numC p.1 p.2 c).2 && (numC q.1 q.2 c).2 then calT k (numC p.1 p.2 c).1 (numC q.1 q.2 c).1 else (0, 0, 8)
def rdT (p q : Int × Int) (c : List Int) : Int × Int × Int :=
  if (numC p.1 p.2 c).2 && (numC q.1 q.2 c).2 then ((numC p.1 p.2 c).1, (numC q.1 q.2 c).1, 0) else (0, 0, 8)
theorem l14Read (p q : Int × Int) (c : List Int) (hp : okP p.1 p.2 c) (hq : okP q.1 q.2 c) : Vs.Fn Tryd.prog F.spec_l14Read [] [.ro (cC c), .agg (cP p), .agg (cP q)] (.tup (cT3 (rdT p q c))) [] := by
  refine Cd.spec_l14Read_ok.fn0 Tryd.mixed Cd.spec_l14Read_nt Cd.spec_l14Read_rs rfl fun X => ?_
  unfold Cd.spec_l14Read
  simp -dsimp only [go_sem, reduceIte, reduceCtorEq, Nat.reduceEqDiff, Nat.reduceLT, Nat.reduceLeDiff, Nat.reduceAdd, Nat.reduceMul, Nat.reduceSub, Int.reduceToNat, Int.reduceNeg, cP, cFd, cT3, cC]
  repeat' (first
    | (refine RgK.mk rfl ?_; simp -dsimp only [go_sem, reduceIte, reduceCtorEq, Nat.reduceEqDiff, Nat.reduceLT, Nat.reduceLeDiff, Nat.reduceAdd, Nat.reduceMul, Nat.reduceSub, Int.reduceToNat, Int.reduceNeg, cP, cFd, cT3, cC])
    | (refine Br.mk (fun h => ?_) (fun h => ?_) <;> simp -dsimp only [go_sem, reduceIte, reduceCtorEq, Nat.reduceEqDiff, Nat.reduceLT, Nat.reduceLeDiff, Nat.reduceAdd, Nat.reduceMul, Nat.reduceSub, Int.reduceToNat, Int.reduceNeg, h, cP, cFd, cT3, cC])
    | (refine CallK.flat (by first | exact partC hp | exact partC hq | exact l03NumberC hp | exact l03NumberC hq) rfl ?_; simp -dsimp only [go_sem, reduceIte, reduceCtorEq, Nat.reduceEqDiff, Nat.reduceLT, Nat.reduceLeDiff, Nat.reduceAdd, Nat.reduceMul, Nat.reduceSub, Int.reduceToNat, Int.reduceNeg, cP, cFd, cT3, cC])
    | (refine CallK.pure (by first | exact partC hp | exact partC hq | exact l03NumberC hp | exact l03NumberC hq) ?_; simp -dsimp only [go_sem, reduceIte, reduceCtorEq, Nat.reduceEqDiff, Nat.reduceLT, Nat.reduceLeDiff, Nat.reduceAdd, Nat.reduceMul, Nat.reduceSub, Int.reduceToNat, Int.reduceNeg, cP, cFd, cT3, cC])
    | (refine And.intro (by first | rfl | omega | decide | (refine ⟨?_, ?_⟩ <;> (first | rfl | omega | decide)) | (refine ⟨?_, ?_, ?_⟩ <;> (first | rfl | omega | decide)) | (refine ⟨?_, ?_, ?_, ?_⟩ <;> (first | rfl | omega | decide))) ?_)
    | fail)
  all_goals (simp_all [rdT, cT3])

theorem calculated (k : Int) (hk : inB k 1 4 = true) (p q : Int × Int) (c : List Int) (hp : okP p.1 p.2 c) (hq : okP q.1 q.2 c) : Vs.Fn Tryd.prog F.impl_calculated [] [.v (.int .i64 k), .agg (cC c), .agg (cP p), .agg (cP q)] (.tup (cT3 (calR k p q c))) [] := by
  refine Cd.impl_calculated_ok.fn0 Tryd.mixed Cd.impl_calculated_nt Cd.impl_calculated_rs rfl fun X => ?_
  unfold Cd.impl_calculated
  simp -dsimp only [go_sem, reduceIte, reduceCtorEq, Nat.reduceEqDiff, Nat.reduceLT, Nat.reduceLeDiff, Nat.reduceAdd, Nat.reduceMul, Nat.reduceSub, Int.reduceToNat, Int.reduceNeg, cP, cFd, cT3, cC]
  repeat' (first
    | (refine RgK.mk rfl ?_; simp -dsimp only [go_sem, reduceIte, reduceCtorEq, Nat.reduceEqDiff, Nat.reduceLT, Nat.reduceLeDiff, Nat.reduceAdd, Nat.reduceMul, Nat.reduceSub, Int.reduceToNat, Int.reduceNeg, cP, cFd, cT3, cC])
    | (refine Br.mk (fun h => ?_) (fun h => ?_) <;> simp -dsimp only [go_sem, reduceIte, reduceCtorEq, Nat.reduceEqDiff, Nat.reduceLT, Nat.reduceLeDiff, Nat.reduceAdd, Nat.reduceMul, Nat.reduceSub, Int.reduceToNat, Int.reduceNeg, h, cP, cFd, cT3, cC])
    | (refine CallK.flat (by first | exact numberInC hp | exact numberInC hq | exact calculate k _ _ hk) rfl ?_; simp -dsimp only [go_sem, reduceIte, reduceCtorEq, Nat.reduceEqDiff, Nat.reduceLT, Nat.reduceLeDiff, Nat.reduceAdd, Nat.reduceMul, Nat.reduceSub, Int.reduceToNat, Int.reduceNeg, cP, cFd, cT3, cC])
    | (refine CallK.pure (by first | exact numberInC hp | exact numberInC hq | exact calculate k _ _ hk) ?_; simp -dsimp only [go_sem, reduceIte, reduceCtorEq, Nat.reduceEqDiff, Nat.reduceLT, Nat.reduceLeDiff, Nat.reduceAdd, Nat.reduceMul, Nat.reduceSub, Int.reduceToNat, Int.reduceNeg, cP, cFd, cT3, cC])
    | (refine And.intro (by first | rfl | omega | decide | (refine ⟨?_, ?_⟩ <;> (first | rfl | omega | decide)) | (refine ⟨?_, ?_, ?_⟩ <;> (first | rfl | omega | decide)) | (refine ⟨?_, ?_, ?_, ?_⟩ <;> (first | rfl | omega | decide))) ?_)
    | fail)
  all_goals (simp_all [calR, cT3])

end Go.Proofs.YthpokkcbbpapdaaDoor
