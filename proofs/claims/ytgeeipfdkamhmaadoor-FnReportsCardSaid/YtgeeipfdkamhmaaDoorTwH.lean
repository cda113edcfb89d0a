/- The laws FnExactReportOf and FnExactMissingBy return true for every input, and their arguments read behind the call as they read before. Conditions: the table of the powers of ten, which the library's text lays and the card ties. -/
import Derived.Test.YtgeeipfdkamhmaaDoorTwO
import Derived.Test.YtgeeipfdkamhmaaDoorTwG
import Derived.Test.YtgeeipfdkamhmaaDoorTuO
import Derived.Test.YtgeeipfdkamhmaaDoorFtR
import Derived.Test.YtgeeipfdkamhmaaDoorCards
import Derived.Test.YtgeeipfdkamhmaaDoorTie
import Derived.SevenTiedAt
namespace Go.Proofs.YtgeeipfdkamhmaaDoor
open Go.Vs
set_option linter.unusedSimpArgs false
set_option linter.unusedVariables false
attribute [local irreducible] Vs.Fn
end Go.Proofs.YtgeeipfdkamhmaaDoor

namespace Go.Proofs.YtgeeipfdkamhmaaDoor
open Go.Vs Go.ChangeShapes Go.WideShapes Go.ChangeAt Go.RowKit
set_option linter.unusedSimpArgs false
set_option linter.unusedVariables false
attribute [local irreducible] Vs.Fn
structure Rp where
  count : Int
  sum : Int
  digits : Int
def cR (x : Rp) : List AV := [.v (.int .i64 x.count), .v (.int .i64 x.sum), .v (.int .i64 x.digits)]
def dsL (l : List Int) : List Int := l.map fun x => (dsN x.natAbs : Int)
def repB (l : List Int) : Rp := ⟨l.length, sumL l, sumL (dsL l)⟩
def okA (l : List Int) : Prop := l.length ≤ 1000 ∧ ∀ x, x ∈ l → 0 ≤ x ∧ x ≤ 9999
theorem okA_dsL {l : List Int} (h : okA l) : ∀ x, x ∈ dsL l → 0 ≤ x ∧ x ≤ 9999 := by
  intro x hx
  obtain ⟨y, hy, rfl⟩ := List.mem_map.1 hx
  have := h.2 y hy
  have := dsN_le y.natAbs
  omega
theorem okA_sum {l : List Int} (h : okA l) : (0 ≤ sumL l ∧ sumL l ≤ 9999000) ∧ (0 ≤ sumL (dsL l) ∧ sumL (dsL l) ≤ 9999000) := by
  have h1 := sumL_le (m := 9999) fun x hx => (h.2 x hx).2
  have h2 := sumL_le (m := 9999) (l := dsL l) fun x hx => (okA_dsL h x hx).2
  have h3 := sumL_nonneg fun x hx => (h.2 x hx).1
  have h4 := sumL_nonneg (l := dsL l) fun x hx => (okA_dsL h x hx).1
  have h5 : (dsL l).length = l.length := by simp [dsL]
  have := h.1
  rw [h5] at h2
  omega
theorem reportOf (l : List Int) (hA : okA l) : Vs.Fn Tryd.prog F.impl_reportOf [] [.sl 1 (E cI l)] (.agg (cR (repB l))) [] := by
  refine Cd.impl_reportOf_ok.fn0 Tryd.mixed Cd.impl_reportOf_nt Cd.impl_reportOf_rs rfl fun X => ?_
  unfold Cd.impl_reportOf
  simp -dsimp only [go_sem, reduceIte, reduceCtorEq, Nat.reduceEqDiff, Nat.reduceLT, Nat.reduceLeDiff, Nat.reduceAdd, Nat.reduceMul, Nat.reduceSub, Int.reduceToNat, Int.reduceNeg, cR]
  refine CallK.flat (sizeI l) rfl ?_
  simp -dsimp only [go_sem, reduceIte, reduceCtorEq, Nat.reduceEqDiff, Nat.reduceLT, Nat.reduceLeDiff, Nat.reduceAdd, Nat.reduceMul, Nat.reduceSub, Int.reduceToNat, Int.reduceNeg]
  refine LoopK.at (drawn_ok Tryd.mixed) (X := { zz : Nat × (Int × Int) // zz.1 ≤ l.length ∧ 0 ≤ zz.2.1 ∧ zz.2.1 + sumL (l.drop zz.1) = sumL l ∧ 0 ≤ zz.2.2 ∧ zz.2.2 + sumL ((dsL l).drop zz.1) = sumL (dsL l) }) (fun zz => [(11, .v (.int .i64 zz.1.1))]) (fun zz => [(.t 3 0, .var [.v (.int .i64 l.length), .v (.int .i64 zz.1.2.1), .v (.int .i64 zz.1.2.2)] false)]) (fun zz => l.length - zz.1.1) ⟨(0, (0, 0)), by omega, by simp⟩ ?_ ?_
  · simp [Vs.LeL, Vs.look, Vs.hlook, Vs.sput, Vs.sputs, Vs.hset, Vs.hputs]
  · rintro ⟨⟨i, a, b⟩, hi, hg⟩
    dsimp only at hi hg
    simp -dsimp only [go_sem, reduceIte, reduceCtorEq, Nat.reduceEqDiff, Nat.reduceLT, Nat.reduceLeDiff, Nat.reduceAdd, Nat.reduceMul, Nat.reduceSub, Int.reduceToNat, Int.reduceNeg]
    refine Br.mk (fun hc => ?_) fun hc => ?_
    · have hlt : i < l.length := by first | (simpa using hc) | (simp at hc; omega)
      have hw := wrap_succ hlt (by have := hA.1; omega)
      have hx := hA.2 _ (List.getElem_mem hlt)
      have hnn := sumL_dropN (fun x hx => (hA.2 x hx).1) (i + 1) (l := l)
      have hnd := sumL_dropN (fun x hx => (okA_dsL hA x hx).1) (i + 1) (l := dsL l)
      obtain ⟨⟨t0, t1⟩, u0, u1⟩ := okA_sum hA
      obtain ⟨hg0, hg1, hg2, hg3⟩ := hg
      rw [sumL_drop hlt] at hg1
      rw [sumL_drop (by simpa [dsL] using hlt)] at hg3
      have hdl : (dsL l)[i]'(by simpa [dsL] using hlt) = (dsN l[i].natAbs : Int) := by simp [dsL]
      rw [hdl] at hg3
      have hwa : IntKind.i64.wrap (a + l[i]) = a + l[i] := wrap_in (by omega) (by omega)
      have hwb : IntKind.i64.wrap (b + (dsN l[i].natAbs : Int)) = b + (dsN l[i].natAbs : Int) := wrap_in (by omega) (by omega)
      simp -dsimp only [go_sem, reduceIte, reduceCtorEq, Nat.reduceEqDiff, Nat.reduceLT, Nat.reduceLeDiff, Nat.reduceAdd, Nat.reduceMul, Nat.reduceSub, Int.reduceToNat, Int.reduceNeg, cI_get hlt, hw, hwa, hwb]
      repeat' (first
        | (refine RgK.mk rfl ?_; simp -dsimp only [go_sem, reduceIte, reduceCtorEq, Nat.reduceEqDiff, Nat.reduceLT, Nat.reduceLeDiff, Nat.reduceAdd, Nat.reduceMul, Nat.reduceSub, Int.reduceToNat, Int.reduceNeg, cI_get hlt, hw, hwa, hwb])
        | (refine Br.mk (fun h => ?_) (fun h => ?_) <;> simp -dsimp only [go_sem, reduceIte, reduceCtorEq, Nat.reduceEqDiff, Nat.reduceLT, Nat.reduceLeDiff, Nat.reduceAdd, Nat.reduceMul, Nat.reduceSub, Int.reduceToNat, Int.reduceNeg, h, cI_get hlt, hw, hwa, hwb])
        | (refine CallK.flat (by first | exact digitSum _ (by omega) (by omega)) rfl ?_; simp -dsimp only [go_sem, reduceIte, reduceCtorEq, Nat.reduceEqDiff, Nat.reduceLT, Nat.reduceLeDiff, Nat.reduceAdd, Nat.reduceMul, Nat.reduceSub, Int.reduceToNat, Int.reduceNeg, cI_get hlt, hw, hwa, hwb])
        | (refine CallK.pure (by first | exact digitSum _ (by omega) (by omega)) ?_; simp -dsimp only [go_sem, reduceIte, reduceCtorEq, Nat.reduceEqDiff, Nat.reduceLT, Nat.reduceLeDiff, Nat.reduceAdd, Nat.reduceMul, Nat.reduceSub, Int.reduceToNat, Int.reduceNeg, cI_get hlt, hw, hwa, hwb])
        | (refine And.intro (by first | rfl | omega | decide | (refine ⟨?_, ?_⟩ <;> (first | rfl | omega | decide)) | (refine ⟨?_, ?_, ?_⟩ <;> (first | rfl | omega | decide)) | (refine ⟨?_, ?_, ?_, ?_⟩ <;> (first | rfl | omega | decide))) ?_)
        | fail)

      all_goals (exact ⟨⟨(i + 1, (a + l[i], b + (dsN l[i].natAbs : Int))), by first | omega | simp | exact ⟨by omega, by omega⟩, ⟨by dsimp only; omega, by dsimp only; omega, by dsimp only; omega, by dsimp only; omega⟩⟩, by simp [Vs.LeL, Vs.look, Vs.hlook, Vs.sput, Vs.sputs, Vs.hset, Vs.hputs], by simp only; omega⟩)
    · have hge : i = l.length := by
        have : ¬ i < l.length := by first | (simpa using hc) | (simp at hc; omega)
        omega
      subst hge
      simp -dsimp only [go_sem, reduceIte, reduceCtorEq, Nat.reduceEqDiff, Nat.reduceLT, Nat.reduceLeDiff, Nat.reduceAdd, Nat.reduceMul, Nat.reduceSub, Int.reduceToNat, Int.reduceNeg]
      obtain ⟨hg0, hg1, hg2, hg3⟩ := hg
      rw [List.drop_length, sumL] at hg1
      rw [show l.length = (dsL l).length by simp [dsL], List.drop_length, sumL] at hg3
      have e1 : a = sumL l := by omega
      have e2 : b = sumL (dsL l) := by omega
      simp [repB, cR, e1, e2]

theorem amB_okA {l : List Int} (h : amB l = true) : okA l := by
  simp only [amB, Bool.and_eq_true, List.all_eq_true, decide_eq_true_eq, inB] at h
  exact ⟨by omega, fun x hx => ⟨(h.1 x hx).1, (h.1 x hx).2⟩⟩
theorem amB_okN {l : List Int} (h : (!amB l) = false) : okA l := amB_okA (by simpa using h)
def repR (l : List Int) : Rp := if amB l then repB l else ⟨0, 0, 0⟩
def repC (l : List Int) : Int := if amB l then 0 else 1
def okR (r : Rp) : Bool := inB r.count (-1000000000) 1000000000 && (inB r.sum (-1000000000) 1000000000 && inB r.digits (-1000000000) 1000000000)
def lessR (a b : Rp) : Rp := ⟨W (a.count - b.count), W (a.sum - b.sum), W (a.digits - b.digits)⟩
def misR (l : List Int) (r : Rp) : Rp := if amB l then (if okR r then lessR r (repB l) else ⟨0, 0, 0⟩) else ⟨0, 0, 0⟩
def misC (l : List Int) (r : Rp) : Int := if amB l then (if okR r then 0 else 2) else 1
theorem impl_ReportOf (l : List Int) (hl : l.length ≤ 1048576) : Vs.Fn Tryd.prog F.impl_ReportOf [] [.sl 1 (E cI l)] (.tup [.agg (cR (repR l)), .v (.int .i64 (repC l))]) [] := by
  refine Cd.impl_ReportOf_ok.fn0 Tryd.mixed Cd.impl_ReportOf_nt Cd.impl_ReportOf_rs rfl fun X => ?_
  unfold Cd.impl_ReportOf
  simp -dsimp only [go_sem, reduceIte, reduceCtorEq, Nat.reduceEqDiff, Nat.reduceLT, Nat.reduceLeDiff, Nat.reduceAdd, Nat.reduceMul, Nat.reduceSub, Int.reduceToNat, Int.reduceNeg, cR]
  repeat' (first
    | (refine RgK.mk rfl ?_; simp -dsimp only [go_sem, reduceIte, reduceCtorEq, Nat.reduceEqDiff, Nat.reduceLT, Nat.reduceLeDiff, Nat.reduceAdd, Nat.reduceMul, Nat.reduceSub, Int.reduceToNat, Int.reduceNeg, cR])
    | (refine Br.mk (fun h => ?_) (fun h => ?_) <;> simp -dsimp only [go_sem, reduceIte, reduceCtorEq, Nat.reduceEqDiff, Nat.reduceLT, Nat.reduceLeDiff, Nat.reduceAdd, Nat.reduceMul, Nat.reduceSub, Int.reduceToNat, Int.reduceNeg, h, cR])
    | (refine CallK.flat (by first | exact validAmounts l hl | exact reportOf l (amB_okN (by assumption))) rfl ?_; simp -dsimp only [go_sem, reduceIte, reduceCtorEq, Nat.reduceEqDiff, Nat.reduceLT, Nat.reduceLeDiff, Nat.reduceAdd, Nat.reduceMul, Nat.reduceSub, Int.reduceToNat, Int.reduceNeg, cR])
    | (refine CallK.pure (by first | exact validAmounts l hl | exact reportOf l (amB_okN (by assumption))) ?_; simp -dsimp only [go_sem, reduceIte, reduceCtorEq, Nat.reduceEqDiff, Nat.reduceLT, Nat.reduceLeDiff, Nat.reduceAdd, Nat.reduceMul, Nat.reduceSub, Int.reduceToNat, Int.reduceNeg, cR])
    | (refine And.intro (by first | rfl | omega | decide | (refine ⟨?_, ?_⟩ <;> (first | rfl | omega | decide)) | (refine ⟨?_, ?_, ?_⟩ <;> (first | rfl | omega | decide)) | (refine ⟨?_, ?_, ?_, ?_⟩ <;> (first | rfl | omega | decide))) ?_)
    | fail)
  all_goals (simp_all [repR, repC, cR])

theorem isReport (a : Rp) : Vs.Fn Tryd.prog F.impl_isReport [] [.agg (cR a)] (.v (.bool (okR a))) [] := by
  refine Cd.impl_isReport_ok.fn0 Tryd.mixed Cd.impl_isReport_nt Cd.impl_isReport_rs rfl fun X => ?_
  unfold Cd.impl_isReport
  simp -dsimp only [go_sem, reduceIte, reduceCtorEq, Nat.reduceEqDiff, Nat.reduceLT, Nat.reduceLeDiff, Nat.reduceAdd, Nat.reduceMul, Nat.reduceSub, Int.reduceToNat, Int.reduceNeg, cR]
  repeat' (first
    | (refine RgK.mk rfl ?_; simp -dsimp only [go_sem, reduceIte, reduceCtorEq, Nat.reduceEqDiff, Nat.reduceLT, Nat.reduceLeDiff, Nat.reduceAdd, Nat.reduceMul, Nat.reduceSub, Int.reduceToNat, Int.reduceNeg, cR])
    | (refine Br.mk (fun h => ?_) (fun h => ?_) <;> simp -dsimp only [go_sem, reduceIte, reduceCtorEq, Nat.reduceEqDiff, Nat.reduceLT, Nat.reduceLeDiff, Nat.reduceAdd, Nat.reduceMul, Nat.reduceSub, Int.reduceToNat, Int.reduceNeg, h, cR])
    | (refine CallK.flat (by first | exact inside _ _ _) rfl ?_; simp -dsimp only [go_sem, reduceIte, reduceCtorEq, Nat.reduceEqDiff, Nat.reduceLT, Nat.reduceLeDiff, Nat.reduceAdd, Nat.reduceMul, Nat.reduceSub, Int.reduceToNat, Int.reduceNeg, cR])
    | (refine CallK.pure (by first | exact inside _ _ _) ?_; simp -dsimp only [go_sem, reduceIte, reduceCtorEq, Nat.reduceEqDiff, Nat.reduceLT, Nat.reduceLeDiff, Nat.reduceAdd, Nat.reduceMul, Nat.reduceSub, Int.reduceToNat, Int.reduceNeg, cR])
    | (refine And.intro (by first | rfl | omega | decide | (refine ⟨?_, ?_⟩ <;> (first | rfl | omega | decide)) | (refine ⟨?_, ?_, ?_⟩ <;> (first | rfl | omega | decide)) | (refine ⟨?_, ?_, ?_, ?_⟩ <;> (first | rfl | omega | decide))) ?_)
    | fail)
  all_goals (simp_all [okR])

theorem lessRep (a b : Rp) : Vs.Fn Tryd.prog F._impl_Report__less [] [.agg (cR a), .agg (cR b)] (.agg (cR (lessR a b))) [] := by
  refine Cd._impl_Report__less_ok.fn0 Tryd.mixed Cd._impl_Report__less_nt Cd._impl_Report__less_rs rfl fun X => ?_
  unfold Cd._impl_Report__less
  simp -dsimp only [go_sem, reduceIte, reduceCtorEq, Nat.reduceEqDiff, Nat.reduceLT, Nat.reduceLeDiff, Nat.reduceAdd, Nat.reduceMul, Nat.reduceSub, Int.reduceToNat, Int.reduceNeg, cR]
  repeat' (first
    | (refine RgK.mk rfl ?_; simp -dsimp only [go_sem, reduceIte, reduceCtorEq, Nat.reduceEqDiff, Nat.reduceLT, Nat.reduceLeDiff, Nat.reduceAdd, Nat.reduceMul, Nat.reduceSub, Int.reduceToNat, Int.reduceNeg, cR])
    | (refine Br.mk (fun h => ?_) (fun h => ?_) <;> simp -dsimp only [go_sem, reduceIte, reduceCtorEq, Nat.reduceEqDiff, Nat.reduceLT, Nat.reduceLeDiff, Nat.reduceAdd, Nat.reduceMul, Nat.reduceSub, Int.reduceToNat, Int.reduceNeg, h, cR])
    | (refine And.intro (by first | rfl | omega | decide | (refine ⟨?_, ?_⟩ <;> (first | rfl | omega | decide)) | (refine ⟨?_, ?_, ?_⟩ <;> (first | rfl | omega | decide)) | (refine ⟨?_, ?_, ?_, ?_⟩ <;> (first | rfl | omega | decide))) ?_)
    | fail)
  all_goals (exact ⟨_, _, rfl, rfl⟩)

theorem impl_MissingBy (l : List Int) (a : Rp) (hl : l.length ≤ 1048576) : Vs.Fn Tryd.prog F.impl_MissingBy [] [.sl 1 (E cI l), .agg (cR a)] (.tup [.agg (cR (misR l a)), .v (.int .i64 (misC l a))]) [] := by
  refine Cd.impl_MissingBy_ok.fn0 Tryd.mixed Cd.impl_MissingBy_nt Cd.impl_MissingBy_rs rfl fun X => ?_
  unfold Cd.impl_MissingBy
  simp -dsimp only [go_sem, reduceIte, reduceCtorEq, Nat.reduceEqDiff, Nat.reduceLT, Nat.reduceLeDiff, Nat.reduceAdd, Nat.reduceMul, Nat.reduceSub, Int.reduceToNat, Int.reduceNeg, cR]
  repeat' (first
    | (refine RgK.mk rfl ?_; simp -dsimp only [go_sem, reduceIte, reduceCtorEq, Nat.reduceEqDiff, Nat.reduceLT, Nat.reduceLeDiff, Nat.reduceAdd, Nat.reduceMul, Nat.reduceSub, Int.reduceToNat, Int.reduceNeg, cR])
    | (refine Br.mk (fun h => ?_) (fun h => ?_) <;> simp -dsimp only [go_sem, reduceIte, reduceCtorEq, Nat.reduceEqDiff, Nat.reduceLT, Nat.reduceLeDiff, Nat.reduceAdd, Nat.reduceMul, Nat.reduceSub, Int.reduceToNat, Int.reduceNeg, h, cR])
    | (refine CallK.flat (by first | exact validAmounts l hl | exact isReport a | exact reportOf l (amB_okN (by assumption)) | exact lessRep _ _) rfl ?_; simp -dsimp only [go_sem, reduceIte, reduceCtorEq, Nat.reduceEqDiff, Nat.reduceLT, Nat.reduceLeDiff, Nat.reduceAdd, Nat.reduceMul, Nat.reduceSub, Int.reduceToNat, Int.reduceNeg, cR])
    | (refine CallK.pure (by first | exact validAmounts l hl | exact isReport a | exact reportOf l (amB_okN (by assumption)) | exact lessRep _ _) ?_; simp -dsimp only [go_sem, reduceIte, reduceCtorEq, Nat.reduceEqDiff, Nat.reduceLT, Nat.reduceLeDiff, Nat.reduceAdd, Nat.reduceMul, Nat.reduceSub, Int.reduceToNat, Int.reduceNeg, cR])
    | (refine And.intro (by first | rfl | omega | decide | (refine ⟨?_, ?_⟩ <;> (first | rfl | omega | decide)) | (refine ⟨?_, ?_, ?_⟩ <;> (first | rfl | omega | decide)) | (refine ⟨?_, ?_, ?_, ?_⟩ <;> (first | rfl | omega | decide))) ?_)
    | fail)
  all_goals (simp_all [misR, misC, cR])

end Go.Proofs.YtgeeipfdkamhmaaDoor
