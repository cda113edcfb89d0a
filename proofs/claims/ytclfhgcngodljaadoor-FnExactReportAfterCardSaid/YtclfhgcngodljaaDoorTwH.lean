/- The laws FnExactReportOf and FnExactMissingBy return true for every input, and their arguments read behind the call as they read before. Conditions: the table of the powers of ten, which the library's text lays and the card ties. -/
import Derived.Test.YtclfhgcngodljaaDoorTuO
import Derived.Test.YtclfhgcngodljaaDoorDtQ
import Derived.Test.YtclfhgcngodljaaDoorCards
import Derived.Test.YtclfhgcngodljaaDoorTie
import Derived.SevenTiedAt
namespace Go.Proofs.YtclfhgcngodljaaDoor
open Go.Vs Go.ChangeShapes Go.WideShapes Go.ChangeAt Go.RowKit
set_option linter.unusedSimpArgs false
set_option linter.unusedVariables false
attribute [local irreducible] Vs.Fn

structure Rp where
  count : Int
  sum : Int
  digits : Int
def cR (x : Rp) : List AV := [.v (.int .i64 x.count), .v (.int .i64 x.sum), .v (.int .i64 x.digits)]
def dsL (l : List Int) : List Int := l.map fun x => (dsN x.natAbs : Int)
def repB (l : List Int) : Rp := ⟨l.length, sumL l, sumL (dsL l)⟩
def okA (l : List Int) : Prop := l.length ≤ 1000 ∧ ∀ x, x ∈ l → 0 ≤ x ∧ x ≤ 9999
theorem okA_dsL {l : List Int} (h : okA l) : ∀ x, x ∈ dsL l → 0 ≤ x ∧ x ≤ 9999 := by
  intro x hx
  obtain ⟨y, hy, rfl⟩ := List.mem_map.1 hx
  have := h.2 y hy
  have := dsN_le y.natAbs
  omega
theorem okA_sum {l : List Int} (h : okA l) : (0 ≤ sumL l ∧ sumL l ≤ 9999000) ∧ (0 ≤ sumL (dsL l) ∧ sumL (dsL l) ≤ 9999000) := by
  have h1 := sumL_le (m := 9999) fun x hx => (h.2 x hx).2
  have h2 := sumL_le (m := 9999) (l := dsL l) fun x hx => (okA_dsL h x hx).2
  have h3 := sumL_nonneg fun x hx => (h.2 x hx).1
  have h4 := sumL_nonneg (l := dsL l) fun x hx => (okA_dsL h x hx).1
  have h5 : (dsL l).length = l.length := by simp [dsL]
  have := h.1
  rw [h5] at h2
  omega
theorem l19DigitsI (z : Int) (h0 : 0 ≤ z) (h1 : z ≤ 1000000000) : Vs.Fn Tryd.prog F.spec_l19Digits [] [.v (.int .i64 z)] (.v (.int .i64 (dsN z.natAbs))) [] := by
  obtain ⟨n, rfl⟩ : ∃ n : Nat, z = n := ⟨z.toNat, by omega⟩
  exact l19Digits n (by omega)
theorem l19Report (l : List Int) (hA : okA l) : Vs.Fn Tryd.prog F.spec_l19Report [] [.sl 1 (E cI l)] (.agg (cR (repB l))) [] := by
  refine Cd.spec_l19Report_ok.fn0 Tryd.mixed Cd.spec_l19Report_nt Cd.spec_l19Report_rs rfl fun X => ?_
  unfold Cd.spec_l19Report
  simp -dsimp only [go_sem, reduceIte, reduceCtorEq, Nat.reduceEqDiff, Nat.reduceLT, Nat.reduceLeDiff, Nat.reduceAdd, Nat.reduceMul, Nat.reduceSub, Int.reduceToNat, Int.reduceNeg, cR]
  refine LoopK.at (drawn_ok Tryd.mixed) (X := { zz : Nat × (Int × Int) // zz.1 ≤ l.length ∧ 0 ≤ zz.2.1 ∧ zz.2.1 + sumL (l.drop zz.1) = sumL l ∧ 0 ≤ zz.2.2 ∧ zz.2.2 + sumL ((dsL l).drop zz.1) = sumL (dsL l) }) (fun zz => [(4, .v (.int .i64 zz.1.1))]) (fun zz => [(.t 3 0, .var [.v (.int .i64 l.length), .v (.int .i64 zz.1.2.1), .v (.int .i64 zz.1.2.2)] false)]) (fun zz => l.length - zz.1.1) ⟨(0, (0, 0)), by omega, by simp⟩ ?_ ?_
  · simp [Vs.LeL, Vs.look, Vs.hlook, Vs.sput, Vs.sputs, Vs.hset, Vs.hputs]
  · rintro ⟨⟨i, a, b⟩, hi, hg⟩
    dsimp only at hi hg
    simp -dsimp only [go_sem, reduceIte, reduceCtorEq, Nat.reduceEqDiff, Nat.reduceLT, Nat.reduceLeDiff, Nat.reduceAdd, Nat.reduceMul, Nat.reduceSub, Int.reduceToNat, Int.reduceNeg]
    refine Br.mk (fun hc => ?_) fun hc => ?_
    · have hlt : i < l.length := by simpa using hc
      have hw := wrap_succ hlt (by have := hA.1; omega)
      have hx := hA.2 _ (List.getElem_mem hlt)
      have hnn := sumL_dropN (fun x hx => (hA.2 x hx).1) (i + 1) (l := l)
      have hnd := sumL_dropN (fun x hx => (okA_dsL hA x hx).1) (i + 1) (l := dsL l)
      obtain ⟨⟨t0, t1⟩, u0, u1⟩ := okA_sum hA
      obtain ⟨hg0, hg1, hg2, hg3⟩ := hg
      rw [sumL_drop hlt] at hg1
      rw [sumL_drop (by simpa [dsL] using hlt)] at hg3
      have hdl : (dsL l)[i]'(by simpa [dsL] using hlt) = (dsN l[i].natAbs : Int) := by simp [dsL]
      rw [hdl] at hg3
      have hwa : IntKind.i64.wrap (a + l[i]) = a + l[i] := wrap_in (by omega) (by omega)
      have hwb : IntKind.i64.wrap (b + (dsN l[i].natAbs : Int)) = b + (dsN l[i].natAbs : Int) := wrap_in (by omega) (by omega)
      simp -dsimp only [go_sem, reduceIte, reduceCtorEq, Nat.reduceEqDiff, Nat.reduceLT, Nat.reduceLeDiff, Nat.reduceAdd, Nat.reduceMul, Nat.reduceSub, Int.reduceToNat, Int.reduceNeg, cI_get hlt, hw, hwa, hwb]
      repeat' (first
        | (refine RgK.mk rfl ?_; simp -dsimp only [go_sem, reduceIte, reduceCtorEq, Nat.reduceEqDiff, Nat.reduceLT, Nat.reduceLeDiff, Nat.reduceAdd, Nat.reduceMul, Nat.reduceSub, Int.reduceToNat, Int.reduceNeg, cI_get hlt, hw, hwa, hwb])
        | (refine Br.mk (fun h => ?_) (fun h => ?_) <;> simp -dsimp only [go_sem, reduceIte, reduceCtorEq, Nat.reduceEqDiff, Nat.reduceLT, Nat.reduceLeDiff, Nat.reduceAdd, Nat.reduceMul, Nat.reduceSub, Int.reduceToNat, Int.reduceNeg, h, cI_get hlt, hw, hwa, hwb])
        | (refine CallK.flat (by first | exact l19DigitsI _ (by omega) (by omega)) rfl ?_; simp -dsimp only [go_sem, reduceIte, reduceCtorEq, Nat.reduceEqDiff, Nat.reduceLT, Nat.reduceLeDiff, Nat.reduceAdd, Nat.reduceMul, Nat.reduceSub, Int.reduceToNat, Int.reduceNeg, cI_get hlt, hw, hwa, hwb])
        | (refine CallK.pure (by first | exact l19DigitsI _ (by omega) (by omega)) ?_; simp -dsimp only [go_sem, reduceIte, reduceCtorEq, Nat.reduceEqDiff, Nat.reduceLT, Nat.reduceLeDiff, Nat.reduceAdd, Nat.reduceMul, Nat.reduceSub, Int.reduceToNat, Int.reduceNeg, cI_get hlt, hw, hwa, hwb])
        | (refine And.intro (by first | rfl | omega | decide | (refine ⟨?_, ?_⟩ <;> (first | rfl | omega | decide)) | (refine ⟨?_, ?_, ?_⟩ <;> (first | rfl | omega | decide)) | (refine ⟨?_, ?_, ?_, ?_⟩ <;> (first | rfl | omega | decide))) ?_))

      all_goals (exact ⟨⟨(i + 1, (a + l[i], b + (dsN l[i].natAbs : Int))), by first | omega | simp | exact ⟨by omega, by omega⟩, ⟨by dsimp only; omega, by dsimp only; omega, by dsimp only; omega, by dsimp only; omega⟩⟩, by simp [Vs.LeL, Vs.look, Vs.hlook, Vs.sput, Vs.sputs, Vs.hset, Vs.hputs], by simp only; omega⟩)
    · have hge : i = l.length := by
        have : ¬ i < l.length := by simpa using hc
        omega
      subst hge
      simp -dsimp only [go_sem, reduceIte, reduceCtorEq, Nat.reduceEqDiff, Nat.reduceLT, Nat.reduceLeDiff, Nat.reduceAdd, Nat.reduceMul, Nat.reduceSub, Int.reduceToNat, Int.reduceNeg]
      obtain ⟨hg0, hg1, hg2, hg3⟩ := hg
      rw [List.drop_length, sumL] at hg1
      rw [show l.length = (dsL l).length by simp [dsL], List.drop_length, sumL] at hg3
      have e1 : a = sumL l := by omega
      have e2 : b = sumL (dsL l) := by omega
      simp [repB, cR, e1, e2]
theorem reportOf (l : List Int) (hA : okA l) : Vs.Fn Tryd.prog F.impl_reportOf [] [.sl 1 (E cI l)] (.agg (cR (repB l))) [] := by
  refine Cd.impl_reportOf_ok.fn0 Tryd.mixed Cd.impl_reportOf_nt Cd.impl_reportOf_rs rfl fun X => ?_
  unfold Cd.impl_reportOf
  simp -dsimp only [go_sem, reduceIte, reduceCtorEq, Nat.reduceEqDiff, Nat.reduceLT, Nat.reduceLeDiff, Nat.reduceAdd, Nat.reduceMul, Nat.reduceSub, Int.reduceToNat, Int.reduceNeg, cR]
  refine CallK.flat (sizeI l) rfl ?_
  simp -dsimp only [go_sem, reduceIte, reduceCtorEq, Nat.reduceEqDiff, Nat.reduceLT, Nat.reduceLeDiff, Nat.reduceAdd, Nat.reduceMul, Nat.reduceSub, Int.reduceToNat, Int.reduceNeg]
  refine LoopK.at (drawn_ok Tryd.mixed) (X := { zz : Nat × (Int × Int) // zz.1 ≤ l.length ∧ 0 ≤ zz.2.1 ∧ zz.2.1 + sumL (l.drop zz.1) = sumL l ∧ 0 ≤ zz.2.2 ∧ zz.2.2 + sumL ((dsL l).drop zz.1) = sumL (dsL l) }) (fun zz => [(11, .v (.int .i64 zz.1.1))]) (fun zz => [(.t 3 0, .var [.v (.int .i64 l.length), .v (.int .i64 zz.1.2.1), .v (.int .i64 zz.1.2.2)] false)]) (fun zz => l.length - zz.1.1) ⟨(0, (0, 0)), by omega, by simp⟩ ?_ ?_
  · simp [Vs.LeL, Vs.look, Vs.hlook, Vs.sput, Vs.sputs, Vs.hset, Vs.hputs]
  · rintro ⟨⟨i, a, b⟩, hi, hg⟩
    dsimp only at hi hg
    simp -dsimp only [go_sem, reduceIte, reduceCtorEq, Nat.reduceEqDiff, Nat.reduceLT, Nat.reduceLeDiff, Nat.reduceAdd, Nat.reduceMul, Nat.reduceSub, Int.reduceToNat, Int.reduceNeg]
    refine Br.mk (fun hc => ?_) fun hc => ?_
    · have hlt : i < l.length := by simpa using hc
      have hw := wrap_succ hlt (by have := hA.1; omega)
      have hx := hA.2 _ (List.getElem_mem hlt)
      have hnn := sumL_dropN (fun x hx => (hA.2 x hx).1) (i + 1) (l := l)
      have hnd := sumL_dropN (fun x hx => (okA_dsL hA x hx).1) (i + 1) (l := dsL l)
      obtain ⟨⟨t0, t1⟩, u0, u1⟩ := okA_sum hA
      obtain ⟨hg0, hg1, hg2, hg3⟩ := hg
      rw [sumL_drop hlt] at hg1
      rw [sumL_drop (by simpa [dsL] using hlt)] at hg3
      have hdl : (dsL l)[i]'(by simpa [dsL] using hlt) = (dsN l[i].natAbs : Int) := by simp [dsL]
      rw [hdl] at hg3
      have hwa : IntKind.i64.wrap (a + l[i]) = a + l[i] := wrap_in (by omega) (by omega)
      have hwb : IntKind.i64.wrap (b + (dsN l[i].natAbs : Int)) = b + (dsN l[i].natAbs : Int) := wrap_in (by omega) (by omega)
      simp -dsimp only [go_sem, reduceIte, reduceCtorEq, Nat.reduceEqDiff, Nat.reduceLT, Nat.reduceLeDiff, Nat.reduceAdd, Nat.reduceMul, Nat.reduceSub, Int.reduceToNat, Int.reduceNeg, cI_get hlt, hw, hwa, hwb]
      repeat' (first
        | (refine RgK.mk rfl ?_; simp -dsimp only [go_sem, reduceIte, reduceCtorEq, Nat.reduceEqDiff, Nat.reduceLT, Nat.reduceLeDiff, Nat.reduceAdd, Nat.reduceMul, Nat.reduceSub, Int.reduceToNat, Int.reduceNeg, cI_get hlt, hw, hwa, hwb])
        | (refine Br.mk (fun h => ?_) (fun h => ?_) <;> simp -dsimp only [go_sem, reduceIte, reduceCtorEq, Nat.reduceEqDiff, Nat.reduceLT, Nat.reduceLeDiff, Nat.reduceAdd, Nat.reduceMul, Nat.reduceSub, Int.reduceToNat, Int.reduceNeg, h, cI_get hlt, hw, hwa, hwb])
        | (refine CallK.flat (by first | exact digitSum _ (by omega) (by omega)) rfl ?_; simp -dsimp only [go_sem, reduceIte, reduceCtorEq, Nat.reduceEqDiff, Nat.reduceLT, Nat.reduceLeDiff, Nat.reduceAdd, Nat.reduceMul, Nat.reduceSub, Int.reduceToNat, Int.reduceNeg, cI_get hlt, hw, hwa, hwb])
        | (refine CallK.pure (by first | exact digitSum _ (by omega) (by omega)) ?_; simp -dsimp only [go_sem, reduceIte, reduceCtorEq, Nat.reduceEqDiff, Nat.reduceLT, Nat.reduceLeDiff, Nat.reduceAdd, Nat.reduceMul, Nat.reduceSub, Int.reduceToNat, Int.reduceNeg, cI_get hlt, hw, hwa, hwb])
        | (refine And.intro (by first | rfl | omega | decide | (refine ⟨?_, ?_⟩ <;> (first | rfl | omega | decide)) | (refine ⟨?_, ?_, ?_⟩ <;> (first | rfl | omega | decide)) | (refine ⟨?_, ?_, ?_, ?_⟩ <;> (first | rfl | omega | decide))) ?_))

      all_goals (exact ⟨⟨(i + 1, (a + l[i], b + (dsN l[i].natAbs : Int))), by first | omega | simp | exact ⟨by omega, by omega⟩, ⟨by dsimp only; omega, by dsimp only; omega, by dsimp only; omega, by dsimp only; omega⟩⟩, by simp [Vs.LeL, Vs.look, Vs.hlook, Vs.sput, Vs.sputs, Vs.hset, Vs.hputs], by simp only; omega⟩)
    · have hge : i = l.length := by
        have : ¬ i < l.length := by simpa using hc
        omega
      subst hge
      simp -dsimp only [go_sem, reduceIte, reduceCtorEq, Nat.reduceEqDiff, Nat.reduceLT, Nat.reduceLeDiff, Nat.reduceAdd, Nat.reduceMul, Nat.reduceSub, Int.reduceToNat, Int.reduceNeg]
      obtain ⟨hg0, hg1, hg2, hg3⟩ := hg
      rw [List.drop_length, sumL] at hg1
      rw [show l.length = (dsL l).length by simp [dsL], List.drop_length, sumL] at hg3
      have e1 : a = sumL l := by omega
      have e2 : b = sumL (dsL l) := by omega
      simp [repB, cR, e1, e2]

theorem amB_okA {l : List Int} (h : amB l = true) : okA l := by
  simp only [amB, Bool.and_eq_true, List.all_eq_true, decide_eq_true_eq, inB] at h
  exact ⟨by omega, fun x hx => ⟨(h.1 x hx).1, (h.1 x hx).2⟩⟩
theorem amB_okN {l : List Int} (h : (!amB l) = false) : okA l := amB_okA (by simpa using h)
def repR (l : List Int) : Rp := if amB l then repB l else ⟨0, 0, 0⟩
def repC (l : List Int) : Int := if amB l then 0 else 1
def okR (r : Rp) : Bool := inB r.count (-1000000000) 1000000000 && (inB r.sum (-1000000000) 1000000000 && inB r.digits (-1000000000) 1000000000)
def lessR (a b : Rp) : Rp := ⟨W (a.count - b.count), W (a.sum - b.sum), W (a.digits - b.digits)⟩
def misR (l : List Int) (r : Rp) : Rp := if amB l then (if okR r then lessR r (repB l) else ⟨0, 0, 0⟩) else ⟨0, 0, 0⟩
def misC (l : List Int) (r : Rp) : Int := if amB l then (if okR r then 0 else 2) else 1
theorem spec_ReportOf (l : List Int) (hl : l.length ≤ 1048576) : Vs.Fn Tryd.prog F.spec_ReportOf [] [.sl 1 (E cI l)] (.tup [.agg (cR (repR l)), .v (.int .i64 (repC l))]) [] := by
  refine Cd.spec_ReportOf_ok.fn0 Tryd.mixed Cd.spec_ReportOf_nt Cd.spec_ReportOf_rs rfl fun X => ?_
  unfold Cd.spec_ReportOf
  simp -dsimp only [go_sem, reduceIte, reduceCtorEq, Nat.reduceEqDiff, Nat.reduceLT, Nat.reduceLeDiff, Nat.reduceAdd, Nat.reduceMul, Nat.reduceSub, Int.reduceToNat, Int.reduceNeg, cR]
  repeat' (first
    | (refine RgK.mk rfl ?_; simp -dsimp only [go_sem, reduceIte, reduceCtorEq, Nat.reduceEqDiff, Nat.reduceLT, Nat.reduceLeDiff, Nat.reduceAdd, Nat.reduceMul, Nat.reduceSub, Int.reduceToNat, Int.reduceNeg, cR])
    | (refine Br.mk (fun h => ?_) (fun h => ?_) <;> simp -dsimp only [go_sem, reduceIte, reduceCtorEq, Nat.reduceEqDiff, Nat.reduceLT, Nat.reduceLeDiff, Nat.reduceAdd, Nat.reduceMul, Nat.reduceSub, Int.reduceToNat, Int.reduceNeg, h, cR])
    | (refine CallK.flat (by first | exact l19Ok l hl | exact l19Report l (amB_okN (by assumption))) rfl ?_; simp -dsimp only [go_sem, reduceIte, reduceCtorEq, Nat.reduceEqDiff, Nat.reduceLT, Nat.reduceLeDiff, Nat.reduceAdd, Nat.reduceMul, Nat.reduceSub, Int.reduceToNat, Int.reduceNeg, cR])
    | (refine CallK.pure (by first | exact l19Ok l hl | exact l19Report l (amB_okN (by assumption))) ?_; simp -dsimp only [go_sem, reduceIte, reduceCtorEq, Nat.reduceEqDiff, Nat.reduceLT, Nat.reduceLeDiff, Nat.reduceAdd, Nat.reduceMul, Nat.reduceSub, Int.reduceToNat, Int.reduceNeg, cR])
    | (refine And.intro (by first | rfl | omega | decide | (refine ⟨?_, ?_⟩ <;> (first | rfl | omega | decide)) | (refine ⟨?_, ?_, ?_⟩ <;> (first | rfl | omega | decide)) | (refine ⟨?_, ?_, ?_, ?_⟩ <;> (first | rfl | omega | decide))) ?_))
  all_goals (simp_all [repR, repC, cR])

theorem impl_ReportOf (l : List Int) (hl : l.length ≤ 1048576) : Vs.Fn Tryd.prog F.impl_ReportOf [] [.sl 1 (E cI l)] (.tup [.agg (cR (repR l)), .v (.int .i64 (repC l))]) [] := by
  refine Cd.impl_ReportOf_ok.fn0 Tryd.mixed Cd.impl_ReportOf_nt Cd.impl_ReportOf_rs rfl fun X => ?_
  unfold Cd.impl_ReportOf
  simp -dsimp only [go_sem, reduceIte, reduceCtorEq, Nat.reduceEqDiff, Nat.reduceLT, Nat.reduceLeDiff, Nat.reduceAdd, Nat.reduceMul, Nat.reduceSub, Int.reduceToNat, Int.reduceNeg, cR]
  repeat' (first
    | (refine RgK.mk rfl ?_; simp -dsimp only [go_sem, reduceIte, reduceCtorEq, Nat.reduceEqDiff, Nat.reduceLT, Nat.reduceLeDiff, Nat.reduceAdd, Nat.reduceMul, Nat.reduceSub, Int.reduceToNat, Int.reduceNeg, cR])
    | (refine Br.mk (fun h => ?_) (fun h => ?_) <;> simp -dsimp only [go_sem, reduceIte, reduceCtorEq, Nat.reduceEqDiff, Nat.reduceLT, Nat.reduceLeDiff, Nat.reduceAdd, Nat.reduceMul, Nat.reduceSub, Int.reduceToNat, Int.reduceNeg, h, cR])
    | (refine CallK.flat (by first | exact validAmounts l hl | exact reportOf l (amB_okN (by assumption))) rfl ?_; simp -dsimp only [go_sem, reduceIte, reduceCtorEq, Nat.reduceEqDiff, Nat.reduceLT, Nat.reduceLeDiff, Nat.reduceAdd, Nat.reduceMul, Nat.reduceSub, Int.reduceToNat, Int.reduceNeg, cR])
    | (refine CallK.pure (by first | exact validAmounts l hl | exact reportOf l (amB_okN (by assumption))) ?_; simp -dsimp only [go_sem, reduceIte, reduceCtorEq, Nat.reduceEqDiff, Nat.reduceLT, Nat.reduceLeDiff, Nat.reduceAdd, Nat.reduceMul, Nat.reduceSub, Int.reduceToNat, Int.reduceNeg, cR])
    | (refine And.intro (by first | rfl | omega | decide | (refine ⟨?_, ?_⟩ <;> (first | rfl | omega | decide)) | (refine ⟨?_, ?_, ?_⟩ <;> (first | rfl | omega | decide)) | (refine ⟨?_, ?_, ?_, ?_⟩ <;> (first | rfl | omega | decide))) ?_))
  all_goals (simp_all [repR, repC, cR])

theorem l19Small (a : Rp) : Vs.Fn Tryd.prog F.spec_l19Small [] [.agg (cR a)] (.v (.bool (okR a))) [] := by
  refine Cd.spec_l19Small_ok.fn0 Tryd.mixed Cd.spec_l19Small_nt Cd.spec_l19Small_rs rfl fun X => ?_
  unfold Cd.spec_l19Small
  simp -dsimp only [go_sem, reduceIte, reduceCtorEq, Nat.reduceEqDiff, Nat.reduceLT, Nat.reduceLeDiff, Nat.reduceAdd, Nat.reduceMul, Nat.reduceSub, Int.reduceToNat, Int.reduceNeg, cR]
  repeat' (first
    | (refine RgK.mk rfl ?_; simp -dsimp only [go_sem, reduceIte, reduceCtorEq, Nat.reduceEqDiff, Nat.reduceLT, Nat.reduceLeDiff, Nat.reduceAdd, Nat.reduceMul, Nat.reduceSub, Int.reduceToNat, Int.reduceNeg, cR])
    | (refine Br.mk (fun h => ?_) (fun h => ?_) <;> simp -dsimp only [go_sem, reduceIte, reduceCtorEq, Nat.reduceEqDiff, Nat.reduceLT, Nat.reduceLeDiff, Nat.reduceAdd, Nat.reduceMul, Nat.reduceSub, Int.reduceToNat, Int.reduceNeg, h, cR])
    | (refine CallK.flat (by first | exact l00In _ _ _) rfl ?_; simp -dsimp only [go_sem, reduceIte, reduceCtorEq, Nat.reduceEqDiff, Nat.reduceLT, Nat.reduceLeDiff, Nat.reduceAdd, Nat.reduceMul, Nat.reduceSub, Int.reduceToNat, Int.reduceNeg, cR])
    | (refine CallK.pure (by first | exact l00In _ _ _) ?_; simp -dsimp only [go_sem, reduceIte, reduceCtorEq, Nat.reduceEqDiff, Nat.reduceLT, Nat.reduceLeDiff, Nat.reduceAdd, Nat.reduceMul, Nat.reduceSub, Int.reduceToNat, Int.reduceNeg, cR])
    | (refine And.intro (by first | rfl | omega | decide | (refine ⟨?_, ?_⟩ <;> (first | rfl | omega | decide)) | (refine ⟨?_, ?_, ?_⟩ <;> (first | rfl | omega | decide)) | (refine ⟨?_, ?_, ?_, ?_⟩ <;> (first | rfl | omega | decide))) ?_))
  all_goals (simp_all [okR])

theorem isReport (a : Rp) : Vs.Fn Tryd.prog F.impl_isReport [] [.agg (cR a)] (.v (.bool (okR a))) [] := by
  refine Cd.impl_isReport_ok.fn0 Tryd.mixed Cd.impl_isReport_nt Cd.impl_isReport_rs rfl fun X => ?_
  unfold Cd.impl_isReport
  simp -dsimp only [go_sem, reduceIte, reduceCtorEq, Nat.reduceEqDiff, Nat.reduceLT, Nat.reduceLeDiff, Nat.reduceAdd, Nat.reduceMul, Nat.reduceSub, Int.reduceToNat, Int.reduceNeg, cR]
  repeat' (first
    | (refine RgK.mk rfl ?_; simp -dsimp only [go_sem, reduceIte, reduceCtorEq, Nat.reduceEqDiff, Nat.reduceLT, Nat.reduceLeDiff, Nat.reduceAdd, Nat.reduceMul, Nat.reduceSub, Int.reduceToNat, Int.reduceNeg, cR])
    | (refine Br.mk (fun h => ?_) (fun h => ?_) <;> simp -dsimp only [go_sem, reduceIte, reduceCtorEq, Nat.reduceEqDiff, Nat.reduceLT, Nat.reduceLeDiff, Nat.reduceAdd, Nat.reduceMul, Nat.reduceSub, Int.reduceToNat, Int.reduceNeg, h, cR])
    | (refine CallK.flat (by first | exact inside _ _ _) rfl ?_; simp -dsimp only [go_sem, reduceIte, reduceCtorEq, Nat.reduceEqDiff, Nat.reduceLT, Nat.reduceLeDiff, Nat.reduceAdd, Nat.reduceMul, Nat.reduceSub, Int.reduceToNat, Int.reduceNeg, cR])
    | (refine CallK.pure (by first | exact inside _ _ _) ?_; simp -dsimp only [go_sem, reduceIte, reduceCtorEq, Nat.reduceEqDiff, Nat.reduceLT, Nat.reduceLeDiff, Nat.reduceAdd, Nat.reduceMul, Nat.reduceSub, Int.reduceToNat, Int.reduceNeg, cR])
    | (refine And.intro (by first | rfl | omega | decide | (refine ⟨?_, ?_⟩ <;> (first | rfl | omega | decide)) | (refine ⟨?_, ?_, ?_⟩ <;> (first | rfl | omega | decide)) | (refine ⟨?_, ?_, ?_, ?_⟩ <;> (first | rfl | omega | decide))) ?_))
  all_goals (simp_all [okR])

theorem l19Less (a b : Rp) : Vs.Fn Tryd.prog F.spec_l19Less [] [.agg (cR a), .agg (cR b)] (.agg (cR (lessR a b))) [] := by
  refine Cd.spec_l19Less_ok.fn0 Tryd.mixed Cd.spec_l19Less_nt Cd.spec_l19Less_rs rfl fun X => ?_
  unfold Cd.spec_l19Less
  simp -dsimp only [go_sem, reduceIte, reduceCtorEq, Nat.reduceEqDiff, Nat.reduceLT, Nat.reduceLeDiff, Nat.reduceAdd, Nat.reduceMul, Nat.reduceSub, Int.reduceToNat, Int.reduceNeg, cR]
  repeat' (first
    | (refine RgK.mk rfl ?_; simp -dsimp only [go_sem, reduceIte, reduceCtorEq, Nat.reduceEqDiff, Nat.reduceLT, Nat.reduceLeDiff, Nat.reduceAdd, Nat.reduceMul, Nat.reduceSub, Int.reduceToNat, Int.reduceNeg, cR])
    | (refine Br.mk (fun h => ?_) (fun h => ?_) <;> simp -dsimp only [go_sem, reduceIte, reduceCtorEq, Nat.reduceEqDiff, Nat.reduceLT, Nat.reduceLeDiff, Nat.reduceAdd, Nat.reduceMul, Nat.reduceSub, Int.reduceToNat, Int.reduceNeg, h, cR])
    | (refine And.intro (by first | rfl | omega | decide | (refine ⟨?_, ?_⟩ <;> (first | rfl | omega | decide)) | (refine ⟨?_, ?_, ?_⟩ <;> (first | rfl | omega | decide)) | (refine ⟨?_, ?_, ?_, ?_⟩ <;> (first | rfl | omega | decide))) ?_))
  all_goals (exact ⟨_, _, rfl, rfl⟩)

theorem lessRep (a b : Rp) : Vs.Fn Tryd.prog F._impl_Report__less [] [.agg (cR a), .agg (cR b)] (.agg (cR (lessR a b))) [] := by
  refine Cd._impl_Report__less_ok.fn0 Tryd.mixed Cd._impl_Report__less_nt Cd._impl_Report__less_rs rfl fun X => ?_
  unfold Cd._impl_Report__less
  simp -dsimp only [go_sem, reduceIte, reduceCtorEq, Nat.reduceEqDiff, Nat.reduceLT, Nat.reduceLeDiff, Nat.reduceAdd, Nat.reduceMul, Nat.reduceSub, Int.reduceToNat, Int.reduceNeg, cR]
  repeat' (first
    | (refine RgK.mk rfl ?_; simp -dsimp only [go_sem, reduceIte, reduceCtorEq, Nat.reduceEqDiff, Nat.reduceLT, Nat.reduceLeDiff, Nat.reduceAdd, Nat.reduceMul, Nat.reduceSub, Int.reduceToNat, Int.reduceNeg, cR])
    | (refine Br.mk (fun h => ?_) (fun h => ?_) <;> simp -dsimp only [go_sem, reduceIte, reduceCtorEq, Nat.reduceEqDiff, Nat.reduceLT, Nat.reduceLeDiff, Nat.reduceAdd, Nat.reduceMul, Nat.reduceSub, Int.reduceToNat, Int.reduceNeg, h, cR])
    | (refine And.intro (by first | rfl | omega | decide | (refine ⟨?_, ?_⟩ <;> (first | rfl | omega | decide)) | (refine ⟨?_, ?_, ?_⟩ <;> (first | rfl | omega | decide)) | (refine ⟨?_, ?_, ?_, ?_⟩ <;> (first | rfl | omega | decide))) ?_))
  all_goals (exact ⟨_, _, rfl, rfl⟩)

theorem spec_MissingBy (l : List Int) (a : Rp) (hl : l.length ≤ 1048576) : Vs.Fn Tryd.prog F.spec_MissingBy [] [.sl 1 (E cI l), .agg (cR a)] (.tup [.agg (cR (misR l a)), .v (.int .i64 (misC l a))]) [] := by
  refine Cd.spec_MissingBy_ok.fn0 Tryd.mixed Cd.spec_MissingBy_nt Cd.spec_MissingBy_rs rfl fun X => ?_
  unfold Cd.spec_MissingBy
  simp -dsimp only [go_sem, reduceIte, reduceCtorEq, Nat.reduceEqDiff, Nat.reduceLT, Nat.reduceLeDiff, Nat.reduceAdd, Nat.reduceMul, Nat.reduceSub, Int.reduceToNat, Int.reduceNeg, cR]
  repeat' (first
    | (refine RgK.mk rfl ?_; simp -dsimp only [go_sem, reduceIte, reduceCtorEq, Nat.reduceEqDiff, Nat.reduceLT, Nat.reduceLeDiff, Nat.reduceAdd, Nat.reduceMul, Nat.reduceSub, Int.reduceToNat, Int.reduceNeg, cR])
    | (refine Br.mk (fun h => ?_) (fun h => ?_) <;> simp -dsimp only [go_sem, reduceIte, reduceCtorEq, Nat.reduceEqDiff, Nat.reduceLT, Nat.reduceLeDiff, Nat.reduceAdd, Nat.reduceMul, Nat.reduceSub, Int.reduceToNat, Int.reduceNeg, h, cR])
    | (refine CallK.flat (by first | exact l19Ok l hl | exact l19Small a | exact l19Report l (amB_okN (by assumption)) | exact l19Less _ _) rfl ?_; simp -dsimp only [go_sem, reduceIte, reduceCtorEq, Nat.reduceEqDiff, Nat.reduceLT, Nat.reduceLeDiff, Nat.reduceAdd, Nat.reduceMul, Nat.reduceSub, Int.reduceToNat, Int.reduceNeg, cR])
    | (refine CallK.pure (by first | exact l19Ok l hl | exact l19Small a | exact l19Report l (amB_okN (by assumption)) | exact l19Less _ _) ?_; simp -dsimp only [go_sem, reduceIte, reduceCtorEq, Nat.reduceEqDiff, Nat.reduceLT, Nat.reduceLeDiff, Nat.reduceAdd, Nat.reduceMul, Nat.reduceSub, Int.reduceToNat, Int.reduceNeg, cR])
    | (refine And.intro (by first | rfl | omega | decide | (refine ⟨?_, ?_⟩ <;> (first | rfl | omega | decide)) | (refine ⟨?_, ?_, ?_⟩ <;> (first | rfl | omega | decide)) | (refine ⟨?_, ?_, ?_, ?_⟩ <;> (first | rfl | omega | decide))) ?_))
  all_goals (simp_all [misR, misC, cR])

theorem impl_MissingBy (l : List Int) (a : Rp) (hl : l.length ≤ 1048576) : Vs.Fn Tryd.prog F.impl_MissingBy [] [.sl 1 (E cI l), .agg (cR a)] (.tup [.agg (cR (misR l a)), .v (.int .i64 (misC l a))]) [] := by
  refine Cd.impl_MissingBy_ok.fn0 Tryd.mixed Cd.impl_MissingBy_nt Cd.impl_MissingBy_rs rfl fun X => ?_
  unfold Cd.impl_MissingBy
  simp -dsimp only [go_sem, reduceIte, reduceCtorEq, Nat.reduceEqDiff, Nat.reduceLT, Nat.reduceLeDiff, Nat.reduceAdd, Nat.reduceMul, Nat.reduceSub, Int.reduceToNat, Int.reduceNeg, cR]
  repeat' (first
    | (refine RgK.mk rfl ?_; simp -dsimp only [go_sem, reduceIte, reduceCtorEq, Nat.reduceEqDiff, Nat.reduceLT, Nat.reduceLeDiff, Nat.reduceAdd, Nat.reduceMul, Nat.reduceSub, Int.reduceToNat, Int.reduceNeg, cR])
    | (refine Br.mk (fun h => ?_) (fun h => ?_) <;> simp -dsimp only [go_sem, reduceIte, reduceCtorEq, Nat.reduceEqDiff, Nat.reduceLT, Nat.reduceLeDiff, Nat.reduceAdd, Nat.reduceMul, Nat.reduceSub, Int.reduceToNat, Int.reduceNeg, h, cR])
    | (refine CallK.flat (by first | exact validAmounts l hl | exact isReport a | exact reportOf l (amB_okN (by assumption)) | exact lessRep _ _) rfl ?_; simp -dsimp only [go_sem, reduceIte, reduceCtorEq, Nat.reduceEqDiff, Nat.reduceLT, Nat.reduceLeDiff, Nat.reduceAdd, Nat.reduceMul, Nat.reduceSub, Int.reduceToNat, Int.reduceNeg, cR])
    | (refine CallK.pure (by first | exact validAmounts l hl | exact isReport a | exact reportOf l (amB_okN (by assumption)) | exact lessRep _ _) ?_; simp -dsimp only [go_sem, reduceIte, reduceCtorEq, Nat.reduceEqDiff, Nat.reduceLT, Nat.reduceLeDiff, Nat.reduceAdd, Nat.reduceMul, Nat.reduceSub, Int.reduceToNat, Int.reduceNeg, cR])
    | (refine And.intro (by first | rfl | omega | decide | (refine ⟨?_, ?_⟩ <;> (first | rfl | omega | decide)) | (refine ⟨?_, ?_, ?_⟩ <;> (first | rfl | omega | decide)) | (refine ⟨?_, ?_, ?_, ?_⟩ <;> (first | rfl | omega | decide))) ?_))
  all_goals (simp_all [misR, misC, cR])

theorem toReport (a : Rp) : Vs.Fn Tryd.prog F.laws_toReport [] [.agg (cR a)] (.agg (cR a)) [] := by
  refine Cd.laws_toReport_ok.fn0 Tryd.mixed Cd.laws_toReport_nt Cd.laws_toReport_rs rfl fun X => ?_
  unfold Cd.laws_toReport
  simp -dsimp only [go_sem, reduceIte, reduceCtorEq, Nat.reduceEqDiff, Nat.reduceLT, Nat.reduceLeDiff, Nat.reduceAdd, Nat.reduceMul, Nat.reduceSub, Int.reduceToNat, Int.reduceNeg, cR]
  repeat' (first
    | (refine RgK.mk rfl ?_; simp -dsimp only [go_sem, reduceIte, reduceCtorEq, Nat.reduceEqDiff, Nat.reduceLT, Nat.reduceLeDiff, Nat.reduceAdd, Nat.reduceMul, Nat.reduceSub, Int.reduceToNat, Int.reduceNeg, cR])
    | (refine Br.mk (fun h => ?_) (fun h => ?_) <;> simp -dsimp only [go_sem, reduceIte, reduceCtorEq, Nat.reduceEqDiff, Nat.reduceLT, Nat.reduceLeDiff, Nat.reduceAdd, Nat.reduceMul, Nat.reduceSub, Int.reduceToNat, Int.reduceNeg, h, cR])
    | (refine And.intro (by first | rfl | omega | decide | (refine ⟨?_, ?_⟩ <;> (first | rfl | omega | decide)) | (refine ⟨?_, ?_, ?_⟩ <;> (first | rfl | omega | decide)) | (refine ⟨?_, ?_, ?_, ?_⟩ <;> (first | rfl | omega | decide))) ?_))
  all_goals (exact ⟨_, _, rfl, rfl⟩)

theorem eqReport (a : Rp) : Vs.Fn Tryd.prog F.laws_eqReport [] [.agg (cR a), .agg (cR a)] (.v (.bool true)) [] := by
  refine Cd.laws_eqReport_ok.fn0 Tryd.mixed Cd.laws_eqReport_nt Cd.laws_eqReport_rs rfl fun X => ?_
  unfold Cd.laws_eqReport
  simp -dsimp only [go_sem, reduceIte, reduceCtorEq, Nat.reduceEqDiff, Nat.reduceLT, Nat.reduceLeDiff, Nat.reduceAdd, Nat.reduceMul, Nat.reduceSub, Int.reduceToNat, Int.reduceNeg, cR]
  repeat' (first
    | (refine RgK.mk rfl ?_; simp -dsimp only [go_sem, reduceIte, reduceCtorEq, Nat.reduceEqDiff, Nat.reduceLT, Nat.reduceLeDiff, Nat.reduceAdd, Nat.reduceMul, Nat.reduceSub, Int.reduceToNat, Int.reduceNeg, cR])
    | (refine Br.mk (fun h => ?_) (fun h => ?_) <;> simp -dsimp only [go_sem, reduceIte, reduceCtorEq, Nat.reduceEqDiff, Nat.reduceLT, Nat.reduceLeDiff, Nat.reduceAdd, Nat.reduceMul, Nat.reduceSub, Int.reduceToNat, Int.reduceNeg, h, cR])
    | (refine And.intro (by first | rfl | omega | decide | (refine ⟨?_, ?_⟩ <;> (first | rfl | omega | decide)) | (refine ⟨?_, ?_, ?_⟩ <;> (first | rfl | omega | decide)) | (refine ⟨?_, ?_, ?_, ?_⟩ <;> (first | rfl | omega | decide))) ?_))
  all_goals (simp_all)

theorem law_ReportOf (l : List Int) (hl : l.length < 2 ^ 63) : Vs.Fn Tryd.prog F.laws_FnExactReportOf [] [.sl 1 (E cI l)] (.v (.bool true)) [] := by
  refine Cd.laws_FnExactReportOf_ok.fn0 Tryd.mixed Cd.laws_FnExactReportOf_nt Cd.laws_FnExactReportOf_rs rfl fun X => ?_
  unfold Cd.laws_FnExactReportOf
  simp -dsimp only [go_sem, reduceIte, reduceCtorEq, Nat.reduceEqDiff, Nat.reduceLT, Nat.reduceLeDiff, Nat.reduceAdd, Nat.reduceMul, Nat.reduceSub, Int.reduceToNat, Int.reduceNeg, cR]
  refine Br.mk (fun h1 => by simp -dsimp only [go_sem, reduceIte, reduceCtorEq, Nat.reduceEqDiff, Nat.reduceLT, Nat.reduceLeDiff, Nat.reduceAdd, Nat.reduceMul, Nat.reduceSub, Int.reduceToNat, Int.reduceNeg]; simp) (fun h1 => ?_)
  have hl1 : l.length ≤ 1048576 := by simp at h1; omega
  simp -dsimp only [go_sem, reduceIte, reduceCtorEq, Nat.reduceEqDiff, Nat.reduceLT, Nat.reduceLeDiff, Nat.reduceAdd, Nat.reduceMul, Nat.reduceSub, Int.reduceToNat, Int.reduceNeg]
  repeat' (first
    | (refine RgK.mk rfl ?_; simp -dsimp only [go_sem, reduceIte, reduceCtorEq, Nat.reduceEqDiff, Nat.reduceLT, Nat.reduceLeDiff, Nat.reduceAdd, Nat.reduceMul, Nat.reduceSub, Int.reduceToNat, Int.reduceNeg, cR])
    | (refine Br.mk (fun h => ?_) (fun h => ?_) <;> simp -dsimp only [go_sem, reduceIte, reduceCtorEq, Nat.reduceEqDiff, Nat.reduceLT, Nat.reduceLeDiff, Nat.reduceAdd, Nat.reduceMul, Nat.reduceSub, Int.reduceToNat, Int.reduceNeg, h, cR])
    | (refine CallK.flat (by first | exact toInt64S hl1 | exact spec_ReportOf l hl1 | exact impl_ReportOf l hl1 | exact eqReport (repR l) | exact eqInt64S hl1) rfl ?_; simp -dsimp only [go_sem, reduceIte, reduceCtorEq, Nat.reduceEqDiff, Nat.reduceLT, Nat.reduceLeDiff, Nat.reduceAdd, Nat.reduceMul, Nat.reduceSub, Int.reduceToNat, Int.reduceNeg, cR])
    | (refine CallK.pure (by first | exact toInt64S hl1 | exact spec_ReportOf l hl1 | exact impl_ReportOf l hl1 | exact eqReport (repR l) | exact eqInt64S hl1) ?_; simp -dsimp only [go_sem, reduceIte, reduceCtorEq, Nat.reduceEqDiff, Nat.reduceLT, Nat.reduceLeDiff, Nat.reduceAdd, Nat.reduceMul, Nat.reduceSub, Int.reduceToNat, Int.reduceNeg, cR])
    | (refine And.intro (by first | rfl | omega | decide | (refine ⟨?_, ?_⟩ <;> (first | rfl | omega | decide)) | (refine ⟨?_, ?_, ?_⟩ <;> (first | rfl | omega | decide)) | (refine ⟨?_, ?_, ?_, ?_⟩ <;> (first | rfl | omega | decide))) ?_))
  all_goals simp_all

theorem law_MissingBy (l : List Int) (a : Rp) (hl : l.length < 2 ^ 63) : Vs.Fn Tryd.prog F.laws_FnExactMissingBy [] [.sl 1 (E cI l), .agg (cR a)] (.v (.bool true)) [] := by
  refine Cd.laws_FnExactMissingBy_ok.fn0 Tryd.mixed Cd.laws_FnExactMissingBy_nt Cd.laws_FnExactMissingBy_rs rfl fun X => ?_
  unfold Cd.laws_FnExactMissingBy
  simp -dsimp only [go_sem, reduceIte, reduceCtorEq, Nat.reduceEqDiff, Nat.reduceLT, Nat.reduceLeDiff, Nat.reduceAdd, Nat.reduceMul, Nat.reduceSub, Int.reduceToNat, Int.reduceNeg, cR]
  refine Br.mk (fun h1 => by simp -dsimp only [go_sem, reduceIte, reduceCtorEq, Nat.reduceEqDiff, Nat.reduceLT, Nat.reduceLeDiff, Nat.reduceAdd, Nat.reduceMul, Nat.reduceSub, Int.reduceToNat, Int.reduceNeg]; simp) (fun h1 => ?_)
  have hl1 : l.length ≤ 1048576 := by simp at h1; omega
  simp -dsimp only [go_sem, reduceIte, reduceCtorEq, Nat.reduceEqDiff, Nat.reduceLT, Nat.reduceLeDiff, Nat.reduceAdd, Nat.reduceMul, Nat.reduceSub, Int.reduceToNat, Int.reduceNeg]
  repeat' (first
    | (refine RgK.mk rfl ?_; simp -dsimp only [go_sem, reduceIte, reduceCtorEq, Nat.reduceEqDiff, Nat.reduceLT, Nat.reduceLeDiff, Nat.reduceAdd, Nat.reduceMul, Nat.reduceSub, Int.reduceToNat, Int.reduceNeg, cR])
    | (refine Br.mk (fun h => ?_) (fun h => ?_) <;> simp -dsimp only [go_sem, reduceIte, reduceCtorEq, Nat.reduceEqDiff, Nat.reduceLT, Nat.reduceLeDiff, Nat.reduceAdd, Nat.reduceMul, Nat.reduceSub, Int.reduceToNat, Int.reduceNeg, h, cR])
    | (refine CallK.flat (by first | exact toInt64S hl1 | exact toReport a | exact spec_MissingBy l a hl1 | exact impl_MissingBy l a hl1 | exact eqReport (misR l a) | exact eqInt64S hl1) rfl ?_; simp -dsimp only [go_sem, reduceIte, reduceCtorEq, Nat.reduceEqDiff, Nat.reduceLT, Nat.reduceLeDiff, Nat.reduceAdd, Nat.reduceMul, Nat.reduceSub, Int.reduceToNat, Int.reduceNeg, cR])
    | (refine CallK.pure (by first | exact toInt64S hl1 | exact toReport a | exact spec_MissingBy l a hl1 | exact impl_MissingBy l a hl1 | exact eqReport (misR l a) | exact eqInt64S hl1) ?_; simp -dsimp only [go_sem, reduceIte, reduceCtorEq, Nat.reduceEqDiff, Nat.reduceLT, Nat.reduceLeDiff, Nat.reduceAdd, Nat.reduceMul, Nat.reduceSub, Int.reduceToNat, Int.reduceNeg, cR])
    | (refine And.intro (by first | rfl | omega | decide | (refine ⟨?_, ?_⟩ <;> (first | rfl | omega | decide)) | (refine ⟨?_, ?_, ?_⟩ <;> (first | rfl | omega | decide)) | (refine ⟨?_, ?_, ?_, ?_⟩ <;> (first | rfl | omega | decide))) ?_))
  all_goals simp_all


set_option maxRecDepth 100000 in
theorem env_of_laid {W : World} (h0 : laidMetH Tryd.prog Rows.fnExactReportOfRow.laid W) : Env (fun b => b < W.heap.size) W := by
  have h : laidMet Tryd.prog Rows.fnExactReportOfRow.laid W := by
    rw [← MakeChecks.laidMetH_plain _ _ _ (by kernel_rfl)]
    exact h0
  have ht := laidMet.tail (laidMet.tail h)
  have hi := Lib.tabIs_of_head (k := .u64) (zs := Lib.pow10Tab) (g := 0) (t := 137) (e := 129) (n := 20) (by kernel_rfl) (by kernel_rfl) Tryd.underlying137 Tryd.underlying129 (by kernel_rfl) (by kernel_rfl) ht
  intro p hp
  simp only [envs, List.mem_singleton] at hp
  subst hp
  unfold Lib.TabIs World.var? at hi
  have hi2 := (congrArg (fun o => Option.bind o _) (by kernel_rfl : Tryd.prog.globalNamed _ = some 0)).symm.trans hi
  simp only [Option.bind_some] at hi2
  split at hi2
  · rename_i cs T fr hcs
    obtain rfl := Option.some.inj hi2
    refine ⟨?_, T, fr, hcs⟩
    rcases Nat.lt_or_ge 0 W.heap.size with hlt | hge
    · exact hlt
    · rw [Array.getElem?_eq_none hge] at hcs; cases hcs
  · cases hi2

def gRp (p : I64 × I64 × I64) : Rp := ⟨p.1.1, p.2.1.1, p.2.2.1⟩

set_option maxRecDepth 100000 in
theorem reportof_door (os : Os) (args : Array Value) : laidMetH Tryd.prog Rows.fnExactReportOfRow.laid ((World.doorLaid Tryd.prog 24 os).forCall (fun _ _ => 0) ⟨#[], args, []⟩).memory :=
  laidMetH_of_parts3 (fuel := 8) (laidMet_of_run' 8 (by kernel_rfl) (by kernel_rfl)) (by kernel_rfl) (by kernel_rfl)

set_option maxRecDepth 100000 in
theorem reportof_lifted (os : Os) (started : os.Started) (H : Type) (enc : TypeId × Value → H) :
    ReturnsInHanded {} Tryd.checked os F.laws_FnExactReportOf .any (fun w args => (Rows.fnExactReportOfSpec.pre enc Tryd.prog Tryd.f3 Rows.fnExactReportOfRow.domain false w args ∧ laidMetH Tryd.prog Rows.fnExactReportOfRow.laid w) ∧ sizedMet enc Tryd.prog Tryd.f3 (OpenSpec.ofChange Rows.fnExactReportOfSpec) false w args)
      (Rows.fnExactReportOfSpec.post enc Tryd.prog Tryd.f3 false true false false) :=
  law_returns_and (C := Tryd.checked) (X := fun w _ => laidMetH Tryd.prog Rows.fnExactReportOfRow.laid w) (fun _ _ _ hh h => h.of_heap hh) (fun W args h => env_of_laid h) Tryd.own started (by kernel_rfl) Tryd.func3
    (ChangeSpec.witness_shaped (enc := enc) (C := Tryd.checked) (os := os) (X := fun w _ => laidMetH Tryd.prog Rows.fnExactReportOfRow.laid w) false (World.doorLaid Tryd.prog 24 os) #[.slice none 0 0] 8 rfl (World.shaped_of_RefB (by kernel_rfl) (by kernel_rfl)) (by kernel_rfl) (by kernel_rfl) (by kernel_rfl) (reportof_door os _))
    Tryd.laidOut (by kernel_rfl) rfl Tryd.underlying4 rfl (fun ds h => by match ds, h with | [_], _ => exact ⟨rfl, rfl, rfl⟩)
    (Args.cons (Arg.slice Tryd.underlying22 oInts) Args.nil) (fun a => by
      have h := law_ReportOf (a.1.1.map fun n => n.1) (by simpa using a.1.2)
      rw [E_map] at h
      exact h)

theorem reportof_row : Rows.FnExactReportOfSaid :=
  OpenClaim.holds_of_wide 3 Tryd.f3 rfl rfl rfl rfl rfl rfl rfl ⟨rfl, rfl, rfl, rfl, rfl⟩ rfl rfl rfl rfl rfl (by kernel_rfl) Tryd.func3 (by kernel_rfl)
    (of_decide_eq_true (by kernel_rfl)) (by unfold Func.isWrapper; first | (rw [if_pos (by decide +kernel)]; kernel_rfl) | (rw [if_neg (by decide +kernel)]; exact ⟨rfl, rfl⟩))
    (fun os started H enc _ => reportof_lifted os started H enc)

theorem reportof_holds : Rows.FnExactReportOfCardSaid :=
  Claim7.holds_tied_plain_at .later [] [.data, .data, .data] true _ false reportof_row (fun _ h => by cases h) (by kernel_rfl) (fun _ h => by cases h) fnExactReportOf_row_tie rfl ⟨rfl, rfl⟩ (by kernel_rfl) rfl
    (fun f fn hf hfn => by
      obtain rfl : f = 3 := Option.some.inj ((by kernel_rfl : Tryd.prog.funcNamed Rows.fnExactReportOfRow.func = some 3).symm.trans hf) |>.symm
      obtain rfl : fn = Tryd.f3 := (Option.some.inj (Tryd.func3.symm.trans hfn)).symm
      exact ⟨by kernel_rfl, fun j t ht => by
        rw [show Tryd.f3.params = #[22] from rfl] at ht
        have hm : t ∈ [22] := by simpa using Array.mem_of_getElem? ht
        have hall : ([22].all fun u => !Tryd.prog.wantsStandIn u) = true := by kernel_rfl
        exact (show Tryd.prog.wantsStandIn t = false by simpa using List.all_eq_true.1 hall t hm)⟩)
    (by kernel_rfl)
#print axioms reportof_holds

set_option maxRecDepth 100000 in
theorem missingby_door (os : Os) (args : Array Value) : laidMetH Tryd.prog Rows.fnExactMissingByRow.laid ((World.doorLaid Tryd.prog 24 os).forCall (fun _ _ => 0) ⟨#[], args, []⟩).memory :=
  laidMetH_of_parts3 (fuel := 8) (laidMet_of_run' 8 (by kernel_rfl) (by kernel_rfl)) (by kernel_rfl) (by kernel_rfl)

set_option maxRecDepth 100000 in
theorem missingby_lifted (os : Os) (started : os.Started) (H : Type) (enc : TypeId × Value → H) :
    ReturnsInHanded {} Tryd.checked os F.laws_FnExactMissingBy .any (fun w args => (Rows.fnExactMissingBySpec.pre enc Tryd.prog Tryd.f4 Rows.fnExactMissingByRow.domain false w args ∧ laidMetH Tryd.prog Rows.fnExactMissingByRow.laid w) ∧ sizedMet enc Tryd.prog Tryd.f4 (OpenSpec.ofChange Rows.fnExactMissingBySpec) false w args)
      (Rows.fnExactMissingBySpec.post enc Tryd.prog Tryd.f4 false true false false) :=
  law_returns_and (C := Tryd.checked) (X := fun w _ => laidMetH Tryd.prog Rows.fnExactMissingByRow.laid w) (fun _ _ _ hh h => h.of_heap hh) (fun W args h => env_of_laid h) Tryd.own started (by kernel_rfl) Tryd.func4
    (ChangeSpec.witness_shaped (enc := enc) (C := Tryd.checked) (os := os) (X := fun w _ => laidMetH Tryd.prog Rows.fnExactMissingByRow.laid w) false (World.doorLaid Tryd.prog 24 os) #[.slice none 0 0, .agg #[.int .i64 0, .int .i64 0, .int .i64 0]] 8 rfl (World.shaped_of_RefB (by kernel_rfl) (by kernel_rfl)) (by kernel_rfl) (by kernel_rfl) (by kernel_rfl) (missingby_door os _))
    Tryd.laidOut (by kernel_rfl) rfl Tryd.underlying4 rfl (fun ds h => by match ds, h with | [_, _], _ => exact ⟨rfl, rfl, rfl⟩)
    (Args.cons (Arg.slice Tryd.underlying22 oInts) (Args.cons (Arg.struct Tryd.underlying31 oReport) Args.nil)) (fun a => by
      have h := law_MissingBy (a.1.1.map fun n => n.1) (gRp a.2.1) (by simpa using a.1.2)
      rw [E_map] at h
      exact h)

theorem missingby_row : Rows.FnExactMissingBySaid :=
  OpenClaim.holds_of_wide 4 Tryd.f4 rfl rfl rfl rfl rfl rfl rfl ⟨rfl, rfl, rfl, rfl, rfl⟩ rfl rfl rfl rfl rfl (by kernel_rfl) Tryd.func4 (by kernel_rfl)
    (of_decide_eq_true (by kernel_rfl)) (by unfold Func.isWrapper; first | (rw [if_pos (by decide +kernel)]; kernel_rfl) | (rw [if_neg (by decide +kernel)]; exact ⟨rfl, rfl⟩))
    (fun os started H enc _ => missingby_lifted os started H enc)

theorem missingby_holds : Rows.FnExactMissingByCardSaid :=
  Claim7.holds_tied_plain_at .later [] [.data, .data, .data] true _ false missingby_row (fun _ h => by cases h) (by kernel_rfl) (fun _ h => by cases h) fnExactMissingBy_row_tie rfl ⟨rfl, rfl⟩ (by kernel_rfl) rfl
    (fun f fn hf hfn => by
      obtain rfl : f = 4 := Option.some.inj ((by kernel_rfl : Tryd.prog.funcNamed Rows.fnExactMissingByRow.func = some 4).symm.trans hf) |>.symm
      obtain rfl : fn = Tryd.f4 := (Option.some.inj (Tryd.func4.symm.trans hfn)).symm
      exact ⟨by kernel_rfl, fun j t ht => by
        rw [show Tryd.f4.params = #[22, 31] from rfl] at ht
        have hm : t ∈ [22, 31] := by simpa using Array.mem_of_getElem? ht
        have hall : ([22, 31].all fun u => !Tryd.prog.wantsStandIn u) = true := by kernel_rfl
        exact (show Tryd.prog.wantsStandIn t = false by simpa using List.all_eq_true.1 hall t hm)⟩)
    (by kernel_rfl)
#print axioms missingby_holds
end Go.Proofs.YtclfhgcngodljaaDoor
