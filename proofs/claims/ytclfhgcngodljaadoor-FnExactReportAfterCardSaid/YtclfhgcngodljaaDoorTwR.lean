/- The law FnExactReportAfter returns true for every input, and its arguments read behind the call as they read before. Conditions: the table of the powers of ten, which the library's text lays and the card ties. -/
import Derived.Test.YtclfhgcngodljaaDoorTuO
import Derived.Test.YtclfhgcngodljaaDoorDtQ
import Derived.Test.YtclfhgcngodljaaDoorTwH
import Derived.Test.YtclfhgcngodljaaDoorCards
import Derived.Test.YtclfhgcngodljaaDoorTie
import Derived.SevenTiedAt
namespace Go.Proofs.YtclfhgcngodljaaDoor
open Go.Vs Go.ChangeShapes Go.WideShapes Go.ChangeAt Go.RowKit
set_option linter.unusedSimpArgs false
set_option linter.unusedVariables false
attribute [local irreducible] Vs.Fn

theorem aftN_in {l : List Int} {fs : List Flt} (hA : arB l fs = true) (i : Nat) {n : Int} (h0 : 0 ≤ n) (h1 : n ≤ 9999) : ∀ x, x ∈ aftN fs i n → 0 ≤ x ∧ x ≤ 9999 := by
  intro x hx
  unfold aftN at hx
  split at hx
  · simp at hx; omega
  · rename_i j hj
    obtain ⟨hjl, _, _⟩ := List.findIdx?_eq_some_iff_getElem.1 hj
    have hflt := ((arSpec hA).2 j hjl).1
    have hisF : isF (fs.getD j default) = true := by simp only [fltB, Bool.and_eq_true] at hflt; exact hflt.1
    unfold aftE at hx
    split at hx
    · simp at hx; omega
    · split at hx
      · rename_i h3
        obtain ⟨q, hq, hq4⟩ := isF_digit hisF h3
        have := (rd_eq h0 h1 hq hq4 (isF_dig hisF h3)).1
        simp at hx; subst hx; exact this
      · cases hx
theorem aft_okA {l : List Int} {fs : List Flt} (hl : amB l = true) (hA : arB l fs = true) : okA (aft l fs l.length) := by
  obtain ⟨h12, hr⟩ := amB_spec hl
  refine ⟨by have := aft_len l fs l.length (Nat.le_refl _); omega, fun x hx => ?_⟩
  simp only [aft, List.mem_flatMap, List.mem_range] at hx
  obtain ⟨i, hi, hx⟩ := hx
  rw [getD_lt hi] at hx
  obtain ⟨n0, n1⟩ := hr l[i] (List.getElem_mem hi)
  exact aftN_in hA i n0 n1 x hx
def faC (l : List Int) (fs : List Flt) : Int := if amB l then (if arB l fs then 0 else 2) else 1
def raR (l : List Int) (fs : List Flt) : Rp := if faC l fs = 0 then repB (aft l fs l.length) else ⟨0, 0, 0⟩
theorem faC_zero {l : List Int} {fs : List Flt} (h : faC l fs = 0) : amB l = true ∧ arB l fs = true := by
  unfold faC at h
  split at h
  · split at h
    · exact ⟨by assumption, by assumption⟩
    · cases h
  · cases h
theorem notF {b : Bool} (h : (!b) = false) : b = true := by simpa using h
theorem l19Code (l : List Int) (fs : List Flt) (hl : l.length ≤ 1048576) (hfs : fs.length ≤ 1048576) : Vs.Fn Tryd.prog F.spec_l19Code [] [.sl 1 (E cI l), .sl 4 (E cF fs)] (.v (.int .i64 (faC l fs))) [] := by
  refine Cd.spec_l19Code_ok.fn0 Tryd.mixed Cd.spec_l19Code_nt Cd.spec_l19Code_rs rfl fun X => ?_
  unfold Cd.spec_l19Code
  simp -dsimp only [go_sem, reduceIte, reduceCtorEq, Nat.reduceEqDiff, Nat.reduceLT, Nat.reduceLeDiff, Nat.reduceAdd, Nat.reduceMul, Nat.reduceSub, Int.reduceToNat, Int.reduceNeg]
  repeat' (first
    | (refine RgK.mk rfl ?_; simp -dsimp only [go_sem, reduceIte, reduceCtorEq, Nat.reduceEqDiff, Nat.reduceLT, Nat.reduceLeDiff, Nat.reduceAdd, Nat.reduceMul, Nat.reduceSub, Int.reduceToNat, Int.reduceNeg])
    | (refine Br.mk (fun h => ?_) (fun h => ?_) <;> simp -dsimp only [go_sem, reduceIte, reduceCtorEq, Nat.reduceEqDiff, Nat.reduceLT, Nat.reduceLeDiff, Nat.reduceAdd, Nat.reduceMul, Nat.reduceSub, Int.reduceToNat, Int.reduceNeg, h])
    | (refine CallK.flat (by first | exact l19Ok l hl | exact l19Faults l fs (notF (by assumption)) hfs) rfl ?_; simp -dsimp only [go_sem, reduceIte, reduceCtorEq, Nat.reduceEqDiff, Nat.reduceLT, Nat.reduceLeDiff, Nat.reduceAdd, Nat.reduceMul, Nat.reduceSub, Int.reduceToNat, Int.reduceNeg])
    | (refine CallK.pure (by first | exact l19Ok l hl | exact l19Faults l fs (notF (by assumption)) hfs) ?_; simp -dsimp only [go_sem, reduceIte, reduceCtorEq, Nat.reduceEqDiff, Nat.reduceLT, Nat.reduceLeDiff, Nat.reduceAdd, Nat.reduceMul, Nat.reduceSub, Int.reduceToNat, Int.reduceNeg])
    | (refine And.intro (by first | rfl | omega | decide | (refine ⟨?_, ?_⟩ <;> (first | rfl | omega | decide)) | (refine ⟨?_, ?_, ?_⟩ <;> (first | rfl | omega | decide)) | (refine ⟨?_, ?_, ?_, ?_⟩ <;> (first | rfl | omega | decide))) ?_)
    | fail)
  all_goals (simp_all [faC])

theorem faultCode (l : List Int) (fs : List Flt) (hl : l.length ≤ 1048576) (hfs : fs.length ≤ 1048576) : Vs.Fn Tryd.prog F.impl_faultCode [] [.sl 1 (E cI l), .sl 4 (E cF fs)] (.v (.int .i64 (faC l fs))) [] := by
  refine Cd.impl_faultCode_ok.fn0 Tryd.mixed Cd.impl_faultCode_nt Cd.impl_faultCode_rs rfl fun X => ?_
  unfold Cd.impl_faultCode
  simp -dsimp only [go_sem, reduceIte, reduceCtorEq, Nat.reduceEqDiff, Nat.reduceLT, Nat.reduceLeDiff, Nat.reduceAdd, Nat.reduceMul, Nat.reduceSub, Int.reduceToNat, Int.reduceNeg]
  repeat' (first
    | (refine RgK.mk rfl ?_; simp -dsimp only [go_sem, reduceIte, reduceCtorEq, Nat.reduceEqDiff, Nat.reduceLT, Nat.reduceLeDiff, Nat.reduceAdd, Nat.reduceMul, Nat.reduceSub, Int.reduceToNat, Int.reduceNeg])
    | (refine Br.mk (fun h => ?_) (fun h => ?_) <;> simp -dsimp only [go_sem, reduceIte, reduceCtorEq, Nat.reduceEqDiff, Nat.reduceLT, Nat.reduceLeDiff, Nat.reduceAdd, Nat.reduceMul, Nat.reduceSub, Int.reduceToNat, Int.reduceNeg, h])
    | (refine CallK.flat (by first | exact validAmounts l hl | exact areFaults l fs (notF (by assumption)) hfs) rfl ?_; simp -dsimp only [go_sem, reduceIte, reduceCtorEq, Nat.reduceEqDiff, Nat.reduceLT, Nat.reduceLeDiff, Nat.reduceAdd, Nat.reduceMul, Nat.reduceSub, Int.reduceToNat, Int.reduceNeg])
    | (refine CallK.pure (by first | exact validAmounts l hl | exact areFaults l fs (notF (by assumption)) hfs) ?_; simp -dsimp only [go_sem, reduceIte, reduceCtorEq, Nat.reduceEqDiff, Nat.reduceLT, Nat.reduceLeDiff, Nat.reduceAdd, Nat.reduceMul, Nat.reduceSub, Int.reduceToNat, Int.reduceNeg])
    | (refine And.intro (by first | rfl | omega | decide | (refine ⟨?_, ?_⟩ <;> (first | rfl | omega | decide)) | (refine ⟨?_, ?_, ?_⟩ <;> (first | rfl | omega | decide)) | (refine ⟨?_, ?_, ?_, ?_⟩ <;> (first | rfl | omega | decide))) ?_)
    | fail)
  all_goals (simp_all [faC])

theorem spec_ReportAfter (l : List Int) (fs : List Flt) (hl : l.length ≤ 1048576) (hfs : fs.length ≤ 1048576) : Vs.Fn Tryd.prog F.spec_ReportAfter [] [.sl 1 (E cI l), .sl 4 (E cF fs)] (.tup [.agg (cR (raR l fs)), .v (.int .i64 (faC l fs))]) [] := by
  refine Cd.spec_ReportAfter_ok.fn0 Tryd.mixed Cd.spec_ReportAfter_nt Cd.spec_ReportAfter_rs rfl fun X => ?_
  unfold Cd.spec_ReportAfter
  simp -dsimp only [go_sem, reduceIte, reduceCtorEq, Nat.reduceEqDiff, Nat.reduceLT, Nat.reduceLeDiff, Nat.reduceAdd, Nat.reduceMul, Nat.reduceSub, Int.reduceToNat, Int.reduceNeg, cR]
  refine CallK.flat (l19Code l fs hl hfs) rfl ?_
  by_cases h0 : faC l fs = 0
  · have e0 : (faC l fs != 0) = false := by simp [h0]
    obtain ⟨ha, hb⟩ := faC_zero h0
    have hok := aft_okA ha hb
    have hR : raR l fs = repB (aft l fs l.length) := by simp [raR, h0]
    rw [hR]
    simp -dsimp only [go_sem, reduceIte, reduceCtorEq, Nat.reduceEqDiff, Nat.reduceLT, Nat.reduceLeDiff, Nat.reduceAdd, Nat.reduceMul, Nat.reduceSub, Int.reduceToNat, Int.reduceNeg, e0, cR]
    repeat' (first
      | (refine RgK.mk rfl ?_; simp -dsimp only [go_sem, reduceIte, reduceCtorEq, Nat.reduceEqDiff, Nat.reduceLT, Nat.reduceLeDiff, Nat.reduceAdd, Nat.reduceMul, Nat.reduceSub, Int.reduceToNat, Int.reduceNeg, e0, cR])
      | (refine Br.mk (fun h => ?_) (fun h => ?_) <;> simp -dsimp only [go_sem, reduceIte, reduceCtorEq, Nat.reduceEqDiff, Nat.reduceLT, Nat.reduceLeDiff, Nat.reduceAdd, Nat.reduceMul, Nat.reduceSub, Int.reduceToNat, Int.reduceNeg, h, e0, cR])
      | (refine CallK.flat (by first | exact l19After l fs ha hb | exact l19Report _ hok) rfl ?_; simp -dsimp only [go_sem, reduceIte, reduceCtorEq, Nat.reduceEqDiff, Nat.reduceLT, Nat.reduceLeDiff, Nat.reduceAdd, Nat.reduceMul, Nat.reduceSub, Int.reduceToNat, Int.reduceNeg, e0, cR])
      | (refine CallK.pure (by first | exact l19After l fs ha hb | exact l19Report _ hok) ?_; simp -dsimp only [go_sem, reduceIte, reduceCtorEq, Nat.reduceEqDiff, Nat.reduceLT, Nat.reduceLeDiff, Nat.reduceAdd, Nat.reduceMul, Nat.reduceSub, Int.reduceToNat, Int.reduceNeg, e0, cR])
      | (refine And.intro (by first | rfl | omega | decide | (refine ⟨?_, ?_⟩ <;> (first | rfl | omega | decide)) | (refine ⟨?_, ?_, ?_⟩ <;> (first | rfl | omega | decide)) | (refine ⟨?_, ?_, ?_, ?_⟩ <;> (first | rfl | omega | decide))) ?_)
      | fail)

    all_goals simp [cR, h0]
  · have e0 : (faC l fs != 0) = true := by simp [h0]
    have hR : raR l fs = ⟨0, 0, 0⟩ := by simp [raR, h0]
    rw [hR]
    simp -dsimp only [go_sem, reduceIte, reduceCtorEq, Nat.reduceEqDiff, Nat.reduceLT, Nat.reduceLeDiff, Nat.reduceAdd, Nat.reduceMul, Nat.reduceSub, Int.reduceToNat, Int.reduceNeg, e0, cR]
    repeat' (first
      | (refine RgK.mk rfl ?_; simp -dsimp only [go_sem, reduceIte, reduceCtorEq, Nat.reduceEqDiff, Nat.reduceLT, Nat.reduceLeDiff, Nat.reduceAdd, Nat.reduceMul, Nat.reduceSub, Int.reduceToNat, Int.reduceNeg, e0, cR])
      | (refine Br.mk (fun h => ?_) (fun h => ?_) <;> simp -dsimp only [go_sem, reduceIte, reduceCtorEq, Nat.reduceEqDiff, Nat.reduceLT, Nat.reduceLeDiff, Nat.reduceAdd, Nat.reduceMul, Nat.reduceSub, Int.reduceToNat, Int.reduceNeg, h, e0, cR])
      | (refine And.intro (by first | rfl | omega | decide | (refine ⟨?_, ?_⟩ <;> (first | rfl | omega | decide)) | (refine ⟨?_, ?_, ?_⟩ <;> (first | rfl | omega | decide)) | (refine ⟨?_, ?_, ?_, ?_⟩ <;> (first | rfl | omega | decide))) ?_)
      | fail)

    all_goals simp [cR]

theorem impl_ReportAfter (l : List Int) (fs : List Flt) (hl : l.length ≤ 1048576) (hfs : fs.length ≤ 1048576) : Vs.Fn Tryd.prog F.impl_ReportAfter [] [.sl 1 (E cI l), .sl 4 (E cF fs)] (.tup [.agg (cR (raR l fs)), .v (.int .i64 (faC l fs))]) [] := by
  refine Cd.impl_ReportAfter_ok.fn0 Tryd.mixed Cd.impl_ReportAfter_nt Cd.impl_ReportAfter_rs rfl fun X => ?_
  unfold Cd.impl_ReportAfter
  simp -dsimp only [go_sem, reduceIte, reduceCtorEq, Nat.reduceEqDiff, Nat.reduceLT, Nat.reduceLeDiff, Nat.reduceAdd, Nat.reduceMul, Nat.reduceSub, Int.reduceToNat, Int.reduceNeg, cR]
  refine CallK.flat (faultCode l fs hl hfs) rfl ?_
  by_cases h0 : faC l fs = 0
  · have e0 : (faC l fs != 0) = false := by simp [h0]
    obtain ⟨ha, hb⟩ := faC_zero h0
    have hok := aft_okA ha hb
    have hR : raR l fs = repB (aft l fs l.length) := by simp [raR, h0]
    rw [hR]
    simp -dsimp only [go_sem, reduceIte, reduceCtorEq, Nat.reduceEqDiff, Nat.reduceLT, Nat.reduceLeDiff, Nat.reduceAdd, Nat.reduceMul, Nat.reduceSub, Int.reduceToNat, Int.reduceNeg, e0, cR]
    repeat' (first
      | (refine RgK.mk rfl ?_; simp -dsimp only [go_sem, reduceIte, reduceCtorEq, Nat.reduceEqDiff, Nat.reduceLT, Nat.reduceLeDiff, Nat.reduceAdd, Nat.reduceMul, Nat.reduceSub, Int.reduceToNat, Int.reduceNeg, e0, cR])
      | (refine Br.mk (fun h => ?_) (fun h => ?_) <;> simp -dsimp only [go_sem, reduceIte, reduceCtorEq, Nat.reduceEqDiff, Nat.reduceLT, Nat.reduceLeDiff, Nat.reduceAdd, Nat.reduceMul, Nat.reduceSub, Int.reduceToNat, Int.reduceNeg, h, e0, cR])
      | (refine CallK.flat (by first | exact amountsAfter l fs ha hb | exact reportOf _ hok) rfl ?_; simp -dsimp only [go_sem, reduceIte, reduceCtorEq, Nat.reduceEqDiff, Nat.reduceLT, Nat.reduceLeDiff, Nat.reduceAdd, Nat.reduceMul, Nat.reduceSub, Int.reduceToNat, Int.reduceNeg, e0, cR])
      | (refine CallK.pure (by first | exact amountsAfter l fs ha hb | exact reportOf _ hok) ?_; simp -dsimp only [go_sem, reduceIte, reduceCtorEq, Nat.reduceEqDiff, Nat.reduceLT, Nat.reduceLeDiff, Nat.reduceAdd, Nat.reduceMul, Nat.reduceSub, Int.reduceToNat, Int.reduceNeg, e0, cR])
      | (refine And.intro (by first | rfl | omega | decide | (refine ⟨?_, ?_⟩ <;> (first | rfl | omega | decide)) | (refine ⟨?_, ?_, ?_⟩ <;> (first | rfl | omega | decide)) | (refine ⟨?_, ?_, ?_, ?_⟩ <;> (first | rfl | omega | decide))) ?_)
      | fail)

    all_goals simp [cR, h0]
  · have e0 : (faC l fs != 0) = true := by simp [h0]
    have hR : raR l fs = ⟨0, 0, 0⟩ := by simp [raR, h0]
    rw [hR]
    simp -dsimp only [go_sem, reduceIte, reduceCtorEq, Nat.reduceEqDiff, Nat.reduceLT, Nat.reduceLeDiff, Nat.reduceAdd, Nat.reduceMul, Nat.reduceSub, Int.reduceToNat, Int.reduceNeg, e0, cR]
    repeat' (first
      | (refine RgK.mk rfl ?_; simp -dsimp only [go_sem, reduceIte, reduceCtorEq, Nat.reduceEqDiff, Nat.reduceLT, Nat.reduceLeDiff, Nat.reduceAdd, Nat.reduceMul, Nat.reduceSub, Int.reduceToNat, Int.reduceNeg, e0, cR])
      | (refine Br.mk (fun h => ?_) (fun h => ?_) <;> simp -dsimp only [go_sem, reduceIte, reduceCtorEq, Nat.reduceEqDiff, Nat.reduceLT, Nat.reduceLeDiff, Nat.reduceAdd, Nat.reduceMul, Nat.reduceSub, Int.reduceToNat, Int.reduceNeg, h, e0, cR])
      | (refine And.intro (by first | rfl | omega | decide | (refine ⟨?_, ?_⟩ <;> (first | rfl | omega | decide)) | (refine ⟨?_, ?_, ?_⟩ <;> (first | rfl | omega | decide)) | (refine ⟨?_, ?_, ?_, ?_⟩ <;> (first | rfl | omega | decide))) ?_)
      | fail)

    all_goals simp [cR]

theorem law_ReportAfter (l : List Int) (fs : List Flt) (hl : l.length < 2 ^ 63) (hfs : fs.length < 2 ^ 63) : Vs.Fn Tryd.prog F.laws_FnExactReportAfter [] [.sl 1 (E cI l), .sl 4 (E cF fs)] (.v (.bool true)) [] := by
  refine Cd.laws_FnExactReportAfter_ok.fn0 Tryd.mixed Cd.laws_FnExactReportAfter_nt Cd.laws_FnExactReportAfter_rs rfl fun X => ?_
  unfold Cd.laws_FnExactReportAfter
  simp -dsimp only [go_sem, reduceIte, reduceCtorEq, Nat.reduceEqDiff, Nat.reduceLT, Nat.reduceLeDiff, Nat.reduceAdd, Nat.reduceMul, Nat.reduceSub, Int.reduceToNat, Int.reduceNeg, cR]
  refine Br.mk (fun h1 => by simp -dsimp only [go_sem, reduceIte, reduceCtorEq, Nat.reduceEqDiff, Nat.reduceLT, Nat.reduceLeDiff, Nat.reduceAdd, Nat.reduceMul, Nat.reduceSub, Int.reduceToNat, Int.reduceNeg]; simp) (fun h1 => ?_)
  have hl1 : l.length ≤ 1048576 := by simp at h1; omega
  simp -dsimp only [go_sem, reduceIte, reduceCtorEq, Nat.reduceEqDiff, Nat.reduceLT, Nat.reduceLeDiff, Nat.reduceAdd, Nat.reduceMul, Nat.reduceSub, Int.reduceToNat, Int.reduceNeg]
  refine CallK.flat (szFaultS fs 1048576) rfl ?_
  simp -dsimp only [go_sem, reduceIte, reduceCtorEq, Nat.reduceEqDiff, Nat.reduceLT, Nat.reduceLeDiff, Nat.reduceAdd, Nat.reduceMul, Nat.reduceSub, Int.reduceToNat, Int.reduceNeg]
  refine Br.mk (fun h2 => by simp -dsimp only [go_sem, reduceIte, reduceCtorEq, Nat.reduceEqDiff, Nat.reduceLT, Nat.reduceLeDiff, Nat.reduceAdd, Nat.reduceMul, Nat.reduceSub, Int.reduceToNat, Int.reduceNeg]; simp) (fun h2 => ?_)
  simp only [decide_eq_false_iff_not] at h2
  have hf1 : fs.length ≤ 1048576 := by have := (szN_le hfs (by omega) (by omega) (by omega : 0 ≤ szN fs.length 1048576)).2; omega
  simp -dsimp only [go_sem, reduceIte, reduceCtorEq, Nat.reduceEqDiff, Nat.reduceLT, Nat.reduceLeDiff, Nat.reduceAdd, Nat.reduceMul, Nat.reduceSub, Int.reduceToNat, Int.reduceNeg]
  repeat' (first
    | (refine RgK.mk rfl ?_; simp -dsimp only [go_sem, reduceIte, reduceCtorEq, Nat.reduceEqDiff, Nat.reduceLT, Nat.reduceLeDiff, Nat.reduceAdd, Nat.reduceMul, Nat.reduceSub, Int.reduceToNat, Int.reduceNeg, cR])
    | (refine Br.mk (fun h => ?_) (fun h => ?_) <;> simp -dsimp only [go_sem, reduceIte, reduceCtorEq, Nat.reduceEqDiff, Nat.reduceLT, Nat.reduceLeDiff, Nat.reduceAdd, Nat.reduceMul, Nat.reduceSub, Int.reduceToNat, Int.reduceNeg, h, cR])
    | (refine CallK.flat (by first | exact toInt64S hl1 | exact toFaultS fs hf1 | exact spec_ReportAfter l fs hl1 hf1 | exact impl_ReportAfter l fs hl1 hf1 | exact eqReport (raR l fs) | exact eqInt64S hl1 | exact eqFaultS fs hf1) rfl ?_; simp -dsimp only [go_sem, reduceIte, reduceCtorEq, Nat.reduceEqDiff, Nat.reduceLT, Nat.reduceLeDiff, Nat.reduceAdd, Nat.reduceMul, Nat.reduceSub, Int.reduceToNat, Int.reduceNeg, cR])
    | (refine CallK.pure (by first | exact toInt64S hl1 | exact toFaultS fs hf1 | exact spec_ReportAfter l fs hl1 hf1 | exact impl_ReportAfter l fs hl1 hf1 | exact eqReport (raR l fs) | exact eqInt64S hl1 | exact eqFaultS fs hf1) ?_; simp -dsimp only [go_sem, reduceIte, reduceCtorEq, Nat.reduceEqDiff, Nat.reduceLT, Nat.reduceLeDiff, Nat.reduceAdd, Nat.reduceMul, Nat.reduceSub, Int.reduceToNat, Int.reduceNeg, cR])
    | (refine And.intro (by first | rfl | omega | decide | (refine ⟨?_, ?_⟩ <;> (first | rfl | omega | decide)) | (refine ⟨?_, ?_, ?_⟩ <;> (first | rfl | omega | decide)) | (refine ⟨?_, ?_, ?_, ?_⟩ <;> (first | rfl | omega | decide))) ?_)
    | fail)
  all_goals simp_all

def gFlt2 (p : I64 × I64 × I64 × I64) : Flt := ⟨p.1.1, p.2.1.1, p.2.2.1.1, p.2.2.2.1⟩

set_option maxRecDepth 100000 in
theorem reportafter_door (os : Os) (args : Array Value) : laidMetH Tryd.prog Rows.fnExactReportAfterRow.laid ((World.doorLaid Tryd.prog 24 os).forCall (fun _ _ => 0) ⟨#[], args, []⟩).memory :=
  laidMetH_of_parts3 (fuel := 8) (laidMet_of_run' 8 (by kernel_rfl) (by kernel_rfl)) (by kernel_rfl) (by kernel_rfl)

set_option maxRecDepth 100000 in
theorem reportafter_lifted (os : Os) (started : os.Started) (H : Type) (enc : TypeId × Value → H) :
    ReturnsInHanded {} Tryd.checked os F.laws_FnExactReportAfter .any (fun w args => (Rows.fnExactReportAfterSpec.pre enc Tryd.prog Tryd.f5 Rows.fnExactReportAfterRow.domain false w args ∧ laidMetH Tryd.prog Rows.fnExactReportAfterRow.laid w) ∧ sizedMet enc Tryd.prog Tryd.f5 (OpenSpec.ofChange Rows.fnExactReportAfterSpec) false w args)
      (Rows.fnExactReportAfterSpec.post enc Tryd.prog Tryd.f5 false true false false) :=
  law_returns_and (C := Tryd.checked) (X := fun w _ => laidMetH Tryd.prog Rows.fnExactReportAfterRow.laid w) (fun _ _ _ hh h => h.of_heap hh) (fun W args h => env_of_laid h) Tryd.own started (by kernel_rfl) Tryd.func5
    (ChangeSpec.witness_shaped (enc := enc) (C := Tryd.checked) (os := os) (X := fun w _ => laidMetH Tryd.prog Rows.fnExactReportAfterRow.laid w) false (World.doorLaid Tryd.prog 24 os) #[.slice none 0 0, .slice none 0 0] 8 rfl (World.shaped_of_RefB (by kernel_rfl) (by kernel_rfl)) (by kernel_rfl) (by kernel_rfl) (by kernel_rfl) (reportafter_door os _))
    Tryd.laidOut (by kernel_rfl) rfl Tryd.underlying4 rfl (fun ds h => by match ds, h with | [_, _], _ => exact ⟨rfl, rfl, rfl⟩)
    (Args.cons (Arg.slice Tryd.underlying22 oInts) (Args.cons (Arg.slice Tryd.underlying35 oFaults) Args.nil)) (fun a => by
      have h := law_ReportAfter (a.1.1.map fun n => n.1) (a.2.1.1.map gFlt2) (by simpa using a.1.2) (by simpa using a.2.1.2)
      rw [E_map, E_map] at h
      exact h)

theorem reportafter_row : Rows.FnExactReportAfterSaid :=
  OpenClaim.holds_of_wide 5 Tryd.f5 rfl rfl rfl rfl rfl rfl rfl ⟨rfl, rfl, rfl, rfl, rfl⟩ rfl rfl rfl rfl rfl (by kernel_rfl) Tryd.func5 (by kernel_rfl)
    (of_decide_eq_true (by kernel_rfl)) (by unfold Func.isWrapper; first | (rw [if_pos (by decide +kernel)]; kernel_rfl) | (rw [if_neg (by decide +kernel)]; exact ⟨rfl, rfl⟩))
    (fun os started H enc _ => reportafter_lifted os started H enc)

theorem reportafter_holds : Rows.FnExactReportAfterCardSaid :=
  Claim7.holds_tied_plain_at .later [] [.data, .data, .data] true _ false reportafter_row (fun _ h => by cases h) (by kernel_rfl) (fun _ h => by cases h) fnExactReportAfter_row_tie rfl ⟨rfl, rfl⟩ (by kernel_rfl) rfl
    (fun f fn hf hfn => by
      obtain rfl : f = 5 := Option.some.inj ((by kernel_rfl : Tryd.prog.funcNamed Rows.fnExactReportAfterRow.func = some 5).symm.trans hf) |>.symm
      obtain rfl : fn = Tryd.f5 := (Option.some.inj (Tryd.func5.symm.trans hfn)).symm
      exact ⟨by kernel_rfl, fun j t ht => by
        rw [show Tryd.f5.params = #[22, 35] from rfl] at ht
        have hm : t ∈ [22, 35] := by simpa using Array.mem_of_getElem? ht
        have hall : ([22, 35].all fun u => !Tryd.prog.wantsStandIn u) = true := by kernel_rfl
        exact (show Tryd.prog.wantsStandIn t = false by simpa using List.all_eq_true.1 hall t hm)⟩)
    (by kernel_rfl)
#print axioms reportafter_holds
end Go.Proofs.YtclfhgcngodljaaDoor
