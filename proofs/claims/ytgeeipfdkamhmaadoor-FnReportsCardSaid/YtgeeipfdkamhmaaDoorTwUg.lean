/- Amounts and faults that are drawn; the law FnReports. -/
import Derived.Test.YtgeeipfdkamhmaaDoorTwG
import Derived.Test.YtgeeipfdkamhmaaDoorTwH
import Derived.Test.YtgeeipfdkamhmaaDoorTuO
import Derived.Test.YtgeeipfdkamhmaaDoorFtR
import Derived.Test.YtgeeipfdkamhmaaDoorCards
import Derived.Test.YtgeeipfdkamhmaaDoorTie
import Derived.SevenTiedAt
import Derived.Test.YtgeeipfdkamhmaaDoorTwUf
import Derived.Test.YtgeeipfdkamhmaaDoorTwUe
import Derived.Test.YtgeeipfdkamhmaaDoorTwUd
import Derived.Test.YtgeeipfdkamhmaaDoorTwUc
import Derived.Test.YtgeeipfdkamhmaaDoorTwUa
import Derived.Test.YtgeeipfdkamhmaaDoorTwO
import Derived.Test.YtgeeipfdkamhmaaDoorTwB
namespace Go.Proofs.YtgeeipfdkamhmaaDoor
open Go.Vs Go.ChangeShapes Go.WideShapes Go.ChangeAt Go.RowKit
set_option linter.unusedSimpArgs false
set_option linter.unusedVariables false
attribute [local irreducible] Vs.Fn
theorem aftN_in {l : List Int} {fs : List Flt} (hA : arB l fs = true) (i : Nat) {n : Int} (h0 : 0 ≤ n) (h1 : n ≤ 9999) : ∀ x, x ∈ aftN fs i n → 0 ≤ x ∧ x ≤ 9999 := by
  intro x hx
  unfold aftN at hx
  split at hx
  · simp at hx; omega
  · rename_i j hj
    obtain ⟨hjl, _, _⟩ := List.findIdx?_eq_some_iff_getElem.1 hj
    have hflt := ((arSpec hA).2 j hjl).1
    have hisF : isF (fs.getD j default) = true := by simp only [fltB, Bool.and_eq_true] at hflt; exact hflt.1
    unfold aftE at hx
    split at hx
    · simp at hx; omega
    · split at hx
      · rename_i h3
        obtain ⟨q, hq, hq4⟩ := isF_digit hisF h3
        have := (rd_eq h0 h1 hq hq4 (isF_dig hisF h3)).1
        simp at hx; subst hx; exact this
      · cases hx
theorem aft_okA {l : List Int} {fs : List Flt} (hl : amB l = true) (hA : arB l fs = true) : okA (aft l fs l.length) := by
  obtain ⟨h12, hr⟩ := amB_spec hl
  refine ⟨by have := aft_len l fs l.length (Nat.le_refl _); omega, fun x hx => ?_⟩
  simp only [aft, List.mem_flatMap, List.mem_range] at hx
  obtain ⟨i, hi, hx⟩ := hx
  rw [getD_lt hi] at hx
  obtain ⟨n0, n1⟩ := hr l[i] (List.getElem_mem hi)
  exact aftN_in hA i n0 n1 x hx
def faC (l : List Int) (fs : List Flt) : Int := if amB l then (if arB l fs then 0 else 2) else 1
def raR (l : List Int) (fs : List Flt) : Rp := if faC l fs = 0 then repB (aft l fs l.length) else ⟨0, 0, 0⟩
theorem faC_zero {l : List Int} {fs : List Flt} (h : faC l fs = 0) : amB l = true ∧ arB l fs = true := by
  unfold faC at h
  split at h
  · split at h
    · exact ⟨by assumption, by assumption⟩
    · cases h
  · cases h
theorem notF {b : Bool} (h : (!b) = false) : b = true := by simpa using h
theorem faultCode (l : List Int) (fs : List Flt) (hl : l.length ≤ 1048576) (hfs : fs.length ≤ 1048576) : Vs.Fn Tryd.prog F.impl_faultCode [] [.sl 1 (E cI l), .sl 4 (E cF fs)] (.v (.int .i64 (faC l fs))) [] := by
  refine Cd.impl_faultCode_ok.fn0 Tryd.mixed Cd.impl_faultCode_nt Cd.impl_faultCode_rs rfl fun X => ?_
  unfold Cd.impl_faultCode
  simp -dsimp only [go_sem, reduceIte, reduceCtorEq, Nat.reduceEqDiff, Nat.reduceLT, Nat.reduceLeDiff, Nat.reduceAdd, Nat.reduceMul, Nat.reduceSub, Int.reduceToNat, Int.reduceNeg]
  repeat' (first
    | (refine RgK.mk rfl ?_; simp -dsimp only [go_sem, reduceIte, reduceCtorEq, Nat.reduceEqDiff, Nat.reduceLT, Nat.reduceLeDiff, Nat.reduceAdd, Nat.reduceMul, Nat.reduceSub, Int.reduceToNat, Int.reduceNeg])
    | (refine Br.mk (fun h => ?_) (fun h => ?_) <;> simp -dsimp only [go_sem, reduceIte, reduceCtorEq, Nat.reduceEqDiff, Nat.reduceLT, Nat.reduceLeDiff, Nat.reduceAdd, Nat.reduceMul, Nat.reduceSub, Int.reduceToNat, Int.reduceNeg, h])
    | (refine CallK.flat (by first | exact validAmounts l hl | exact areFaults l fs (notF (by assumption)) hfs) rfl ?_; simp -dsimp only [go_sem, reduceIte, reduceCtorEq, Nat.reduceEqDiff, Nat.reduceLT, Nat.reduceLeDiff, Nat.reduceAdd, Nat.reduceMul, Nat.reduceSub, Int.reduceToNat, Int.reduceNeg])
    | (refine CallK.pure (by first | exact validAmounts l hl | exact areFaults l fs (notF (by assumption)) hfs) ?_; simp -dsimp only [go_sem, reduceIte, reduceCtorEq, Nat.reduceEqDiff, Nat.reduceLT, Nat.reduceLeDiff, Nat.reduceAdd, Nat.reduceMul, Nat.reduceSub, Int.reduceToNat, Int.reduceNeg])
    | (refine And.intro (by first | rfl | omega | decide | (refine ⟨?_, ?_⟩ <;> (first | rfl | omega | decide)) | (refine ⟨?_, ?_, ?_⟩ <;> (first | rfl | omega | decide)) | (refine ⟨?_, ?_, ?_, ?_⟩ <;> (first | rfl | omega | decide))) ?_)
    | fail)
  all_goals (simp_all [faC])

theorem impl_ReportAfter (l : List Int) (fs : List Flt) (hl : l.length ≤ 1048576) (hfs : fs.length ≤ 1048576) : Vs.Fn Tryd.prog F.impl_ReportAfter [] [.sl 1 (E cI l), .sl 4 (E cF fs)] (.tup [.agg (cR (raR l fs)), .v (.int .i64 (faC l fs))]) [] := by
  refine Cd.impl_ReportAfter_ok.fn0 Tryd.mixed Cd.impl_ReportAfter_nt Cd.impl_ReportAfter_rs rfl fun X => ?_
  unfold Cd.impl_ReportAfter
  simp -dsimp only [go_sem, reduceIte, reduceCtorEq, Nat.reduceEqDiff, Nat.reduceLT, Nat.reduceLeDiff, Nat.reduceAdd, Nat.reduceMul, Nat.reduceSub, Int.reduceToNat, Int.reduceNeg, cR]
  refine CallK.flat (faultCode l fs hl hfs) rfl ?_
  by_cases h0 : faC l fs = 0
  · have e0 : (faC l fs != 0) = false := by simp [h0]
    obtain ⟨ha, hb⟩ := faC_zero h0
    have hok := aft_okA ha hb
    have hR : raR l fs = repB (aft l fs l.length) := by simp [raR, h0]
    rw [hR]
    simp -dsimp only [go_sem, reduceIte, reduceCtorEq, Nat.reduceEqDiff, Nat.reduceLT, Nat.reduceLeDiff, Nat.reduceAdd, Nat.reduceMul, Nat.reduceSub, Int.reduceToNat, Int.reduceNeg, e0, cR]
    repeat' (first
      | (refine RgK.mk rfl ?_; simp -dsimp only [go_sem, reduceIte, reduceCtorEq, Nat.reduceEqDiff, Nat.reduceLT, Nat.reduceLeDiff, Nat.reduceAdd, Nat.reduceMul, Nat.reduceSub, Int.reduceToNat, Int.reduceNeg, e0, cR])
      | (refine Br.mk (fun h => ?_) (fun h => ?_) <;> simp -dsimp only [go_sem, reduceIte, reduceCtorEq, Nat.reduceEqDiff, Nat.reduceLT, Nat.reduceLeDiff, Nat.reduceAdd, Nat.reduceMul, Nat.reduceSub, Int.reduceToNat, Int.reduceNeg, h, e0, cR])
      | (refine CallK.flat (by first | exact amountsAfter l fs ha hb | exact reportOf _ hok) rfl ?_; simp -dsimp only [go_sem, reduceIte, reduceCtorEq, Nat.reduceEqDiff, Nat.reduceLT, Nat.reduceLeDiff, Nat.reduceAdd, Nat.reduceMul, Nat.reduceSub, Int.reduceToNat, Int.reduceNeg, e0, cR])
      | (refine CallK.pure (by first | exact amountsAfter l fs ha hb | exact reportOf _ hok) ?_; simp -dsimp only [go_sem, reduceIte, reduceCtorEq, Nat.reduceEqDiff, Nat.reduceLT, Nat.reduceLeDiff, Nat.reduceAdd, Nat.reduceMul, Nat.reduceSub, Int.reduceToNat, Int.reduceNeg, e0, cR])
      | (refine And.intro (by first | rfl | omega | decide | (refine ⟨?_, ?_⟩ <;> (first | rfl | omega | decide)) | (refine ⟨?_, ?_, ?_⟩ <;> (first | rfl | omega | decide)) | (refine ⟨?_, ?_, ?_, ?_⟩ <;> (first | rfl | omega | decide))) ?_)
      | fail)

    all_goals simp [cR, h0]
  · have e0 : (faC l fs != 0) = true := by simp [h0]
    have hR : raR l fs = ⟨0, 0, 0⟩ := by simp [raR, h0]
    rw [hR]
    simp -dsimp only [go_sem, reduceIte, reduceCtorEq, Nat.reduceEqDiff, Nat.reduceLT, Nat.reduceLeDiff, Nat.reduceAdd, Nat.reduceMul, Nat.reduceSub, Int.reduceToNat, Int.reduceNeg, e0, cR]
    repeat' (first
      | (refine RgK.mk rfl ?_; simp -dsimp only [go_sem, reduceIte, reduceCtorEq, Nat.reduceEqDiff, Nat.reduceLT, Nat.reduceLeDiff, Nat.reduceAdd, Nat.reduceMul, Nat.reduceSub, Int.reduceToNat, Int.reduceNeg, e0, cR])
      | (refine Br.mk (fun h => ?_) (fun h => ?_) <;> simp -dsimp only [go_sem, reduceIte, reduceCtorEq, Nat.reduceEqDiff, Nat.reduceLT, Nat.reduceLeDiff, Nat.reduceAdd, Nat.reduceMul, Nat.reduceSub, Int.reduceToNat, Int.reduceNeg, h, e0, cR])
      | (refine And.intro (by first | rfl | omega | decide | (refine ⟨?_, ?_⟩ <;> (first | rfl | omega | decide)) | (refine ⟨?_, ?_, ?_⟩ <;> (first | rfl | omega | decide)) | (refine ⟨?_, ?_, ?_, ?_⟩ <;> (first | rfl | omega | decide))) ?_)
      | fail)

    all_goals simp [cR]

end Go.Proofs.YtgeeipfdkamhmaaDoor

namespace Go.Proofs.YtgeeipfdkamhmaaDoor
open Go.Vs
set_option linter.unusedSimpArgs false
set_option linter.unusedVariables false
attribute [local irreducible] Vs.Fn
attribute [local irreducible] nxV nxS pkV pkS
theorem arB_nil (l : List Int) : arB l [] = true := by
  unfold arB
  simp [rall]
theorem l00FromB (l : List Int) : Vs.Fn Tryd.prog F.spec_l00From [] [.sl 1 (E cU l)] (.ptr (.b 0) 0 0) [some (.var [.sl 1 (E cU l), .v (.int .i64 0), .v (.int .u64 0)] false)] := l00From l
theorem a2Amounts (l : List Int) (hl : byt l) : ∃ m fs, (amB m = true ∧ arB m fs = true) ∧ Vs.Fn Tryd.prog F.spec_A2Amounts [] [.sl 1 (E cU l)] (.tup [.sl 1 (E cI m), .sl 4 (E cF fs)]) [] := by
  have D := draw l ⟨0, 0⟩ hl (by dsimp only; omega)
  obtain ⟨hm, hp, hlen⟩ := drA_ok hl ⟨0, 0⟩
  generalize drA l ⟨0, 0⟩ = R at *
  obtain ⟨m, y⟩ := R
  dsimp only at D hm hp hlen
  obtain ⟨fs, z, hfs, G⟩ := drawFaults l y hl (m.length : Nat) (by omega)
  have H := l19Faults m fs hm (by omega)
  have hE : E cF [] = [] := rfl
  cases hA : arB m fs
  · refine ⟨m, [], ⟨hm, arB_nil m⟩, ?_⟩
    rw [hA] at H
    refine Cd.spec_A2Amounts_ok.fn0 Tryd.mixed Cd.spec_A2Amounts_nt Cd.spec_A2Amounts_rs rfl fun X => ?_
    unfold Cd.spec_A2Amounts
    simp -dsimp only [go_sem, reduceIte, reduceCtorEq, Nat.reduceEqDiff, Nat.reduceLT, Nat.reduceLeDiff, Nat.reduceAdd, Nat.reduceMul, Nat.reduceSub, Int.reduceToNat, Int.reduceNeg, E_len, List.mem_singleton, Vs.Name.t.injEq, List.set_cons_zero, List.set_cons_succ, List.length_cons, List.length_nil, List.flatMap_cons, List.flatMap_nil, cellN, topN, nestN, sB, List.getD_cons_zero, List.append_nil, List.nil_append, List.cons_append]
    refine CallK.own (l00FromB l) rfl ?_
    simp -dsimp only [go_sem, reduceIte, reduceCtorEq, Nat.reduceEqDiff, Nat.reduceLT, Nat.reduceLeDiff, Nat.reduceAdd, Nat.reduceMul, Nat.reduceSub, Int.reduceToNat, Int.reduceNeg, E_len, List.mem_singleton, Vs.Name.t.injEq, List.set_cons_zero, List.set_cons_succ, List.length_cons, List.length_nil, List.flatMap_cons, List.flatMap_nil, cellN, topN, nestN, sB, List.getD_cons_zero, List.append_nil, List.nil_append, List.cons_append]
    repeat' (first
      | (refine RgK.mk rfl ?_; simp -dsimp only [go_sem, reduceIte, reduceCtorEq, Nat.reduceEqDiff, Nat.reduceLT, Nat.reduceLeDiff, Nat.reduceAdd, Nat.reduceMul, Nat.reduceSub, Int.reduceToNat, Int.reduceNeg, E_len, List.mem_singleton, Vs.Name.t.injEq, List.set_cons_zero, List.set_cons_succ, List.length_cons, List.length_nil, List.flatMap_cons, List.flatMap_nil, cellN, topN, nestN, sB, List.getD_cons_zero, List.append_nil, List.nil_append, List.cons_append])
      | (refine Br.mk (fun h => ?_) (fun h => ?_) <;> simp -dsimp only [go_sem, reduceIte, reduceCtorEq, Nat.reduceEqDiff, Nat.reduceLT, Nat.reduceLeDiff, Nat.reduceAdd, Nat.reduceMul, Nat.reduceSub, Int.reduceToNat, Int.reduceNeg, h, E_len, List.mem_singleton, Vs.Name.t.injEq, List.set_cons_zero, List.set_cons_succ, List.length_cons, List.length_nil, List.flatMap_cons, List.flatMap_nil, cellN, topN, nestN, sB, List.getD_cons_zero, List.append_nil, List.nil_append, List.cons_append])
      | (refine CallK.bor (by first | exact D | exact G) rfl ?_; simp -dsimp only [go_sem, reduceIte, reduceCtorEq, Nat.reduceEqDiff, Nat.reduceLT, Nat.reduceLeDiff, Nat.reduceAdd, Nat.reduceMul, Nat.reduceSub, Int.reduceToNat, Int.reduceNeg, E_len, List.mem_singleton, Vs.Name.t.injEq, List.set_cons_zero, List.set_cons_succ, List.length_cons, List.length_nil, List.flatMap_cons, List.flatMap_nil, cellN, topN, nestN, sB, List.getD_cons_zero, List.append_nil, List.nil_append, List.cons_append])
      | (refine CallK.flat (by first | exact H) rfl ?_; simp -dsimp only [go_sem, reduceIte, reduceCtorEq, Nat.reduceEqDiff, Nat.reduceLT, Nat.reduceLeDiff, Nat.reduceAdd, Nat.reduceMul, Nat.reduceSub, Int.reduceToNat, Int.reduceNeg, E_len, List.mem_singleton, Vs.Name.t.injEq, List.set_cons_zero, List.set_cons_succ, List.length_cons, List.length_nil, List.flatMap_cons, List.flatMap_nil, cellN, topN, nestN, sB, List.getD_cons_zero, List.append_nil, List.nil_append, List.cons_append])
      | (refine CallK.pure (by first | exact H) ?_; simp -dsimp only [go_sem, reduceIte, reduceCtorEq, Nat.reduceEqDiff, Nat.reduceLT, Nat.reduceLeDiff, Nat.reduceAdd, Nat.reduceMul, Nat.reduceSub, Int.reduceToNat, Int.reduceNeg, E_len, List.mem_singleton, Vs.Name.t.injEq, List.set_cons_zero, List.set_cons_succ, List.length_cons, List.length_nil, List.flatMap_cons, List.flatMap_nil, cellN, topN, nestN, sB, List.getD_cons_zero, List.append_nil, List.nil_append, List.cons_append])
      | (refine And.intro (by first | rfl | omega | decide | exact ⟨by omega, by omega⟩ | exact ⟨rfl, by omega, by omega⟩ | (refine ⟨?_, ?_⟩ <;> (first | rfl | omega | decide | exact ⟨by omega, by omega⟩ | exact ⟨rfl, by omega, by omega⟩)) | (refine ⟨?_, ?_, ?_⟩ <;> (first | rfl | omega | decide | exact ⟨by omega, by omega⟩ | exact ⟨rfl, by omega, by omega⟩)) | (refine ⟨?_, ?_, ?_, ?_⟩ <;> (first | rfl | omega | decide | exact ⟨by omega, by omega⟩ | exact ⟨rfl, by omega, by omega⟩))) ?_; try simp -dsimp only [go_sem, reduceIte, reduceCtorEq, Nat.reduceEqDiff, Nat.reduceLT, Nat.reduceLeDiff, Nat.reduceAdd, Nat.reduceMul, Nat.reduceSub, Int.reduceToNat, Int.reduceNeg, E_len, List.mem_singleton, Vs.Name.t.injEq, List.set_cons_zero, List.set_cons_succ, List.length_cons, List.length_nil, List.flatMap_cons, List.flatMap_nil, cellN, topN, nestN, sB, List.getD_cons_zero, List.append_nil, List.nil_append, List.cons_append])
      | fail)
    all_goals first | exact ⟨_, _, rfl, rfl⟩
  · refine ⟨m, fs, ⟨hm, hA⟩, ?_⟩
    rw [hA] at H
    refine Cd.spec_A2Amounts_ok.fn0 Tryd.mixed Cd.spec_A2Amounts_nt Cd.spec_A2Amounts_rs rfl fun X => ?_
    unfold Cd.spec_A2Amounts
    simp -dsimp only [go_sem, reduceIte, reduceCtorEq, Nat.reduceEqDiff, Nat.reduceLT, Nat.reduceLeDiff, Nat.reduceAdd, Nat.reduceMul, Nat.reduceSub, Int.reduceToNat, Int.reduceNeg, E_len, List.mem_singleton, Vs.Name.t.injEq, List.set_cons_zero, List.set_cons_succ, List.length_cons, List.length_nil, List.flatMap_cons, List.flatMap_nil, cellN, topN, nestN, sB, List.getD_cons_zero, List.append_nil, List.nil_append, List.cons_append]
    refine CallK.own (l00FromB l) rfl ?_
    simp -dsimp only [go_sem, reduceIte, reduceCtorEq, Nat.reduceEqDiff, Nat.reduceLT, Nat.reduceLeDiff, Nat.reduceAdd, Nat.reduceMul, Nat.reduceSub, Int.reduceToNat, Int.reduceNeg, E_len, List.mem_singleton, Vs.Name.t.injEq, List.set_cons_zero, List.set_cons_succ, List.length_cons, List.length_nil, List.flatMap_cons, List.flatMap_nil, cellN, topN, nestN, sB, List.getD_cons_zero, List.append_nil, List.nil_append, List.cons_append]
    repeat' (first
      | (refine RgK.mk rfl ?_; simp -dsimp only [go_sem, reduceIte, reduceCtorEq, Nat.reduceEqDiff, Nat.reduceLT, Nat.reduceLeDiff, Nat.reduceAdd, Nat.reduceMul, Nat.reduceSub, Int.reduceToNat, Int.reduceNeg, E_len, List.mem_singleton, Vs.Name.t.injEq, List.set_cons_zero, List.set_cons_succ, List.length_cons, List.length_nil, List.flatMap_cons, List.flatMap_nil, cellN, topN, nestN, sB, List.getD_cons_zero, List.append_nil, List.nil_append, List.cons_append])
      | (refine Br.mk (fun h => ?_) (fun h => ?_) <;> simp -dsimp only [go_sem, reduceIte, reduceCtorEq, Nat.reduceEqDiff, Nat.reduceLT, Nat.reduceLeDiff, Nat.reduceAdd, Nat.reduceMul, Nat.reduceSub, Int.reduceToNat, Int.reduceNeg, h, E_len, List.mem_singleton, Vs.Name.t.injEq, List.set_cons_zero, List.set_cons_succ, List.length_cons, List.length_nil, List.flatMap_cons, List.flatMap_nil, cellN, topN, nestN, sB, List.getD_cons_zero, List.append_nil, List.nil_append, List.cons_append])
      | (refine CallK.bor (by first | exact D | exact G) rfl ?_; simp -dsimp only [go_sem, reduceIte, reduceCtorEq, Nat.reduceEqDiff, Nat.reduceLT, Nat.reduceLeDiff, Nat.reduceAdd, Nat.reduceMul, Nat.reduceSub, Int.reduceToNat, Int.reduceNeg, E_len, List.mem_singleton, Vs.Name.t.injEq, List.set_cons_zero, List.set_cons_succ, List.length_cons, List.length_nil, List.flatMap_cons, List.flatMap_nil, cellN, topN, nestN, sB, List.getD_cons_zero, List.append_nil, List.nil_append, List.cons_append])
      | (refine CallK.flat (by first | exact H) rfl ?_; simp -dsimp only [go_sem, reduceIte, reduceCtorEq, Nat.reduceEqDiff, Nat.reduceLT, Nat.reduceLeDiff, Nat.reduceAdd, Nat.reduceMul, Nat.reduceSub, Int.reduceToNat, Int.reduceNeg, E_len, List.mem_singleton, Vs.Name.t.injEq, List.set_cons_zero, List.set_cons_succ, List.length_cons, List.length_nil, List.flatMap_cons, List.flatMap_nil, cellN, topN, nestN, sB, List.getD_cons_zero, List.append_nil, List.nil_append, List.cons_append])
      | (refine CallK.pure (by first | exact H) ?_; simp -dsimp only [go_sem, reduceIte, reduceCtorEq, Nat.reduceEqDiff, Nat.reduceLT, Nat.reduceLeDiff, Nat.reduceAdd, Nat.reduceMul, Nat.reduceSub, Int.reduceToNat, Int.reduceNeg, E_len, List.mem_singleton, Vs.Name.t.injEq, List.set_cons_zero, List.set_cons_succ, List.length_cons, List.length_nil, List.flatMap_cons, List.flatMap_nil, cellN, topN, nestN, sB, List.getD_cons_zero, List.append_nil, List.nil_append, List.cons_append])
      | (refine And.intro (by first | rfl | omega | decide | exact ⟨by omega, by omega⟩ | exact ⟨rfl, by omega, by omega⟩ | (refine ⟨?_, ?_⟩ <;> (first | rfl | omega | decide | exact ⟨by omega, by omega⟩ | exact ⟨rfl, by omega, by omega⟩)) | (refine ⟨?_, ?_, ?_⟩ <;> (first | rfl | omega | decide | exact ⟨by omega, by omega⟩ | exact ⟨rfl, by omega, by omega⟩)) | (refine ⟨?_, ?_, ?_, ?_⟩ <;> (first | rfl | omega | decide | exact ⟨by omega, by omega⟩ | exact ⟨rfl, by omega, by omega⟩))) ?_; try simp -dsimp only [go_sem, reduceIte, reduceCtorEq, Nat.reduceEqDiff, Nat.reduceLT, Nat.reduceLeDiff, Nat.reduceAdd, Nat.reduceMul, Nat.reduceSub, Int.reduceToNat, Int.reduceNeg, E_len, List.mem_singleton, Vs.Name.t.injEq, List.set_cons_zero, List.set_cons_succ, List.length_cons, List.length_nil, List.flatMap_cons, List.flatMap_nil, cellN, topN, nestN, sB, List.getD_cons_zero, List.append_nil, List.nil_append, List.cons_append])
      | fail)
    all_goals first | exact ⟨_, _, rfl, rfl⟩
end Go.Proofs.YtgeeipfdkamhmaaDoor
