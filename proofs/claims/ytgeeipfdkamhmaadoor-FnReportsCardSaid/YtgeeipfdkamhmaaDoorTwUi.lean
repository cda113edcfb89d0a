/- The law FnReports returns true for every input, and its argument reads behind the call as it read before. Conditions: the tables of the library, which its text lays and the card ties. -/
import Derived.Test.YtgeeipfdkamhmaaDoorTwUg
import Derived.Test.YtgeeipfdkamhmaaDoorTwUa
import Derived.Test.YtgeeipfdkamhmaaDoorTwH
import Derived.Test.YtgeeipfdkamhmaaDoorTwO
import Derived.Test.YtgeeipfdkamhmaaDoorTwB
import Derived.Test.YtgeeipfdkamhmaaDoorFtR
import Derived.Test.YtgeeipfdkamhmaaDoorTuO
import Derived.Test.YtgeeipfdkamhmaaDoorCards
import Derived.Test.YtgeeipfdkamhmaaDoorTie
import Derived.SevenTiedAt
namespace Go.Proofs.YtgeeipfdkamhmaaDoor
open Go.Vs
set_option linter.unusedSimpArgs false
set_option linter.unusedVariables false
attribute [local irreducible] Vs.Fn
attribute [local irreducible] aft repB misR
theorem a2Long (l : List Int) : Vs.Fn Tryd.prog F.laws_a2Long [] [.sl 1 (E cU l), .v (.slice none 0 0)] (.v (.bool (decide ((l.length : Int) > 3000)))) [] := by
  refine Cd.laws_a2Long_ok.fn0 Tryd.mixed Cd.laws_a2Long_nt Cd.laws_a2Long_rs rfl fun X => ?_
  unfold Cd.laws_a2Long
  simp -dsimp only [go_sem, reduceIte, reduceCtorEq, Nat.reduceEqDiff, Nat.reduceLT, Nat.reduceLeDiff, Nat.reduceAdd, Nat.reduceMul, Nat.reduceSub, Int.reduceToNat, Int.reduceNeg, E_len]
  by_cases h : (l.length : Int) > 3000
  · have e : decide ((l.length : Int) > 3000) = true := by simp [h]
    try simp -dsimp only [go_sem, reduceIte, reduceCtorEq, Nat.reduceEqDiff, Nat.reduceLT, Nat.reduceLeDiff, Nat.reduceAdd, Nat.reduceMul, Nat.reduceSub, Int.reduceToNat, Int.reduceNeg, e]
    repeat' (first
      | (refine RgK.mk rfl ?_; simp -dsimp only [go_sem, reduceIte, reduceCtorEq, Nat.reduceEqDiff, Nat.reduceLT, Nat.reduceLeDiff, Nat.reduceAdd, Nat.reduceMul, Nat.reduceSub, Int.reduceToNat, Int.reduceNeg, e, E_len])
      | (refine Br.mk (fun h => ?_) (fun h => ?_) <;> simp -dsimp only [go_sem, reduceIte, reduceCtorEq, Nat.reduceEqDiff, Nat.reduceLT, Nat.reduceLeDiff, Nat.reduceAdd, Nat.reduceMul, Nat.reduceSub, Int.reduceToNat, Int.reduceNeg, h, e, E_len])
      | (refine And.intro (by first | rfl | omega | decide | (refine ⟨?_, ?_⟩ <;> (first | rfl | omega | decide)) | (refine ⟨?_, ?_, ?_⟩ <;> (first | rfl | omega | decide)) | (refine ⟨?_, ?_, ?_, ?_⟩ <;> (first | rfl | omega | decide))) ?_; try simp -dsimp only [go_sem, reduceIte, reduceCtorEq, Nat.reduceEqDiff, Nat.reduceLT, Nat.reduceLeDiff, Nat.reduceAdd, Nat.reduceMul, Nat.reduceSub, Int.reduceToNat, Int.reduceNeg, e, E_len])
      | fail)
    
    all_goals first | exact ⟨_, _, rfl, rfl⟩ | simp_all
  · have e : decide ((l.length : Int) > 3000) = false := by simp [h]
    try simp -dsimp only [go_sem, reduceIte, reduceCtorEq, Nat.reduceEqDiff, Nat.reduceLT, Nat.reduceLeDiff, Nat.reduceAdd, Nat.reduceMul, Nat.reduceSub, Int.reduceToNat, Int.reduceNeg, e]
    repeat' (first
      | (refine RgK.mk rfl ?_; simp -dsimp only [go_sem, reduceIte, reduceCtorEq, Nat.reduceEqDiff, Nat.reduceLT, Nat.reduceLeDiff, Nat.reduceAdd, Nat.reduceMul, Nat.reduceSub, Int.reduceToNat, Int.reduceNeg, e, E_len])
      | (refine Br.mk (fun h => ?_) (fun h => ?_) <;> simp -dsimp only [go_sem, reduceIte, reduceCtorEq, Nat.reduceEqDiff, Nat.reduceLT, Nat.reduceLeDiff, Nat.reduceAdd, Nat.reduceMul, Nat.reduceSub, Int.reduceToNat, Int.reduceNeg, h, e, E_len])
      | (refine And.intro (by first | rfl | omega | decide | (refine ⟨?_, ?_⟩ <;> (first | rfl | omega | decide)) | (refine ⟨?_, ?_, ?_⟩ <;> (first | rfl | omega | decide)) | (refine ⟨?_, ?_, ?_, ?_⟩ <;> (first | rfl | omega | decide))) ?_; try simp -dsimp only [go_sem, reduceIte, reduceCtorEq, Nat.reduceEqDiff, Nat.reduceLT, Nat.reduceLeDiff, Nat.reduceAdd, Nat.reduceMul, Nat.reduceSub, Int.reduceToNat, Int.reduceNeg, e, E_len])
      | fail)
    
    all_goals first | exact ⟨_, _, rfl, rfl⟩ | simp_all
theorem impl_AmountsAfter (l : List Int) (fs : List Flt) (hl : amB l = true) (hA : arB l fs = true) (hfs : fs.length ≤ 1048576) : Vs.Fn Tryd.prog F.impl_AmountsAfter [] [.sl 1 (E cI l), .sl 4 (E cF fs)] (.tup [.sl 1 (E cI (aft l fs l.length)), .v (.int .i64 0)]) [] := by
  have h12 := (amB_spec hl).1
  have H := faultCode l fs (by omega) hfs
  rw [show faC l fs = 0 by simp [faC, hl, hA]] at H
  have G := amountsAfter l fs hl hA
  refine Cd.impl_AmountsAfter_ok.fn0 Tryd.mixed Cd.impl_AmountsAfter_nt Cd.impl_AmountsAfter_rs rfl fun X => ?_
  unfold Cd.impl_AmountsAfter
  simp -dsimp only [go_sem, reduceIte, reduceCtorEq, Nat.reduceEqDiff, Nat.reduceLT, Nat.reduceLeDiff, Nat.reduceAdd, Nat.reduceMul, Nat.reduceSub, Int.reduceToNat, Int.reduceNeg, E_len]
  repeat' (first
    | (refine RgK.mk rfl ?_; simp -dsimp only [go_sem, reduceIte, reduceCtorEq, Nat.reduceEqDiff, Nat.reduceLT, Nat.reduceLeDiff, Nat.reduceAdd, Nat.reduceMul, Nat.reduceSub, Int.reduceToNat, Int.reduceNeg, E_len])
    | (refine Br.mk (fun h => ?_) (fun h => ?_) <;> simp -dsimp only [go_sem, reduceIte, reduceCtorEq, Nat.reduceEqDiff, Nat.reduceLT, Nat.reduceLeDiff, Nat.reduceAdd, Nat.reduceMul, Nat.reduceSub, Int.reduceToNat, Int.reduceNeg, h, E_len])
    | (refine CallK.flat (by first | exact H | exact G) rfl ?_; simp -dsimp only [go_sem, reduceIte, reduceCtorEq, Nat.reduceEqDiff, Nat.reduceLT, Nat.reduceLeDiff, Nat.reduceAdd, Nat.reduceMul, Nat.reduceSub, Int.reduceToNat, Int.reduceNeg, E_len])
    | (refine CallK.pure (by first | exact H | exact G) ?_; simp -dsimp only [go_sem, reduceIte, reduceCtorEq, Nat.reduceEqDiff, Nat.reduceLT, Nat.reduceLeDiff, Nat.reduceAdd, Nat.reduceMul, Nat.reduceSub, Int.reduceToNat, Int.reduceNeg, E_len])
    | (refine And.intro (by first | rfl | omega | decide | (refine ⟨?_, ?_⟩ <;> (first | rfl | omega | decide)) | (refine ⟨?_, ?_, ?_⟩ <;> (first | rfl | omega | decide)) | (refine ⟨?_, ?_, ?_, ?_⟩ <;> (first | rfl | omega | decide))) ?_; try simp -dsimp only [go_sem, reduceIte, reduceCtorEq, Nat.reduceEqDiff, Nat.reduceLT, Nat.reduceLeDiff, Nat.reduceAdd, Nat.reduceMul, Nat.reduceSub, Int.reduceToNat, Int.reduceNeg, E_len])
    | fail)
  all_goals first | exact ⟨_, _, rfl, rfl⟩ | simp_all
set_option maxRecDepth 20000 in
set_option maxHeartbeats 4000000 in
theorem fnReports (l : List Int) (hb : ∀ x, x ∈ l → 0 ≤ x ∧ x ≤ 255) (hl63 : l.length < 2 ^ 63) : Vs.Fn Tryd.prog F.laws_FnReports [] [.sl 1 (E cU l)] (.v (.bool true)) [] := by
  have A0 := a2Long l
  by_cases hlong : (l.length : Int) > 3000
  · have e : decide ((l.length : Int) > 3000) = true := by simp [hlong]
    rw [e] at A0
    refine Cd.laws_FnReports_ok.fn0 Tryd.mixed Cd.laws_FnReports_nt Cd.laws_FnReports_rs rfl fun X => ?_
    unfold Cd.laws_FnReports
    simp -dsimp only [go_sem, reduceIte, reduceCtorEq, Nat.reduceEqDiff, Nat.reduceLT, Nat.reduceLeDiff, Nat.reduceAdd, Nat.reduceMul, Nat.reduceSub, Int.reduceToNat, Int.reduceNeg, E_len]
    repeat' (first
      | (refine RgK.mk rfl ?_; simp -dsimp only [go_sem, reduceIte, reduceCtorEq, Nat.reduceEqDiff, Nat.reduceLT, Nat.reduceLeDiff, Nat.reduceAdd, Nat.reduceMul, Nat.reduceSub, Int.reduceToNat, Int.reduceNeg, E_len])
      | (refine Br.mk (fun h => ?_) (fun h => ?_) <;> simp -dsimp only [go_sem, reduceIte, reduceCtorEq, Nat.reduceEqDiff, Nat.reduceLT, Nat.reduceLeDiff, Nat.reduceAdd, Nat.reduceMul, Nat.reduceSub, Int.reduceToNat, Int.reduceNeg, h, E_len])
      | (refine CallK.flat (by first | exact A0) rfl ?_; simp -dsimp only [go_sem, reduceIte, reduceCtorEq, Nat.reduceEqDiff, Nat.reduceLT, Nat.reduceLeDiff, Nat.reduceAdd, Nat.reduceMul, Nat.reduceSub, Int.reduceToNat, Int.reduceNeg, E_len])
      | (refine CallK.pure (by first | exact A0) ?_; simp -dsimp only [go_sem, reduceIte, reduceCtorEq, Nat.reduceEqDiff, Nat.reduceLT, Nat.reduceLeDiff, Nat.reduceAdd, Nat.reduceMul, Nat.reduceSub, Int.reduceToNat, Int.reduceNeg, E_len])
      | (refine And.intro (by first | rfl | omega | decide | (refine ⟨?_, ?_⟩ <;> (first | rfl | omega | decide)) | (refine ⟨?_, ?_, ?_⟩ <;> (first | rfl | omega | decide)) | (refine ⟨?_, ?_, ?_, ?_⟩ <;> (first | rfl | omega | decide))) ?_; try simp -dsimp only [go_sem, reduceIte, reduceCtorEq, Nat.reduceEqDiff, Nat.reduceLT, Nat.reduceLeDiff, Nat.reduceAdd, Nat.reduceMul, Nat.reduceSub, Int.reduceToNat, Int.reduceNeg, E_len])
      | fail)
    all_goals first | exact ⟨_, _, rfl, rfl⟩ | simp_all
  · have e : decide ((l.length : Int) > 3000) = false := by simp [hlong]
    rw [e] at A0
    obtain ⟨m, fs, ⟨hm, hA⟩, A1⟩ := a2Amounts l ⟨by omega, hb⟩
    have h12 := (amB_spec hm).1
    have hfl : fs.length ≤ 2 := (arSpec hA).1
    have A2 := impl_AmountsAfter m fs hm hA (by omega)
    have A3 := impl_ReportAfter m fs (by omega) (by omega)
    have hfa : faC m fs = 0 := by simp [faC, hm, hA]
    rw [show raR m fs = repB (aft m fs m.length) by simp [raR, hfa], hfa] at A3
    have A4 := impl_ReportOf m (by omega)
    rw [show repR m = repB m by simp [repR, hm], show repC m = 0 by simp [repC, hm]] at A4
    have A5 := impl_MissingBy m (repB (aft m fs m.length)) (by omega)
    have hok := aft_okA hm hA
    generalize aft m fs m.length = a at *
    obtain ⟨⟨s0, s1⟩, t0, t1⟩ := okA_sum hok
    have hla := hok.1
    have hR : repB a = ⟨a.length, sumL a, sumL (dsL a)⟩ := by unfold repB; rfl
    have hRm : (repB m).count = m.length := by unfold repB; rfl
    have hO : okR (repB a) = true := by
      rw [hR]; simp [okR, inB]; omega
    have hM : misR m (repB a) = ⟨W ((repB a).count - (repB m).count), W ((repB a).sum - (repB m).sum), W ((repB a).digits - (repB m).digits)⟩ := by
      unfold misR; rw [if_pos hm, if_pos hO]; rfl
    rw [hM, show misC m (repB a) = 0 by unfold misC; rw [if_pos hm, if_pos hO]] at A5
    rw [hR] at A3 A5
    obtain ⟨q, hq⟩ : ∃ q, repB m = q := ⟨_, rfl⟩
    rw [hq] at A4 A5 hRm
    obtain ⟨qc, qs, qd⟩ := q
    dsimp only at hRm A4 A5
    subst hRm
    simp only [cR] at A3 A4 A5
    generalize hd0 : sumL (dsL a) = da at *
    clear hM hO hR hq hb e
    clear hd0
    refine Cd.laws_FnReports_ok.fn0 Tryd.mixed Cd.laws_FnReports_nt Cd.laws_FnReports_rs rfl fun X => ?_
    unfold Cd.laws_FnReports
    simp -dsimp only [go_sem, reduceIte, reduceCtorEq, Nat.reduceEqDiff, Nat.reduceLT, Nat.reduceLeDiff, Nat.reduceAdd, Nat.reduceMul, Nat.reduceSub, Int.reduceToNat, Int.reduceNeg, E_len]
    repeat' (first
      | (refine RgK.mk rfl ?_; simp -dsimp only [go_sem, reduceIte, reduceCtorEq, Nat.reduceEqDiff, Nat.reduceLT, Nat.reduceLeDiff, Nat.reduceAdd, Nat.reduceMul, Nat.reduceSub, Int.reduceToNat, Int.reduceNeg, E_len])
      | (refine Br.mk (fun h => ?_) (fun h => ?_) <;> simp -dsimp only [go_sem, reduceIte, reduceCtorEq, Nat.reduceEqDiff, Nat.reduceLT, Nat.reduceLeDiff, Nat.reduceAdd, Nat.reduceMul, Nat.reduceSub, Int.reduceToNat, Int.reduceNeg, h, E_len])
      | (refine CallK.flat (by first | exact A0 | exact A1 | exact A2 | exact A3 | exact A4 | exact A5) rfl ?_; simp -dsimp only [go_sem, reduceIte, reduceCtorEq, Nat.reduceEqDiff, Nat.reduceLT, Nat.reduceLeDiff, Nat.reduceAdd, Nat.reduceMul, Nat.reduceSub, Int.reduceToNat, Int.reduceNeg, E_len])
      | (refine CallK.pure (by first | exact A0 | exact A1 | exact A2 | exact A3 | exact A4 | exact A5) ?_; simp -dsimp only [go_sem, reduceIte, reduceCtorEq, Nat.reduceEqDiff, Nat.reduceLT, Nat.reduceLeDiff, Nat.reduceAdd, Nat.reduceMul, Nat.reduceSub, Int.reduceToNat, Int.reduceNeg, E_len])
      | (refine And.intro (by first | rfl | omega | decide | exact ⟨by omega, by omega⟩ | (refine ⟨?_, ?_⟩ <;> (first | rfl | omega | decide | exact ⟨by omega, by omega⟩)) | (refine ⟨?_, ?_, ?_⟩ <;> (first | rfl | omega | decide | exact ⟨by omega, by omega⟩)) | (refine ⟨?_, ?_, ?_, ?_⟩ <;> (first | rfl | omega | decide | exact ⟨by omega, by omega⟩))) ?_; try simp -dsimp only [go_sem, reduceIte, reduceCtorEq, Nat.reduceEqDiff, Nat.reduceLT, Nat.reduceLeDiff, Nat.reduceAdd, Nat.reduceMul, Nat.reduceSub, Int.reduceToNat, Int.reduceNeg, E_len])
      | fail)
    refine LoopK.at (drawn_ok Tryd.mixed) (X := { zz : Nat × (Int) // zz.1 ≤ a.length ∧ 0 ≤ zz.2 ∧ zz.2 + sumL (a.drop zz.1) = sumL a }) (fun zz => [(13, .v (.int .i64 zz.1.2)), (14, .v (.int .i64 zz.1.1))]) (fun zz => []) (fun zz => a.length - zz.1.1) ⟨(0, 0), by omega, by simp⟩ ?_ ?_
    · simp [Vs.LeL, Vs.look, Vs.hlook, Vs.sput, Vs.sputs, Vs.hset, Vs.hputs]
    · rintro ⟨⟨i, c⟩, hi, hg⟩
      dsimp only at hi hg
      simp -dsimp only [go_sem, reduceIte, reduceCtorEq, Nat.reduceEqDiff, Nat.reduceLT, Nat.reduceLeDiff, Nat.reduceAdd, Nat.reduceMul, Nat.reduceSub, Int.reduceToNat, Int.reduceNeg, E_len]
      refine Br.mk (fun hc => ?_) fun hc => ?_
      · have hlt : i < a.length := by first | (simpa using hc) | (simp at hc; omega)
        have hw := wrap_succ hlt (by omega)
        have hx := hok.2 _ (List.getElem_mem hlt)
        have hnn := sumL_dropN (fun x hx => (hok.2 x hx).1) (i + 1) (l := a)
        obtain ⟨hg0, hg1⟩ := hg
        rw [sumL_drop hlt] at hg1
        have hwa : IntKind.i64.wrap (c + a[i]) = c + a[i] := wrap_in (by omega) (by omega)
        have e1 : decide (a[i] < 0) = false := by simp; omega
        have e2 : decide (a[i] > 9999) = false := by simp; omega
        simp -dsimp only [go_sem, reduceIte, reduceCtorEq, Nat.reduceEqDiff, Nat.reduceLT, Nat.reduceLeDiff, Nat.reduceAdd, Nat.reduceMul, Nat.reduceSub, Int.reduceToNat, Int.reduceNeg, cI_get hlt, hw, hwa, e1, e2, E_len]
        repeat' (first
          | (refine RgK.mk rfl ?_; simp -dsimp only [go_sem, reduceIte, reduceCtorEq, Nat.reduceEqDiff, Nat.reduceLT, Nat.reduceLeDiff, Nat.reduceAdd, Nat.reduceMul, Nat.reduceSub, Int.reduceToNat, Int.reduceNeg, cI_get hlt, hw, hwa, e1, e2, E_len])
          | (refine Br.mk (fun h => ?_) (fun h => ?_) <;> simp -dsimp only [go_sem, reduceIte, reduceCtorEq, Nat.reduceEqDiff, Nat.reduceLT, Nat.reduceLeDiff, Nat.reduceAdd, Nat.reduceMul, Nat.reduceSub, Int.reduceToNat, Int.reduceNeg, h, cI_get hlt, hw, hwa, e1, e2, E_len])
          | (refine And.intro (by first | rfl | omega | decide | exact ⟨by omega, by omega⟩ | (refine ⟨?_, ?_⟩ <;> (first | rfl | omega | decide | exact ⟨by omega, by omega⟩)) | (refine ⟨?_, ?_, ?_⟩ <;> (first | rfl | omega | decide | exact ⟨by omega, by omega⟩)) | (refine ⟨?_, ?_, ?_, ?_⟩ <;> (first | rfl | omega | decide | exact ⟨by omega, by omega⟩))) ?_)
          | fail)

        all_goals (exact ⟨⟨(i + 1, c + a[i]), by first | omega | simp | exact ⟨by omega, by omega⟩, ⟨by dsimp only; omega, by dsimp only; omega⟩⟩, by simp [Vs.LeL, Vs.look, Vs.hlook, Vs.sput, Vs.sputs, Vs.hset, Vs.hputs], by simp only; omega⟩)
      · have hge : i = a.length := by
          have : ¬ i < a.length := by first | (simpa using hc) | (simp at hc; omega)
          omega
        subst hge
        simp -dsimp only [go_sem, reduceIte, reduceCtorEq, Nat.reduceEqDiff, Nat.reduceLT, Nat.reduceLeDiff, Nat.reduceAdd, Nat.reduceMul, Nat.reduceSub, Int.reduceToNat, Int.reduceNeg, E_len]
        obtain ⟨hg0, hg1⟩ := hg
        rw [List.drop_length, sumL] at hg1
        have e1 : c = sumL a := by omega
        subst e1
        simp -dsimp only [go_sem, reduceIte, reduceCtorEq, Nat.reduceEqDiff, Nat.reduceLT, Nat.reduceLeDiff, Nat.reduceAdd, Nat.reduceMul, Nat.reduceSub, Int.reduceToNat, Int.reduceNeg, E_len, beq_self_eq_true, W]
        refine ⟨?_, fun h => h rfl⟩
        first | exact ⟨_, _, rfl, rfl⟩
end Go.Proofs.YtgeeipfdkamhmaaDoor

namespace Go.Proofs.YtgeeipfdkamhmaaDoor
open Go.Vs Go.ChangeShapes Go.WideShapes Go.ChangeAt Go.RowKit
set_option linter.unusedSimpArgs false
set_option linter.unusedVariables false
attribute [local irreducible] Vs.Fn

set_option maxRecDepth 100000 in
theorem env_of_laid {W : World} (h0 : laidMetH Tryd.prog Rows.fnReportsRow.laid W) : Env (fun b => b < W.heap.size) W := by
  have h : laidMet Tryd.prog Rows.fnReportsRow.laid W := by
    rw [← MakeChecks.laidMetH_plain _ _ _ (by kernel_rfl)]
    exact h0
  have ht := laidMet.tail (laidMet.tail h)
  have hi := Lib.tabIs_of_head (k := .u64) (zs := Lib.pow10Tab) (g := 5) (t := 188) (e := 93) (n := 20) (by kernel_rfl) (by kernel_rfl) Tryd.underlying188 Tryd.underlying93 (by kernel_rfl) (by kernel_rfl) ht
  intro p hp
  simp only [envs, List.mem_singleton] at hp
  subst hp
  unfold Lib.TabIs World.var? at hi
  have hi2 := (congrArg (fun o => Option.bind o _) (by kernel_rfl : Tryd.prog.globalNamed _ = some 5)).symm.trans hi
  simp only [Option.bind_some] at hi2
  split at hi2
  · rename_i cs T fr hcs
    obtain rfl := Option.some.inj hi2
    refine ⟨?_, T, fr, hcs⟩
    rcases Nat.lt_or_ge 5 W.heap.size with hlt | hge
    · exact hlt
    · rw [Array.getElem?_eq_none hge] at hcs; cases hcs
  · cases hi2

abbrev U8 := { n : Int // (Lit.int .u8 n).wf = true }
theorem U8_in (n : U8) : 0 ≤ n.1 ∧ n.1 ≤ 255 := by
  have h := n.2
  simp only [Lit.wf, Bool.and_eq_true, decide_eq_true_eq] at h
  have e1 : IntKind.u8.min = 0 := by decide
  have e2 : IntKind.u8.max = 255 := by decide
  omega
theorem oU8 : Opens Tryd.prog 5 1 (fun n : U8 => [.v (.int .u8 n.1)]) := Opens.int Tryd.underlying5 (by kernel_rfl)
theorem oBytes : Opens Tryd.prog 22 1 (fun l : { l : List U8 // l.length < 2 ^ 63 } => [.sl 1 (l.1.map (fun n : U8 => [.v (.int .u8 n.1)]))]) := Opens.slice Tryd.underlying22 (by kernel_rfl) (by decide) oU8

set_option maxRecDepth 100000 in
theorem reports_door (os : Os) (args : Array Value) : laidMetH Tryd.prog Rows.fnReportsRow.laid ((World.doorLaid Tryd.prog 24 os).forCall (fun _ _ => 0) ⟨#[], args, []⟩).memory :=
  laidMetH_of_parts3 (fuel := 8) (laidMet_of_run' 8 (by kernel_rfl) (by kernel_rfl)) (by kernel_rfl) (by kernel_rfl)

set_option maxRecDepth 100000 in
theorem reports_lifted (os : Os) (started : os.Started) (H : Type) (enc : TypeId × Value → H) :
    ReturnsInHanded {} Tryd.checked os F.laws_FnReports .any (fun w args => (Rows.fnReportsSpec.pre enc Tryd.prog Tryd.f3 Rows.fnReportsRow.domain false w args ∧ laidMetH Tryd.prog Rows.fnReportsRow.laid w) ∧ sizedMet enc Tryd.prog Tryd.f3 (OpenSpec.ofChange Rows.fnReportsSpec) false w args)
      (Rows.fnReportsSpec.post enc Tryd.prog Tryd.f3 false true false false) :=
  law_returns_and (C := Tryd.checked) (X := fun w _ => laidMetH Tryd.prog Rows.fnReportsRow.laid w) (fun _ _ _ hh h => h.of_heap hh) (fun W args h => env_of_laid h) Tryd.own started (by kernel_rfl) Tryd.func3
    (ChangeSpec.witness_shaped (enc := enc) (C := Tryd.checked) (os := os) (X := fun w _ => laidMetH Tryd.prog Rows.fnReportsRow.laid w) false (World.doorLaid Tryd.prog 24 os) #[.slice none 0 0] 8 rfl (World.shaped_of_RefB (by kernel_rfl) (by kernel_rfl)) (by kernel_rfl) (by kernel_rfl) (by kernel_rfl) (reports_door os _))
    Tryd.laidOut (by kernel_rfl) rfl Tryd.underlying4 rfl (fun ds h => by match ds, h with | [_], _ => exact ⟨rfl, rfl, rfl⟩)
    (Args.cons (Arg.slice Tryd.underlying22 oBytes) Args.nil) (fun a => by
      have h := fnReports (a.1.1.map fun n => n.1) (fun x hx => by obtain ⟨n, _, rfl⟩ := List.mem_map.1 hx; exact U8_in n) (by simpa using a.1.2)
      rw [E_map] at h
      exact h)

theorem reports_row : Rows.FnReportsSaid :=
  OpenClaim.holds_of_wide 3 Tryd.f3 rfl rfl rfl rfl rfl rfl rfl ⟨rfl, rfl, rfl, rfl, rfl⟩ rfl rfl rfl rfl rfl (by kernel_rfl) Tryd.func3 (by kernel_rfl)
    (of_decide_eq_true (by kernel_rfl)) (by unfold Func.isWrapper; first | (rw [if_pos (by decide +kernel)]; kernel_rfl) | (rw [if_neg (by decide +kernel)]; exact ⟨rfl, rfl⟩))
    (fun os started H enc _ => reports_lifted os started H enc)

theorem reports_holds : Rows.FnReportsCardSaid :=
  Claim7.holds_tied_plain_at .later [] [.data, .data, .data] true _ true reports_row (fun _ h => by cases h) (by kernel_rfl) (fun _ h => by cases h) fnReports_row_tie rfl ⟨rfl, rfl⟩ (by kernel_rfl) rfl
    (fun f fn hf hfn => by
      obtain rfl : f = 3 := Option.some.inj ((by kernel_rfl : Tryd.prog.funcNamed Rows.fnReportsRow.func = some 3).symm.trans hf) |>.symm
      obtain rfl : fn = Tryd.f3 := (Option.some.inj (Tryd.func3.symm.trans hfn)).symm
      exact ⟨by kernel_rfl, fun j t ht => by
        rw [show Tryd.f3.params = #[22] from rfl] at ht
        have hm : t ∈ [22] := by simpa using Array.mem_of_getElem? ht
        have hall : ([22].all fun u => !Tryd.prog.wantsStandIn u) = true := by kernel_rfl
        exact (show Tryd.prog.wantsStandIn t = false by simpa using List.all_eq_true.1 hall t hm)⟩)
    (by kernel_rfl)
#print axioms reports_holds
end Go.Proofs.YtgeeipfdkamhmaaDoor
