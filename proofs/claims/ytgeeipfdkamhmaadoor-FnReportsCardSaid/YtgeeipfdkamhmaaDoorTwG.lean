/- The sum of a number's digits; reports. -/
import Derived.Test.YtgeeipfdkamhmaaDoorTwA
import Derived.Test.YtgeeipfdkamhmaaDoorFtR
import Derived.Test.YtgeeipfdkamhmaaDoorTrydShelf
namespace Go.Proofs.YtgeeipfdkamhmaaDoor
open Go.Vs
set_option linter.unusedSimpArgs false
set_option linter.unusedVariables false
attribute [local irreducible] Vs.Fn
theorem formatInt (n : Int) (h0 : -9223372036854775808 ≤ n) (h1 : n ≤ 9223372036854775807) : Vs.Fn Tryd.prog F.internal_strconv_FormatInt [] [.v (.int .i64 n), .v (.int .i64 10)] (.v (.string ⟨(Lib.itoa n).toArray⟩)) [] := by
  refine Fn.of_ext ⟨Tryd.f145, _, Tryd.func145, rfl, by decide⟩ fun S w vs henv hsz hv => ?_
  have e0 : vs.getD 0 undef = .int .i64 n := inv_v (hv 0 (by simp))
  have e1 : vs.getD 1 undef = .int .i64 10 := inv_v (hv 1 (by simp))
  have hvs : vs = #[.int .i64 n, .int .i64 10] := by
    apply Array.ext (by simpa using hsz)
    intro i hi hi2
    simp at hi2 hsz
    have hi3 : i = 0 ∨ i = 1 := by omega
    rcases hi3 with rfl | rfl
    · simpa [Array.getD, hsz] using e0
    · simpa [Array.getD, hsz] using e1
  subst hvs
  refine (Any.internal_strconv_FormatInt_10 Tryd.laysM246 n h0 h1 w (by
    obtain ⟨_, T, fr, hcells⟩ := henv _ (List.mem_cons_self ..)
    unfold Lib.TabIs World.var?
    refine (congrArg (fun o => Option.bind o _) (by kernel_rfl : Tryd.prog.globalNamed _ = some 5)).trans ?_
    simp only [Option.bind_some]
    dsimp only at hcells
    rw [hcells])).mono ?_
  rintro e w' ⟨rfl, k, os, rfl⟩
  exact ⟨_, rfl, .v _, ext_grow w k os⟩
end Go.Proofs.YtgeeipfdkamhmaaDoor

namespace Go.Proofs.YtgeeipfdkamhmaaDoor
open Go.Vs
set_option linter.unusedSimpArgs false
set_option linter.unusedVariables false
attribute [local irreducible] Vs.Fn
theorem W_nat {n : Nat} (h : n < 2 ^ 63) : W n = n := wrap_in (by omega) (by omega)
theorem wl_nat {n : Nat} (h : n < 2 ^ 63) (k : Nat) : wl (k + 1) n = ((n % 10 : Nat) : Int) :: wl k ((n / 10 : Nat) : Int) := by
  have h1 : ((n : Int)).tmod 10 = ((n % 10 : Nat) : Int) := by rw [Int.tmod_eq_emod_of_nonneg (by omega)]; omega
  have h2 : ((n : Int)).tdiv 10 = ((n / 10 : Nat) : Int) := by rw [Int.tdiv_eq_ediv_of_nonneg (by omega)]; omega
  rw [wl, h1, h2, W_nat (by omega)]
theorem wl_sum : ∀ (k n : Nat), n < 10 ^ k → n < 2 ^ 63 → sumL (wl k n) = dsN n ∧ ∀ x, x ∈ wl k (n : Int) → 0 ≤ x ∧ x ≤ 9
  | 0, n, h, _ => by
    have : n = 0 := by simpa using h
    subst this
    simp [wl, sumL, dsN_zero]
  | k + 1, n, h, h63 => by
    rw [Nat.pow_succ] at h
    obtain ⟨h1, h2⟩ := wl_sum k (n / 10) (by omega) (by omega)
    rw [wl_nat h63, sumL, h1, dsN_any n]
    refine ⟨by omega, fun x hx => ?_⟩
    rcases List.mem_cons.1 hx with rfl | hx
    · omega
    · exact h2 x hx
theorem absOf (n : Int) (h0 : -9223372036854775807 ≤ n) (h1 : n ≤ 9223372036854775807) : Vs.Fn Tryd.prog F.impl_absOf [] [.v (.int .i64 n)] (.v (.int .i64 n.natAbs)) [] := by
  have hw : IntKind.i64.wrap (0 - n) = -n := by rw [wrap_in (by omega) (by omega)]; omega
  refine Cd.impl_absOf_ok.fn0 Tryd.mixed Cd.impl_absOf_nt Cd.impl_absOf_rs rfl fun X => ?_
  unfold Cd.impl_absOf
  simp -dsimp only [go_sem, reduceIte, reduceCtorEq, Nat.reduceEqDiff, Nat.reduceLT, Nat.reduceLeDiff, Nat.reduceAdd, Nat.reduceMul, Nat.reduceSub, Int.reduceToNat, Int.reduceNeg]
  refine ret_eq ?_
  simp only [hw, AV.v.injEq, Value.int.injEq, true_and]
  split <;> omega
theorem formatInt1 (n : Int) (h0 : -9223372036854775807 ≤ n) (h1 : n ≤ 9223372036854775807) : Vs.Fn Tryd.prog F.strconv_FormatInt [] [.v (.int .i64 n), .v (.int .i64 10)] (.v (.string ⟨(Lib.itoa n).toArray⟩)) [] := by
  refine Cd.strconv_FormatInt_ok.fn0 Tryd.mixed Cd.strconv_FormatInt_nt Cd.strconv_FormatInt_rs rfl fun X => ?_
  unfold Cd.strconv_FormatInt
  simp -dsimp only [go_sem, reduceIte, reduceCtorEq, Nat.reduceEqDiff, Nat.reduceLT, Nat.reduceLeDiff, Nat.reduceAdd, Nat.reduceMul, Nat.reduceSub, Int.reduceToNat, Int.reduceNeg]
  repeat' (first
    | (refine RgK.mk rfl ?_; simp -dsimp only [go_sem, reduceIte, reduceCtorEq, Nat.reduceEqDiff, Nat.reduceLT, Nat.reduceLeDiff, Nat.reduceAdd, Nat.reduceMul, Nat.reduceSub, Int.reduceToNat, Int.reduceNeg])
    | (refine Br.mk (fun h => ?_) (fun h => ?_) <;> simp -dsimp only [go_sem, reduceIte, reduceCtorEq, Nat.reduceEqDiff, Nat.reduceLT, Nat.reduceLeDiff, Nat.reduceAdd, Nat.reduceMul, Nat.reduceSub, Int.reduceToNat, Int.reduceNeg, h])
    | (refine CallK.flat (by first | exact formatInt n (by omega) h1) rfl ?_; simp -dsimp only [go_sem, reduceIte, reduceCtorEq, Nat.reduceEqDiff, Nat.reduceLT, Nat.reduceLeDiff, Nat.reduceAdd, Nat.reduceMul, Nat.reduceSub, Int.reduceToNat, Int.reduceNeg])
    | (refine CallK.pure (by first | exact formatInt n (by omega) h1) ?_; simp -dsimp only [go_sem, reduceIte, reduceCtorEq, Nat.reduceEqDiff, Nat.reduceLT, Nat.reduceLeDiff, Nat.reduceAdd, Nat.reduceMul, Nat.reduceSub, Int.reduceToNat, Int.reduceNeg])
    | (refine And.intro (by first | rfl | omega | decide | (refine ⟨?_, ?_⟩ <;> (first | rfl | omega | decide)) | (refine ⟨?_, ?_, ?_⟩ <;> (first | rfl | omega | decide)) | (refine ⟨?_, ?_, ?_, ?_⟩ <;> (first | rfl | omega | decide))) ?_)
    | fail)
  all_goals (simp_all)

theorem decimal (n : Int) (h0 : -9223372036854775807 ≤ n) (h1 : n ≤ 9223372036854775807) : Vs.Fn Tryd.prog F.impl_Decimal [] [.v (.int .i64 n)] (.v (.string ⟨(Lib.itoa n).toArray⟩)) [] := by
  refine Cd.impl_Decimal_ok.fn0 Tryd.mixed Cd.impl_Decimal_nt Cd.impl_Decimal_rs rfl fun X => ?_
  unfold Cd.impl_Decimal
  simp -dsimp only [go_sem, reduceIte, reduceCtorEq, Nat.reduceEqDiff, Nat.reduceLT, Nat.reduceLeDiff, Nat.reduceAdd, Nat.reduceMul, Nat.reduceSub, Int.reduceToNat, Int.reduceNeg]
  repeat' (first
    | (refine RgK.mk rfl ?_; simp -dsimp only [go_sem, reduceIte, reduceCtorEq, Nat.reduceEqDiff, Nat.reduceLT, Nat.reduceLeDiff, Nat.reduceAdd, Nat.reduceMul, Nat.reduceSub, Int.reduceToNat, Int.reduceNeg])
    | (refine Br.mk (fun h => ?_) (fun h => ?_) <;> simp -dsimp only [go_sem, reduceIte, reduceCtorEq, Nat.reduceEqDiff, Nat.reduceLT, Nat.reduceLeDiff, Nat.reduceAdd, Nat.reduceMul, Nat.reduceSub, Int.reduceToNat, Int.reduceNeg, h])
    | (refine CallK.flat (by first | exact formatInt1 n h0 h1) rfl ?_; simp -dsimp only [go_sem, reduceIte, reduceCtorEq, Nat.reduceEqDiff, Nat.reduceLT, Nat.reduceLeDiff, Nat.reduceAdd, Nat.reduceMul, Nat.reduceSub, Int.reduceToNat, Int.reduceNeg])
    | (refine CallK.pure (by first | exact formatInt1 n h0 h1) ?_; simp -dsimp only [go_sem, reduceIte, reduceCtorEq, Nat.reduceEqDiff, Nat.reduceLT, Nat.reduceLeDiff, Nat.reduceAdd, Nat.reduceMul, Nat.reduceSub, Int.reduceToNat, Int.reduceNeg])
    | (refine And.intro (by first | rfl | omega | decide | (refine ⟨?_, ?_⟩ <;> (first | rfl | omega | decide)) | (refine ⟨?_, ?_, ?_⟩ <;> (first | rfl | omega | decide)) | (refine ⟨?_, ?_, ?_, ?_⟩ <;> (first | rfl | omega | decide))) ?_)
    | fail)
  all_goals (simp_all)

theorem digitsOf (n : Nat) (hn : n < 2 ^ 63) : Vs.Fn Tryd.prog F.impl_digitsOf [] [.v (.int .i64 (n : Int))] (.v (.int .i64 (Lib.nDigits n : Nat))) [] := by
  refine Cd.impl_digitsOf_ok.fn0 Tryd.mixed Cd.impl_digitsOf_nt Cd.impl_digitsOf_rs rfl fun X => ?_
  unfold Cd.impl_digitsOf
  simp -dsimp only [go_sem, reduceIte, reduceCtorEq, Nat.reduceEqDiff, Nat.reduceLT, Nat.reduceLeDiff, Nat.reduceAdd, Nat.reduceMul, Nat.reduceSub, Int.reduceToNat, Int.reduceNeg]
  repeat' (first
    | (refine RgK.mk rfl ?_; simp -dsimp only [go_sem, reduceIte, reduceCtorEq, Nat.reduceEqDiff, Nat.reduceLT, Nat.reduceLeDiff, Nat.reduceAdd, Nat.reduceMul, Nat.reduceSub, Int.reduceToNat, Int.reduceNeg])
    | (refine Br.mk (fun h => ?_) (fun h => ?_) <;> simp -dsimp only [go_sem, reduceIte, reduceCtorEq, Nat.reduceEqDiff, Nat.reduceLT, Nat.reduceLeDiff, Nat.reduceAdd, Nat.reduceMul, Nat.reduceSub, Int.reduceToNat, Int.reduceNeg, h])
    | (refine CallK.flat (by first | exact decimal _ (by omega) (by omega)) rfl ?_; simp -dsimp only [go_sem, reduceIte, reduceCtorEq, Nat.reduceEqDiff, Nat.reduceLT, Nat.reduceLeDiff, Nat.reduceAdd, Nat.reduceMul, Nat.reduceSub, Int.reduceToNat, Int.reduceNeg])
    | (refine CallK.pure (by first | exact decimal _ (by omega) (by omega)) ?_; simp -dsimp only [go_sem, reduceIte, reduceCtorEq, Nat.reduceEqDiff, Nat.reduceLT, Nat.reduceLeDiff, Nat.reduceAdd, Nat.reduceMul, Nat.reduceSub, Int.reduceToNat, Int.reduceNeg])
    | (refine And.intro (by first | rfl | omega | decide | (refine ⟨?_, ?_⟩ <;> (first | rfl | omega | decide)) | (refine ⟨?_, ?_, ?_⟩ <;> (first | rfl | omega | decide)) | (refine ⟨?_, ?_, ?_, ?_⟩ <;> (first | rfl | omega | decide))) ?_)
    | fail)
  all_goals ((refine ret_eq ?_; simp [ByteArray.size, Lib.itoa_nonneg, Lib.decDigits_length]))

theorem nDigits_le {n : Nat} (hn : n < 2 ^ 63) : Lib.nDigits n ≤ 19 := by
  have h : ∀ (k m : Nat), m < 10 ^ (k + 1) → Lib.nDigits m ≤ k + 1 := by
    intro k
    induction k with
    | zero => intro m hm; rw [Lib.nDigits_small (by simpa using hm)]; omega
    | succ k ih =>
      intro m hm
      by_cases h : m < 10
      · rw [Lib.nDigits_small h]; omega
      · rw [Lib.nDigits_big h]
        have := ih (m / 10) (by rw [Nat.pow_succ] at hm; omega)
        omega
  exact h 18 n (by omega)
theorem digitList (n : Int) (h0 : -9223372036854775807 ≤ n) (h1 : n ≤ 9223372036854775807) : Vs.Fn Tryd.prog F.impl_digitList [] [.v (.int .i64 n)] (.sl 1 (E cI (wl (Lib.nDigits n.natAbs) n.natAbs))) [] := by
  refine Cd.impl_digitList_ok.fn0 Tryd.mixed Cd.impl_digitList_nt Cd.impl_digitList_rs rfl fun X => ?_
  unfold Cd.impl_digitList
  simp -dsimp only [go_sem, reduceIte, reduceCtorEq, Nat.reduceEqDiff, Nat.reduceLT, Nat.reduceLeDiff, Nat.reduceAdd, Nat.reduceMul, Nat.reduceSub, Int.reduceToNat, Int.reduceNeg]
  repeat' (first
    | (refine RgK.mk rfl ?_; simp -dsimp only [go_sem, reduceIte, reduceCtorEq, Nat.reduceEqDiff, Nat.reduceLT, Nat.reduceLeDiff, Nat.reduceAdd, Nat.reduceMul, Nat.reduceSub, Int.reduceToNat, Int.reduceNeg])
    | (refine Br.mk (fun h => ?_) (fun h => ?_) <;> simp -dsimp only [go_sem, reduceIte, reduceCtorEq, Nat.reduceEqDiff, Nat.reduceLT, Nat.reduceLeDiff, Nat.reduceAdd, Nat.reduceMul, Nat.reduceSub, Int.reduceToNat, Int.reduceNeg, h])
    | (refine CallK.flat (by first | exact absOf n h0 h1 | exact digitsOf n.natAbs (by omega) | exact wheelsShow (Lib.nDigits n.natAbs) _ (by have := nDigits_le (n := n.natAbs) (by omega); omega)) rfl ?_; simp -dsimp only [go_sem, reduceIte, reduceCtorEq, Nat.reduceEqDiff, Nat.reduceLT, Nat.reduceLeDiff, Nat.reduceAdd, Nat.reduceMul, Nat.reduceSub, Int.reduceToNat, Int.reduceNeg])
    | (refine CallK.pure (by first | exact absOf n h0 h1 | exact digitsOf n.natAbs (by omega) | exact wheelsShow (Lib.nDigits n.natAbs) _ (by have := nDigits_le (n := n.natAbs) (by omega); omega)) ?_; simp -dsimp only [go_sem, reduceIte, reduceCtorEq, Nat.reduceEqDiff, Nat.reduceLT, Nat.reduceLeDiff, Nat.reduceAdd, Nat.reduceMul, Nat.reduceSub, Int.reduceToNat, Int.reduceNeg])
    | (refine And.intro (by first | rfl | omega | decide | (refine ⟨?_, ?_⟩ <;> (first | rfl | omega | decide)) | (refine ⟨?_, ?_, ?_⟩ <;> (first | rfl | omega | decide)) | (refine ⟨?_, ?_, ?_, ?_⟩ <;> (first | rfl | omega | decide))) ?_)
    | fail)
  all_goals (exact ⟨_, _, rfl, rfl⟩)

theorem digitSum (n : Int) (h0 : -9223372036854775807 ≤ n) (h1 : n ≤ 9223372036854775807) : Vs.Fn Tryd.prog F.impl_digitSum [] [.v (.int .i64 n)] (.v (.int .i64 (dsN n.natAbs))) [] := by
  have hk := nDigits_le (n := n.natAbs) (by omega)
  obtain ⟨hsum, hdig⟩ := wl_sum (Lib.nDigits n.natAbs) n.natAbs (Lib.lt_pow_nDigits _) (by omega)
  have hlen := wl_length (Lib.nDigits n.natAbs) n.natAbs
  have hds := dsN_le n.natAbs
  refine Cd.impl_digitSum_ok.fn0 Tryd.mixed Cd.impl_digitSum_nt Cd.impl_digitSum_rs rfl fun X => ?_
  unfold Cd.impl_digitSum
  simp -dsimp only [go_sem, reduceIte, reduceCtorEq, Nat.reduceEqDiff, Nat.reduceLT, Nat.reduceLeDiff, Nat.reduceAdd, Nat.reduceMul, Nat.reduceSub, Int.reduceToNat, Int.reduceNeg]
  refine CallK.pure (digitList n h0 h1) ?_
  generalize wl (Lib.nDigits n.natAbs) n.natAbs = l at *
  simp -dsimp only [go_sem, reduceIte, reduceCtorEq, Nat.reduceEqDiff, Nat.reduceLT, Nat.reduceLeDiff, Nat.reduceAdd, Nat.reduceMul, Nat.reduceSub, Int.reduceToNat, Int.reduceNeg]
  refine LoopK.at (drawn_ok Tryd.mixed) (X := { zz : Nat × (Int) // zz.1 ≤ l.length ∧ 0 ≤ zz.2 ∧ zz.2 + sumL (l.drop zz.1) = sumL l }) (fun zz => [(3, .v (.int .i64 zz.1.2)), (9, .v (.int .i64 zz.1.1))]) (fun zz => []) (fun zz => l.length - zz.1.1) ⟨(0, 0), by omega, by simp⟩ ?_ ?_
  · simp [Vs.LeL, Vs.look, Vs.hlook, Vs.sput, Vs.sputs, Vs.hset, Vs.hputs]
  · rintro ⟨⟨i, a⟩, hi, hg⟩
    dsimp only at hi hg
    simp -dsimp only [go_sem, reduceIte, reduceCtorEq, Nat.reduceEqDiff, Nat.reduceLT, Nat.reduceLeDiff, Nat.reduceAdd, Nat.reduceMul, Nat.reduceSub, Int.reduceToNat, Int.reduceNeg]
    refine Br.mk (fun hc => ?_) fun hc => ?_
    · have hlt : i < l.length := by first | (simpa using hc) | (simp at hc; omega)
      have hw := wrap_succ hlt (by omega)
      have hx := hdig _ (List.getElem_mem hlt)
      have hnn := sumL_dropN (fun x hx => (hdig x hx).1) (i + 1) (l := l)
      rw [sumL_drop hlt] at hg
      have hwa : IntKind.i64.wrap (a + l[i]) = a + l[i] := wrap_in (by omega) (by omega)
      simp -dsimp only [go_sem, reduceIte, reduceCtorEq, Nat.reduceEqDiff, Nat.reduceLT, Nat.reduceLeDiff, Nat.reduceAdd, Nat.reduceMul, Nat.reduceSub, Int.reduceToNat, Int.reduceNeg, cI_get hlt]
      refine ⟨⟨by omega, by omega⟩, ?_⟩
      simp -dsimp only [go_sem, reduceIte, reduceCtorEq, Nat.reduceEqDiff, Nat.reduceLT, Nat.reduceLeDiff, Nat.reduceAdd, Nat.reduceMul, Nat.reduceSub, Int.reduceToNat, Int.reduceNeg, hw, hwa]
      exact ⟨⟨(i + 1, a + l[i]), by first | omega | simp | exact ⟨by omega, by omega⟩, ⟨by dsimp only; omega, by dsimp only; omega⟩⟩, by simp [Vs.LeL, Vs.look, Vs.hlook, Vs.sput, Vs.sputs, Vs.hset, Vs.hputs], by simp only; omega⟩
    · have hge : i = l.length := by
        have : ¬ i < l.length := by first | (simpa using hc) | (simp at hc; omega)
        omega
      subst hge
      simp -dsimp only [go_sem, reduceIte, reduceCtorEq, Nat.reduceEqDiff, Nat.reduceLT, Nat.reduceLeDiff, Nat.reduceAdd, Nat.reduceMul, Nat.reduceSub, Int.reduceToNat, Int.reduceNeg]
      have : a = dsN n.natAbs := by
        have := hg.2
        rw [List.drop_length, sumL, hsum] at this
        omega
      simp [this]
end Go.Proofs.YtgeeipfdkamhmaaDoor
