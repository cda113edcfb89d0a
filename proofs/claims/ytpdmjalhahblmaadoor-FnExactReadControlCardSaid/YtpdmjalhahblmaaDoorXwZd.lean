/- The texts of control totals and of faults, as the program gives them and as the reference does. -/
import Derived.Test.YtpdmjalhahblmaaDoorVsB
import Derived.Test.YtpdmjalhahblmaaDoorXuF
import Derived.Test.YtpdmjalhahblmaaDoorXuR
import Derived.Test.YtpdmjalhahblmaaDoorVtO
import Derived.Test.YtpdmjalhahblmaaDoorXwF
import Derived.Test.YtpdmjalhahblmaaDoorXuB
import Derived.Test.YtpdmjalhahblmaaDoorXwA
namespace Go.Proofs.YtpdmjalhahblmaaDoor
open Go.Vs
set_option linter.unusedSectionVars false
variable [Vs.Tab 5 Vs.powP]
set_option linter.unusedSimpArgs false
set_option linter.unusedVariables false
attribute [local irreducible] Vs.Fn
end Go.Proofs.YtpdmjalhahblmaaDoor

namespace Go.Proofs.YtpdmjalhahblmaaDoor
open Go.Vs
set_option linter.unusedSectionVars false
variable [Vs.Tab 5 Vs.powP]
set_option linter.unusedSimpArgs false
set_option linter.unusedVariables false
attribute [local irreducible] Vs.Fn
def cU (n : Int) : List AV := [.v (.int .u8 n)]
theorem numsO_cU : ∀ l : List Int, numsO (E cU l) = some l
  | [] => rfl
  | n :: r => by
    have := numsO_cU r
    simp only [E, List.map_cons, cU, numsO] at this ⊢
    rw [this]
end Go.Proofs.YtpdmjalhahblmaaDoor

namespace Go.Proofs.YtpdmjalhahblmaaDoor
open Go.Vs
set_option linter.unusedSectionVars false
variable [Vs.Tab 5 Vs.powP]
set_option linter.unusedSimpArgs false
set_option linter.unusedVariables false
attribute [local irreducible] Vs.Fn
/-- the decimal form of a number -/
def dcl (n : Int) : ByteArray := ⟨(Lib.itoa n).toArray⟩
theorem nDig_le {n : Nat} (hn : n < 10 ^ 19) : Lib.nDigits n ≤ 19 := by
  have h : ∀ (k m : Nat), m < 10 ^ (k + 1) → Lib.nDigits m ≤ k + 1 := by
    intro k
    induction k with
    | zero => intro m hm; rw [Lib.nDigits_small (by simpa using hm)]; omega
    | succ k ih =>
      intro m hm
      by_cases h : m < 10
      · rw [Lib.nDigits_small h]; omega
      · rw [Lib.nDigits_big h]
        have := ih (m / 10) (by rw [Nat.pow_succ] at hm; omega)
        omega
  exact h 18 n hn
theorem dcl_size {n : Int} (h0 : -9223372036854775808 ≤ n) (h1 : n ≤ 9223372036854775807) : (dcl n).size ≤ 20 := by
  have e : (dcl n).size = (Lib.itoa n).length := by simp [dcl, ByteArray.size]
  rw [e]
  unfold Lib.itoa
  split
  · rw [List.length_cons, Lib.decDigits_length]
    have := nDig_le (n := n.natAbs) (by omega)
    omega
  · rw [Lib.decDigits_length]
    have := nDig_le (n := n.toNat) (by omega)
    omega
/-- the digits of a number, none for nought -/
def dRow (n : Nat) : List Int := if h : n = 0 then [] else dRow (n / 10) ++ [((48 + n % 10 : Nat) : Int)]
termination_by n
decreasing_by omega
theorem dRow_zero : dRow 0 = [] := by rw [dRow, dif_pos rfl]
theorem dRow_pos {n : Nat} (h : n ≠ 0) : dRow n = dRow (n / 10) ++ [((48 + n % 10 : Nat) : Int)] := by rw [dRow, dif_neg h]
theorem dRow_dec : ∀ {n : Nat}, n ≠ 0 → (dRow n).map (fun x => UInt8.ofNat x.toNat) = Lib.decDigits n := by
  intro n
  induction n using Nat.strongRecOn with
  | _ n ih =>
    intro h
    rw [dRow_pos h, Lib.decDigits]
    by_cases hn : n < 10
    · have h0 : n / 10 = 0 := by omega
      have h1 : n % 10 = n := by omega
      rw [dif_pos hn, h0, dRow_zero, h1]
      simp only [List.nil_append, List.map_cons, List.map_nil, Int.toNat_natCast]
    · rw [dif_neg hn, List.map_append, ih (n / 10) (by omega) (by omega)]
      simp only [List.map_cons, List.map_nil, Int.toNat_natCast]
theorem dRow_len {n : Nat} (h : n < 10 ^ 19) : (dRow n).length ≤ 19 := by
  by_cases h0 : n = 0
  · subst h0; rw [dRow_zero]; simp
  · have := congrArg List.length (dRow_dec h0)
    rw [List.length_map, Lib.decDigits_length] at this
    rw [this]; exact nDig_le h
theorem wrap_u8 {n : Int} (h0 : 0 ≤ n) (h1 : n ≤ 255) : IntKind.u8.wrap n = n := by
  simp [IntKind.wrap, IntKind.signed, IntKind.bits]
  omega
theorem strB_dRow {n : Nat} (h : n ≠ 0) : strB (dRow n) = ⟨(Lib.decDigits n).toArray⟩ := by
  rw [strB, dRow_dec h]
theorem formatIntA (n : Int) (h0 : -9223372036854775808 ≤ n) (h1 : n ≤ 9223372036854775807) : Vs.Fn Tryd.prog F.strconv_FormatInt [] [.v (.int .i64 n), .v (.int .i64 10)] (.v (.string (dcl n))) [] := by
  refine Cd.strconv_FormatInt_ok.fn0 Tryd.mixed Cd.strconv_FormatInt_nt Cd.strconv_FormatInt_rs rfl fun X => ?_
  unfold Cd.strconv_FormatInt
  simp -dsimp only [go_sem, reduceIte, reduceCtorEq, Nat.reduceEqDiff, Nat.reduceLT, Nat.reduceLeDiff, Nat.reduceAdd, Nat.reduceMul, Nat.reduceSub, Int.reduceToNat, Int.reduceNeg]
  repeat' (first
    | (refine RgK.mk rfl ?_; simp -dsimp only [go_sem, reduceIte, reduceCtorEq, Nat.reduceEqDiff, Nat.reduceLT, Nat.reduceLeDiff, Nat.reduceAdd, Nat.reduceMul, Nat.reduceSub, Int.reduceToNat, Int.reduceNeg])
    | (refine Br.mk (fun h => ?_) (fun h => ?_) <;> simp -dsimp only [go_sem, reduceIte, reduceCtorEq, Nat.reduceEqDiff, Nat.reduceLT, Nat.reduceLeDiff, Nat.reduceAdd, Nat.reduceMul, Nat.reduceSub, Int.reduceToNat, Int.reduceNeg, h])
    | (refine CallK.flat (by first | exact formatInt n h0 h1) rfl ?_; simp -dsimp only [go_sem, reduceIte, reduceCtorEq, Nat.reduceEqDiff, Nat.reduceLT, Nat.reduceLeDiff, Nat.reduceAdd, Nat.reduceMul, Nat.reduceSub, Int.reduceToNat, Int.reduceNeg])
    | (refine CallK.pure (by first | exact formatInt n h0 h1) ?_; simp -dsimp only [go_sem, reduceIte, reduceCtorEq, Nat.reduceEqDiff, Nat.reduceLT, Nat.reduceLeDiff, Nat.reduceAdd, Nat.reduceMul, Nat.reduceSub, Int.reduceToNat, Int.reduceNeg])
    | (refine And.intro (by first | rfl | omega | decide | (refine ⟨?_, ?_⟩ <;> (first | rfl | omega | decide)) | (refine ⟨?_, ?_, ?_⟩ <;> (first | rfl | omega | decide)) | (refine ⟨?_, ?_, ?_, ?_⟩ <;> (first | rfl | omega | decide))) ?_)
    | fail)
  all_goals (simp_all [dcl])

theorem decimalA (n : Int) (h0 : -9223372036854775808 ≤ n) (h1 : n ≤ 9223372036854775807) : Vs.Fn Tryd.prog F.impl_Decimal [] [.v (.int .i64 n)] (.v (.string (dcl n))) [] := by
  refine Cd.impl_Decimal_ok.fn0 Tryd.mixed Cd.impl_Decimal_nt Cd.impl_Decimal_rs rfl fun X => ?_
  unfold Cd.impl_Decimal
  simp -dsimp only [go_sem, reduceIte, reduceCtorEq, Nat.reduceEqDiff, Nat.reduceLT, Nat.reduceLeDiff, Nat.reduceAdd, Nat.reduceMul, Nat.reduceSub, Int.reduceToNat, Int.reduceNeg]
  repeat' (first
    | (refine RgK.mk rfl ?_; simp -dsimp only [go_sem, reduceIte, reduceCtorEq, Nat.reduceEqDiff, Nat.reduceLT, Nat.reduceLeDiff, Nat.reduceAdd, Nat.reduceMul, Nat.reduceSub, Int.reduceToNat, Int.reduceNeg])
    | (refine Br.mk (fun h => ?_) (fun h => ?_) <;> simp -dsimp only [go_sem, reduceIte, reduceCtorEq, Nat.reduceEqDiff, Nat.reduceLT, Nat.reduceLeDiff, Nat.reduceAdd, Nat.reduceMul, Nat.reduceSub, Int.reduceToNat, Int.reduceNeg, h])
    | (refine CallK.flat (by first | exact formatIntA n h0 h1) rfl ?_; simp -dsimp only [go_sem, reduceIte, reduceCtorEq, Nat.reduceEqDiff, Nat.reduceLT, Nat.reduceLeDiff, Nat.reduceAdd, Nat.reduceMul, Nat.reduceSub, Int.reduceToNat, Int.reduceNeg])
    | (refine CallK.pure (by first | exact formatIntA n h0 h1) ?_; simp -dsimp only [go_sem, reduceIte, reduceCtorEq, Nat.reduceEqDiff, Nat.reduceLT, Nat.reduceLeDiff, Nat.reduceAdd, Nat.reduceMul, Nat.reduceSub, Int.reduceToNat, Int.reduceNeg])
    | (refine And.intro (by first | rfl | omega | decide | (refine ⟨?_, ?_⟩ <;> (first | rfl | omega | decide)) | (refine ⟨?_, ?_, ?_⟩ <;> (first | rfl | omega | decide)) | (refine ⟨?_, ?_, ?_, ?_⟩ <;> (first | rfl | omega | decide))) ?_)
    | fail)
  all_goals (simp_all)

set_option maxHeartbeats 1000000 in
theorem l01Dec (n : Int) (h0 : -9223372036854775808 ≤ n) (h1 : n ≤ 9223372036854775807) : Vs.Fn Tryd.prog F.spec_l01Dec [] [.v (.int .i64 n)] (.v (.string (dcl n))) [] := by
  have hU : ∀ x : Int, [[AV.v (.int .u8 x)]] = E cU [x] := fun _ => rfl
  rcases Int.lt_or_le n 0 with hn | hn
  · refine Cd.spec_l01Dec_ok.fn0 Tryd.mixed Cd.spec_l01Dec_nt Cd.spec_l01Dec_rs rfl fun X => ?_
    unfold Cd.spec_l01Dec
    simp -dsimp only [go_sem, reduceIte, reduceCtorEq, Nat.reduceEqDiff, Nat.reduceLT, Nat.reduceLeDiff, Nat.reduceAdd, Nat.reduceMul, Nat.reduceSub, Int.reduceToNat, Int.reduceNeg]
    refine ⟨⟨by omega, by omega⟩, rfl, ?_⟩
    refine LoopK.at (drawn_ok Tryd.mixed) (X := { zz : Nat × List Int // zz.1 ≤ n.natAbs ∧ dRow zz.1 ++ zz.2 = dRow n.natAbs }) (fun zz => [(3, .sl 1 (E cU zz.1.2)), (4, .v (.int .i64 (-(zz.1.1 : Int))))]) (fun _ => []) (fun zz => zz.1.1) ⟨(n.natAbs, []), by dsimp only; omega, by simp⟩ ?_ ?_
    · simp [Vs.LeL, Vs.look, Vs.hlook, Vs.sput, Vs.sputs, Vs.hset, Vs.hputs, E]; omega
    · rintro ⟨⟨m, acc⟩, hm, hg⟩
      dsimp only at hm hg
      simp -dsimp only [go_sem, reduceIte, reduceCtorEq, Nat.reduceEqDiff, Nat.reduceLT, Nat.reduceLeDiff, Nat.reduceAdd, Nat.reduceMul, Nat.reduceSub, Int.reduceToNat, Int.reduceNeg]
      refine Br.mk (fun hc => ?_) fun hc => ?_
      · have hpos : m ≠ 0 := by simp at hc; omega
        rw [dRow_pos hpos, List.append_assoc] at hg
        have hlen := dRow_len (n := n.natAbs) (by omega)
        have hl2 := congrArg List.length hg
        simp only [List.length_append, List.length_cons, List.length_nil] at hl2
        have q1 : (-(m : Int)).tmod 10 = -((m % 10 : Nat) : Int) := by rw [Int.neg_tmod, Int.tmod_eq_emod_of_nonneg (by omega)]; omega
        have q2 : IntKind.i64.wrap ((-(m : Int)).tdiv 10) = -((m / 10 : Nat) : Int) := by rw [Int.neg_tdiv, Int.tdiv_eq_ediv_of_nonneg (by omega), wrap_in (by omega) (by omega)]; omega
        have q3 : IntKind.i64.wrap (0 - -((m % 10 : Nat) : Int)) = ((m % 10 : Nat) : Int) := by rw [wrap_in (by omega) (by omega)]; omega
        have q3' : IntKind.i64.wrap (-(-((m % 10 : Nat) : Int))) = ((m % 10 : Nat) : Int) := by rw [wrap_in (by omega) (by omega)]; omega
        have q4 : IntKind.i64.wrap (48 + ((m % 10 : Nat) : Int)) = ((48 + m % 10 : Nat) : Int) := by rw [wrap_in (by omega) (by omega)]; omega
        have q5 : IntKind.u8.wrap ((48 + m % 10 : Nat) : Int) = ((48 + m % 10 : Nat) : Int) := wrap_u8 (by omega) (by omega)
        have q6 : ∀ h : decide (-((m % 10 : Nat) : Int) < 0) = false, IntKind.i64.wrap (48 + -((m % 10 : Nat) : Int)) = ((48 + m % 10 : Nat) : Int) := fun h => by
          have : ¬ (-((m % 10 : Nat) : Int) < 0) := by simpa using h
          rw [wrap_in (by omega) (by omega)]; omega
        rcases hd : decide (-((m % 10 : Nat) : Int) < 0)
        · have q6 := q6 hd
          simp -dsimp only [go_sem, reduceIte, reduceCtorEq, Nat.reduceEqDiff, Nat.reduceLT, Nat.reduceLeDiff, Nat.reduceAdd, Nat.reduceMul, Nat.reduceSub, Int.reduceToNat, Int.reduceNeg, q1, q2, q4, q5, hd, hU, List.replicate_succ, List.replicate_zero, List.flatten_cons, List.flatten_nil, q6]
          repeat' (first
            | (refine RgK.mk rfl ?_; simp -dsimp only [go_sem, reduceIte, reduceCtorEq, Nat.reduceEqDiff, Nat.reduceLT, Nat.reduceLeDiff, Nat.reduceAdd, Nat.reduceMul, Nat.reduceSub, Int.reduceToNat, Int.reduceNeg, q1, q2, q4, q5, hd, hU, List.replicate_succ, List.replicate_zero, List.flatten_cons, List.flatten_nil, q6])
            | (refine Br.mk (fun h => ?_) (fun h => ?_) <;> simp -dsimp only [go_sem, reduceIte, reduceCtorEq, Nat.reduceEqDiff, Nat.reduceLT, Nat.reduceLeDiff, Nat.reduceAdd, Nat.reduceMul, Nat.reduceSub, Int.reduceToNat, Int.reduceNeg, h, q1, q2, q4, q5, hd, hU, List.replicate_succ, List.replicate_zero, List.flatten_cons, List.flatten_nil, q6])
            | (refine And.intro (by first | rfl | omega | decide | (refine ⟨?_, ?_⟩ <;> (first | rfl | omega | decide)) | (refine ⟨?_, ?_, ?_⟩ <;> (first | rfl | omega | decide)) | (refine ⟨?_, ?_, ?_, ?_⟩ <;> (first | rfl | omega | decide))) ?_)
            | fail)
          all_goals (exact ⟨⟨(m / 10, ((48 + m % 10 : Nat) : Int) :: acc), by dsimp only; omega, by simpa using hg⟩, by simp [Vs.LeL, Vs.look, Vs.hlook, Vs.sput, Vs.sputs, Vs.hset, Vs.hputs, E, cU], by simp only; omega⟩)
        · simp -dsimp only [go_sem, reduceIte, reduceCtorEq, Nat.reduceEqDiff, Nat.reduceLT, Nat.reduceLeDiff, Nat.reduceAdd, Nat.reduceMul, Nat.reduceSub, Int.reduceToNat, Int.reduceNeg, q1, q2, q4, q5, hd, hU, List.replicate_succ, List.replicate_zero, List.flatten_cons, List.flatten_nil, q3, q3']
          repeat' (first
            | (refine RgK.mk rfl ?_; simp -dsimp only [go_sem, reduceIte, reduceCtorEq, Nat.reduceEqDiff, Nat.reduceLT, Nat.reduceLeDiff, Nat.reduceAdd, Nat.reduceMul, Nat.reduceSub, Int.reduceToNat, Int.reduceNeg, q1, q2, q4, q5, hd, hU, List.replicate_succ, List.replicate_zero, List.flatten_cons, List.flatten_nil, q3, q3'])
            | (refine Br.mk (fun h => ?_) (fun h => ?_) <;> simp -dsimp only [go_sem, reduceIte, reduceCtorEq, Nat.reduceEqDiff, Nat.reduceLT, Nat.reduceLeDiff, Nat.reduceAdd, Nat.reduceMul, Nat.reduceSub, Int.reduceToNat, Int.reduceNeg, h, q1, q2, q4, q5, hd, hU, List.replicate_succ, List.replicate_zero, List.flatten_cons, List.flatten_nil, q3, q3'])
            | (refine And.intro (by first | rfl | omega | decide | (refine ⟨?_, ?_⟩ <;> (first | rfl | omega | decide)) | (refine ⟨?_, ?_, ?_⟩ <;> (first | rfl | omega | decide)) | (refine ⟨?_, ?_, ?_, ?_⟩ <;> (first | rfl | omega | decide))) ?_)
            | fail)
          all_goals (exact ⟨⟨(m / 10, ((48 + m % 10 : Nat) : Int) :: acc), by dsimp only; omega, by simpa using hg⟩, by simp [Vs.LeL, Vs.look, Vs.hlook, Vs.sput, Vs.sputs, Vs.hset, Vs.hputs, E, cU], by simp only; omega⟩)
      · have hz : m = 0 := by simp at hc; omega
        subst hz
        rw [dRow_zero, List.nil_append] at hg
        subst hg
        have hlen := dRow_len (n := n.natAbs) (by omega)
        have hne : n.natAbs ≠ 0 := by omega
        have hlp : (dRow n.natAbs).length ≠ 0 := by rw [dRow_pos hne]; simp
        have g1 : (((dRow n.natAbs).length : Int) == 0) = false := beq_eq_false_iff_ne.2 (by omega)
        have g2 : decide (n < 0) = true := decide_eq_true hn
        have g3 : (⟨#[45]⟩ : ByteArray) ++ strB (dRow n.natAbs) = dcl n := by
          rw [strB_dRow hne, dcl, Lib.itoa, if_pos hn]
          apply ByteArray.ext
          simp
        have g4 : (strB (dRow n.natAbs)).size ≤ 20 := by simp [strB, ByteArray.size]; omega
        simp -dsimp only [go_sem, reduceIte, reduceCtorEq, Nat.reduceEqDiff, Nat.reduceLT, Nat.reduceLeDiff, Nat.reduceAdd, Nat.reduceMul, Nat.reduceSub, Int.reduceToNat, Int.reduceNeg, g1, g2, g3, E_len, numsO_cU]
        exact ⟨⟨by simp only [List.size_toArray, List.length_cons, List.length_nil]; omega, ret_eq rfl⟩, fun h => h rfl⟩
  · refine Cd.spec_l01Dec_ok.fn0 Tryd.mixed Cd.spec_l01Dec_nt Cd.spec_l01Dec_rs rfl fun X => ?_
    unfold Cd.spec_l01Dec
    simp -dsimp only [go_sem, reduceIte, reduceCtorEq, Nat.reduceEqDiff, Nat.reduceLT, Nat.reduceLeDiff, Nat.reduceAdd, Nat.reduceMul, Nat.reduceSub, Int.reduceToNat, Int.reduceNeg]
    refine ⟨⟨by omega, by omega⟩, rfl, ?_⟩
    refine LoopK.at (drawn_ok Tryd.mixed) (X := { zz : Nat × List Int // zz.1 ≤ n.natAbs ∧ dRow zz.1 ++ zz.2 = dRow n.natAbs }) (fun zz => [(3, .sl 1 (E cU zz.1.2)), (4, .v (.int .i64 (zz.1.1 : Int)))]) (fun _ => []) (fun zz => zz.1.1) ⟨(n.natAbs, []), by dsimp only; omega, by simp⟩ ?_ ?_
    · simp [Vs.LeL, Vs.look, Vs.hlook, Vs.sput, Vs.sputs, Vs.hset, Vs.hputs, E]; omega
    · rintro ⟨⟨m, acc⟩, hm, hg⟩
      dsimp only at hm hg
      simp -dsimp only [go_sem, reduceIte, reduceCtorEq, Nat.reduceEqDiff, Nat.reduceLT, Nat.reduceLeDiff, Nat.reduceAdd, Nat.reduceMul, Nat.reduceSub, Int.reduceToNat, Int.reduceNeg]
      refine Br.mk (fun hc => ?_) fun hc => ?_
      · have hpos : m ≠ 0 := by simp at hc; omega
        rw [dRow_pos hpos, List.append_assoc] at hg
        have hlen := dRow_len (n := n.natAbs) (by omega)
        have hl2 := congrArg List.length hg
        simp only [List.length_append, List.length_cons, List.length_nil] at hl2
        have q1 : ((m : Int)).tmod 10 = ((m % 10 : Nat) : Int) := by rw [Int.tmod_eq_emod_of_nonneg (by omega)]; omega
        have q2 : IntKind.i64.wrap (((m : Int)).tdiv 10) = ((m / 10 : Nat) : Int) := by rw [Int.tdiv_eq_ediv_of_nonneg (by omega), wrap_in (by omega) (by omega)]; omega
        have q4 : IntKind.i64.wrap (48 + ((m % 10 : Nat) : Int)) = ((48 + m % 10 : Nat) : Int) := by rw [wrap_in (by omega) (by omega)]; omega
        have q5 : IntKind.u8.wrap ((48 + m % 10 : Nat) : Int) = ((48 + m % 10 : Nat) : Int) := wrap_u8 (by omega) (by omega)
        have hd : decide (((m % 10 : Nat) : Int) < 0) = false := decide_eq_false (by omega)
        simp -dsimp only [go_sem, reduceIte, reduceCtorEq, Nat.reduceEqDiff, Nat.reduceLT, Nat.reduceLeDiff, Nat.reduceAdd, Nat.reduceMul, Nat.reduceSub, Int.reduceToNat, Int.reduceNeg, q1, q2, q4, q5, hd, hU, List.replicate_succ, List.replicate_zero, List.flatten_cons, List.flatten_nil]
        repeat' (first
          | (refine RgK.mk rfl ?_; simp -dsimp only [go_sem, reduceIte, reduceCtorEq, Nat.reduceEqDiff, Nat.reduceLT, Nat.reduceLeDiff, Nat.reduceAdd, Nat.reduceMul, Nat.reduceSub, Int.reduceToNat, Int.reduceNeg, q1, q2, q4, q5, hd, hU, List.replicate_succ, List.replicate_zero, List.flatten_cons, List.flatten_nil])
          | (refine Br.mk (fun h => ?_) (fun h => ?_) <;> simp -dsimp only [go_sem, reduceIte, reduceCtorEq, Nat.reduceEqDiff, Nat.reduceLT, Nat.reduceLeDiff, Nat.reduceAdd, Nat.reduceMul, Nat.reduceSub, Int.reduceToNat, Int.reduceNeg, h, q1, q2, q4, q5, hd, hU, List.replicate_succ, List.replicate_zero, List.flatten_cons, List.flatten_nil])
          | (refine And.intro (by first | rfl | omega | decide | (refine ⟨?_, ?_⟩ <;> (first | rfl | omega | decide)) | (refine ⟨?_, ?_, ?_⟩ <;> (first | rfl | omega | decide)) | (refine ⟨?_, ?_, ?_, ?_⟩ <;> (first | rfl | omega | decide))) ?_)
          | fail)
        all_goals (exact ⟨⟨(m / 10, ((48 + m % 10 : Nat) : Int) :: acc), by dsimp only; omega, by simpa using hg⟩, by simp [Vs.LeL, Vs.look, Vs.hlook, Vs.sput, Vs.sputs, Vs.hset, Vs.hputs, E, cU], by simp only; omega⟩)
      · have hz : m = 0 := by simp at hc; omega
        subst hz
        rw [dRow_zero, List.nil_append] at hg
        subst hg
        have hlen := dRow_len (n := n.natAbs) (by omega)
        by_cases h00 : n = 0
        · subst h00
          have g1 : (((dRow (0 : Int).natAbs).length : Int) == 0) = true := by rw [show (0 : Int).natAbs = 0 from rfl, dRow_zero]; rfl
          have g3 : dcl 0 = ⟨#[48]⟩ := by
            rw [dcl, Lib.itoa, if_neg (by omega), show (0 : Int).toNat = 0 from rfl, Lib.decDigits_one (by omega)]
            rfl
          simp -dsimp only [go_sem, reduceIte, reduceCtorEq, Nat.reduceEqDiff, Nat.reduceLT, Nat.reduceLeDiff, Nat.reduceAdd, Nat.reduceMul, Nat.reduceSub, Int.reduceToNat, Int.reduceNeg, g1, E_len]
          exact ⟨ret_eq (by rw [g3]), fun h => h rfl⟩
        · have hne : n.natAbs ≠ 0 := by omega
          have hlp : (dRow n.natAbs).length ≠ 0 := by rw [dRow_pos hne]; simp
          have g1 : (((dRow n.natAbs).length : Int) == 0) = false := beq_eq_false_iff_ne.2 (by omega)
          have g2 : decide (n < 0) = false := decide_eq_false (by omega)
          have g3 : strB (dRow n.natAbs) = dcl n := by
            rw [strB_dRow hne, dcl, Lib.itoa, if_neg (by omega), show n.toNat = n.natAbs by omega]
          simp -dsimp only [go_sem, reduceIte, reduceCtorEq, Nat.reduceEqDiff, Nat.reduceLT, Nat.reduceLeDiff, Nat.reduceAdd, Nat.reduceMul, Nat.reduceSub, Int.reduceToNat, Int.reduceNeg, g1, g2, g3, E_len, numsO_cU]
          exact ⟨ret_eq rfl, fun h => h rfl⟩
end Go.Proofs.YtpdmjalhahblmaaDoor

namespace Go.Proofs.YtpdmjalhahblmaaDoor
open Go.Vs
set_option linter.unusedSectionVars false
variable [Vs.Tab 5 Vs.powP]
set_option linter.unusedSimpArgs false
set_option linter.unusedVariables false
attribute [local irreducible] Vs.Fn
theorem bsz (a : Array UInt8) : (ByteArray.mk a).size = a.size := rfl
theorem okC_rng {a b c : Int} (h : okC a b c = true) : (0 ≤ a ∧ a ≤ 1000000) ∧ (-1000000000000000 ≤ b ∧ b ≤ 1000000000000000) ∧ (0 ≤ c ∧ c ≤ 1000000000) := by
  simp only [okC, inB, Bool.and_eq_true, decide_eq_true_eq] at h
  omega
/-- control totals in words -/
def ctX (a b c : Int) : ByteArray := dcl a ++ ⟨#[32, 99, 97, 114, 100, 115, 32]⟩ ++ dcl b ++ ⟨#[32, 115, 117, 109, 32]⟩ ++ dcl c ++ ⟨#[32, 100, 105, 103, 105, 116, 115]⟩
def ctT (a b c : Int) : ByteArray := if okC a b c then ctX a b c else ⟨#[]⟩
theorem impl_ControlText (a b c : Int) : Vs.Fn Tryd.prog F.impl_ControlText [] [.agg [.v (.int .i64 a), .v (.int .i64 b), .v (.int .i64 c)]] (.v (.string (ctT a b c))) [] := by
  cases hk : okC a b c
  · have hT : ctT a b c = ⟨#[]⟩ := by simp [ctT, hk]
    rw [hT]
    refine Cd.impl_ControlText_ok.fn0 Tryd.mixed Cd.impl_ControlText_nt Cd.impl_ControlText_rs rfl fun X => ?_
    unfold Cd.impl_ControlText
    simp -dsimp only [go_sem, reduceIte, reduceCtorEq, Nat.reduceEqDiff, Nat.reduceLT, Nat.reduceLeDiff, Nat.reduceAdd, Nat.reduceMul, Nat.reduceSub, Int.reduceToNat, Int.reduceNeg, hk]
    repeat' (first
      | (refine RgK.mk rfl ?_; simp -dsimp only [go_sem, reduceIte, reduceCtorEq, Nat.reduceEqDiff, Nat.reduceLT, Nat.reduceLeDiff, Nat.reduceAdd, Nat.reduceMul, Nat.reduceSub, Int.reduceToNat, Int.reduceNeg, hk])
      | (refine Br.mk (fun h => ?_) (fun h => ?_) <;> simp -dsimp only [go_sem, reduceIte, reduceCtorEq, Nat.reduceEqDiff, Nat.reduceLT, Nat.reduceLeDiff, Nat.reduceAdd, Nat.reduceMul, Nat.reduceSub, Int.reduceToNat, Int.reduceNeg, h, hk])
      | (refine CallK.flat (by first | exact isPlainControl a b c) rfl ?_; simp -dsimp only [go_sem, reduceIte, reduceCtorEq, Nat.reduceEqDiff, Nat.reduceLT, Nat.reduceLeDiff, Nat.reduceAdd, Nat.reduceMul, Nat.reduceSub, Int.reduceToNat, Int.reduceNeg, hk])
      | (refine CallK.pure (by first | exact isPlainControl a b c) ?_; simp -dsimp only [go_sem, reduceIte, reduceCtorEq, Nat.reduceEqDiff, Nat.reduceLT, Nat.reduceLeDiff, Nat.reduceAdd, Nat.reduceMul, Nat.reduceSub, Int.reduceToNat, Int.reduceNeg, hk])
      | (refine And.intro (by first | rfl | omega | decide | (refine ⟨?_, ?_⟩ <;> (first | rfl | omega | decide)) | (refine ⟨?_, ?_, ?_⟩ <;> (first | rfl | omega | decide)) | (refine ⟨?_, ?_, ?_, ?_⟩ <;> (first | rfl | omega | decide))) ?_)
      | fail)
    all_goals exact ret_eq rfl
  · have hT : ctT a b c = ctX a b c := by simp [ctT, hk]
    rw [hT]
    obtain ⟨⟨ha0, ha1⟩, ⟨hb0, hb1⟩, hc0, hc1⟩ := okC_rng hk
    have da := dcl_size (n := a) (by omega) (by omega)
    have db := dcl_size (n := b) (by omega) (by omega)
    have dc := dcl_size (n := c) (by omega) (by omega)
    refine Cd.impl_ControlText_ok.fn0 Tryd.mixed Cd.impl_ControlText_nt Cd.impl_ControlText_rs rfl fun X => ?_
    unfold Cd.impl_ControlText
    simp -dsimp only [go_sem, reduceIte, reduceCtorEq, Nat.reduceEqDiff, Nat.reduceLT, Nat.reduceLeDiff, Nat.reduceAdd, Nat.reduceMul, Nat.reduceSub, Int.reduceToNat, Int.reduceNeg, hk]
    repeat' (first
      | (refine RgK.mk rfl ?_; simp -dsimp only [go_sem, reduceIte, reduceCtorEq, Nat.reduceEqDiff, Nat.reduceLT, Nat.reduceLeDiff, Nat.reduceAdd, Nat.reduceMul, Nat.reduceSub, Int.reduceToNat, Int.reduceNeg, hk])
      | (refine Br.mk (fun h => ?_) (fun h => ?_) <;> simp -dsimp only [go_sem, reduceIte, reduceCtorEq, Nat.reduceEqDiff, Nat.reduceLT, Nat.reduceLeDiff, Nat.reduceAdd, Nat.reduceMul, Nat.reduceSub, Int.reduceToNat, Int.reduceNeg, h, hk])
      | (refine CallK.flat (by first | exact isPlainControl a b c | exact decimalA a (by omega) (by omega) | exact decimalA b (by omega) (by omega) | exact decimalA c (by omega) (by omega)) rfl ?_; simp -dsimp only [go_sem, reduceIte, reduceCtorEq, Nat.reduceEqDiff, Nat.reduceLT, Nat.reduceLeDiff, Nat.reduceAdd, Nat.reduceMul, Nat.reduceSub, Int.reduceToNat, Int.reduceNeg, hk])
      | (refine CallK.pure (by first | exact isPlainControl a b c | exact decimalA a (by omega) (by omega) | exact decimalA b (by omega) (by omega) | exact decimalA c (by omega) (by omega)) ?_; simp -dsimp only [go_sem, reduceIte, reduceCtorEq, Nat.reduceEqDiff, Nat.reduceLT, Nat.reduceLeDiff, Nat.reduceAdd, Nat.reduceMul, Nat.reduceSub, Int.reduceToNat, Int.reduceNeg, hk])
      | (refine And.intro (by first | rfl | omega | decide | exact (by simp only [ByteArray.size_append, bsz, List.size_toArray, List.length_cons, List.length_nil]; omega) | (refine ⟨?_, ?_⟩ <;> (first | rfl | omega | decide | exact (by simp only [ByteArray.size_append, bsz, List.size_toArray, List.length_cons, List.length_nil]; omega))) | (refine ⟨?_, ?_, ?_⟩ <;> (first | rfl | omega | decide | exact (by simp only [ByteArray.size_append, bsz, List.size_toArray, List.length_cons, List.length_nil]; omega))) | (refine ⟨?_, ?_, ?_, ?_⟩ <;> (first | rfl | omega | decide | exact (by simp only [ByteArray.size_append, bsz, List.size_toArray, List.length_cons, List.length_nil]; omega)))) ?_)
      | fail)
    all_goals exact ret_eq rfl
end Go.Proofs.YtpdmjalhahblmaaDoor
