/- Numbers that are read, and faults. -/
import Derived.Test.YtokfhfdnmnblfaaYuF
import Derived.Test.YtokfhfdnmnblfaaYuR
import Derived.Test.YtokfhfdnmnblfaaVtN
import Derived.Test.YtokfhfdnmnblfaaVtK
namespace Go.Proofs.Ytokfhfdnmnblfaa
open Go.Vs
set_option linter.unusedSectionVars false
variable [Vs.Envs]
set_option linter.unusedSimpArgs false
set_option linter.unusedVariables false
attribute [local irreducible] Vs.Fn chOK areCh chTo chAt l03
theorem inB_lo {r a b : Int} (h : inB r a b = true) : a ≤ r := by
  simp only [inB, Bool.and_eq_true, decide_eq_true_eq] at h; omega
def bitR3 (r : Int) : Int := if r = 12 then 1 else if r = 11 then 2 else if inB r 0 9 then W (4 * 2 ^ (min r.toNat 64)) else 0
def cdP (n : Int) : Int × Bool :=
  if n = 32 then (0, true) else if n = 38 then (bitR3 12, true) else if n = 45 then (bitR3 11, true) else if isDig n then (bitR3 (W (IntKind.u8.wrap (n - 48))), true)
  else if btw n 65 73 then (orI (bitR3 12) (bitR3 (W (W (IntKind.u8.wrap (n - 65)) + 1))), true) else if btw n 74 82 then (orI (bitR3 11) (bitR3 (W (W (IntKind.u8.wrap (n - 74)) + 1))), true)
  else if n = 47 then (orI (bitR3 0) (bitR3 1), true) else if btw n 83 90 then (orI (bitR3 0) (bitR3 (W (W (IntKind.u8.wrap (n - 83)) + 2))), true) else (0, false)
theorem bitOfR (r : Int) : Vs.Fn Try.prog F.impl_bitOf [] [.v (.int .i64 r)] (.v (.int .i64 (bitR3 r))) [] := by
  refine Cd.impl_bitOf_ok.fn0 Try.mixed Cd.impl_bitOf_nt Cd.impl_bitOf_rs rfl fun X => ?_
  unfold Cd.impl_bitOf
  simp -dsimp only [go_sem, reduceIte, reduceCtorEq, Nat.reduceEqDiff, Nat.reduceLT, Nat.reduceLeDiff, Nat.reduceAdd, Nat.reduceMul, Nat.reduceSub, Int.reduceToNat, Int.reduceNeg]
  repeat' (first
    | (refine RgK.mk rfl ?_; simp -dsimp only [go_sem, reduceIte, reduceCtorEq, Nat.reduceEqDiff, Nat.reduceLT, Nat.reduceLeDiff, Nat.reduceAdd, Nat.reduceMul, Nat.reduceSub, Int.reduceToNat, Int.reduceNeg])
    | (refine Br.mk (fun h => ?_) (fun h => ?_) <;> simp -dsimp only [go_sem, reduceIte, reduceCtorEq, Nat.reduceEqDiff, Nat.reduceLT, Nat.reduceLeDiff, Nat.reduceAdd, Nat.reduceMul, Nat.reduceSub, Int.reduceToNat, Int.reduceNeg, h])
    | (refine CallK.flat (by first | exact inside _ _ _) rfl ?_; simp -dsimp only [go_sem, reduceIte, reduceCtorEq, Nat.reduceEqDiff, Nat.reduceLT, Nat.reduceLeDiff, Nat.reduceAdd, Nat.reduceMul, Nat.reduceSub, Int.reduceToNat, Int.reduceNeg])
    | (refine CallK.pure (by first | exact inside _ _ _) ?_; simp -dsimp only [go_sem, reduceIte, reduceCtorEq, Nat.reduceEqDiff, Nat.reduceLT, Nat.reduceLeDiff, Nat.reduceAdd, Nat.reduceMul, Nat.reduceSub, Int.reduceToNat, Int.reduceNeg])
    | (refine And.intro (by first | rfl | omega | decide | exact inB_lo (by assumption) | (refine ⟨?_, ?_⟩ <;> (first | rfl | omega | decide | exact inB_lo (by assumption))) | (refine ⟨?_, ?_, ?_⟩ <;> (first | rfl | omega | decide | exact inB_lo (by assumption))) | (refine ⟨?_, ?_, ?_, ?_⟩ <;> (first | rfl | omega | decide | exact inB_lo (by assumption)))) ?_)
    | fail)
  all_goals (simp_all [bitR3, IntKind.bits])

theorem isDigit (n : Int) : Vs.Fn Try.prog F.impl_isDigit [] [.v (.int .u8 n)] (.v (.bool (isDig n))) [] := by
  refine Cd.impl_isDigit_ok.fn0 Try.mixed Cd.impl_isDigit_nt Cd.impl_isDigit_rs rfl fun X => ?_
  unfold Cd.impl_isDigit
  simp -dsimp only [go_sem, reduceIte, reduceCtorEq, Nat.reduceEqDiff, Nat.reduceLT, Nat.reduceLeDiff, Nat.reduceAdd, Nat.reduceMul, Nat.reduceSub, Int.reduceToNat, Int.reduceNeg]
  repeat' (first
    | (refine RgK.mk rfl ?_; simp -dsimp only [go_sem, reduceIte, reduceCtorEq, Nat.reduceEqDiff, Nat.reduceLT, Nat.reduceLeDiff, Nat.reduceAdd, Nat.reduceMul, Nat.reduceSub, Int.reduceToNat, Int.reduceNeg])
    | (refine Br.mk (fun h => ?_) (fun h => ?_) <;> simp -dsimp only [go_sem, reduceIte, reduceCtorEq, Nat.reduceEqDiff, Nat.reduceLT, Nat.reduceLeDiff, Nat.reduceAdd, Nat.reduceMul, Nat.reduceSub, Int.reduceToNat, Int.reduceNeg, h])
    | (refine And.intro (by first | rfl | omega | decide | (refine ⟨?_, ?_⟩ <;> (first | rfl | omega | decide)) | (refine ⟨?_, ?_, ?_⟩ <;> (first | rfl | omega | decide)) | (refine ⟨?_, ?_, ?_, ?_⟩ <;> (first | rfl | omega | decide))) ?_)
    | fail)
  all_goals (first | (simp_all [isDig]; done) | (simp_all [isDig]; omega))

set_option maxHeartbeats 1000000 in
theorem CodeOf (n : Int) : Vs.Fn Try.prog F.impl_CodeOf [] [.v (.int .u8 n)] (.tup [.v (.int .i64 (cdP n).1), .v (.bool (cdP n).2)]) [] := by
  refine Cd.impl_CodeOf_ok.fn0 Try.mixed Cd.impl_CodeOf_nt Cd.impl_CodeOf_rs rfl fun X => ?_
  unfold Cd.impl_CodeOf
  simp -dsimp only [go_sem, reduceIte, reduceCtorEq, Nat.reduceEqDiff, Nat.reduceLT, Nat.reduceLeDiff, Nat.reduceAdd, Nat.reduceMul, Nat.reduceSub, Int.reduceToNat, Int.reduceNeg]
  repeat' (first
    | (refine RgK.mk rfl ?_; simp -dsimp only [go_sem, reduceIte, reduceCtorEq, Nat.reduceEqDiff, Nat.reduceLT, Nat.reduceLeDiff, Nat.reduceAdd, Nat.reduceMul, Nat.reduceSub, Int.reduceToNat, Int.reduceNeg])
    | (refine Br.mk (fun h => ?_) (fun h => ?_) <;> simp -dsimp only [go_sem, reduceIte, reduceCtorEq, Nat.reduceEqDiff, Nat.reduceLT, Nat.reduceLeDiff, Nat.reduceAdd, Nat.reduceMul, Nat.reduceSub, Int.reduceToNat, Int.reduceNeg, h])
    | (refine CallK.flat (by first | exact bitOfR _ | exact isDigit _) rfl ?_; simp -dsimp only [go_sem, reduceIte, reduceCtorEq, Nat.reduceEqDiff, Nat.reduceLT, Nat.reduceLeDiff, Nat.reduceAdd, Nat.reduceMul, Nat.reduceSub, Int.reduceToNat, Int.reduceNeg])
    | (refine CallK.pure (by first | exact bitOfR _ | exact isDigit _) ?_; simp -dsimp only [go_sem, reduceIte, reduceCtorEq, Nat.reduceEqDiff, Nat.reduceLT, Nat.reduceLeDiff, Nat.reduceAdd, Nat.reduceMul, Nat.reduceSub, Int.reduceToNat, Int.reduceNeg])
    | (refine And.intro (by first | rfl | omega | decide | (refine ⟨?_, ?_⟩ <;> (first | rfl | omega | decide)) | (refine ⟨?_, ?_, ?_⟩ <;> (first | rfl | omega | decide)) | (refine ⟨?_, ?_, ?_, ?_⟩ <;> (first | rfl | omega | decide))) ?_)
    | fail)
  all_goals (first | (simp_all [cdP, btw, orI]; done) | (refine ret_eq ?_; grind [cdP, btw, orI]))

def cd3 (n : Int) : Int := (cdP n).1
theorem codeOf (n : Int) : Vs.Fn Try.prog F.impl_codeOf [] [.v (.int .u8 n)] (.v (.int .i64 (cd3 n))) [] := by
  refine Cd.impl_codeOf_ok.fn0 Try.mixed Cd.impl_codeOf_nt Cd.impl_codeOf_rs rfl fun X => ?_
  unfold Cd.impl_codeOf
  simp -dsimp only [go_sem, reduceIte, reduceCtorEq, Nat.reduceEqDiff, Nat.reduceLT, Nat.reduceLeDiff, Nat.reduceAdd, Nat.reduceMul, Nat.reduceSub, Int.reduceToNat, Int.reduceNeg]
  repeat' (first
    | (refine RgK.mk rfl ?_; simp -dsimp only [go_sem, reduceIte, reduceCtorEq, Nat.reduceEqDiff, Nat.reduceLT, Nat.reduceLeDiff, Nat.reduceAdd, Nat.reduceMul, Nat.reduceSub, Int.reduceToNat, Int.reduceNeg])
    | (refine Br.mk (fun h => ?_) (fun h => ?_) <;> simp -dsimp only [go_sem, reduceIte, reduceCtorEq, Nat.reduceEqDiff, Nat.reduceLT, Nat.reduceLeDiff, Nat.reduceAdd, Nat.reduceMul, Nat.reduceSub, Int.reduceToNat, Int.reduceNeg, h])
    | (refine CallK.flat (by first | exact CodeOf _) rfl ?_; simp -dsimp only [go_sem, reduceIte, reduceCtorEq, Nat.reduceEqDiff, Nat.reduceLT, Nat.reduceLeDiff, Nat.reduceAdd, Nat.reduceMul, Nat.reduceSub, Int.reduceToNat, Int.reduceNeg])
    | (refine CallK.pure (by first | exact CodeOf _) ?_; simp -dsimp only [go_sem, reduceIte, reduceCtorEq, Nat.reduceEqDiff, Nat.reduceLT, Nat.reduceLeDiff, Nat.reduceAdd, Nat.reduceMul, Nat.reduceSub, Int.reduceToNat, Int.reduceNeg])
    | (refine And.intro (by first | rfl | omega | decide | (refine ⟨?_, ?_⟩ <;> (first | rfl | omega | decide)) | (refine ⟨?_, ?_, ?_⟩ <;> (first | rfl | omega | decide)) | (refine ⟨?_, ?_, ?_, ?_⟩ <;> (first | rfl | omega | decide))) ?_)
    | fail)
  all_goals (simp_all [cd3])


def chB (i : Nat) : Nat := (CH.data.toList.getD i 0).toNat
set_option maxRecDepth 100000 in
theorem chB_all : ∀ i : Nat, i < 40 → cd3 (chB i) = l03 (chB i) ∧ 0 ≤ l03 (chB i) := by decide +kernel
/-- the rank of a column from a place on -/
def rkF (m : Int) : Nat → Nat → Int
  | 0, _ => -1
  | k + 1, i => if l03 (chB i) = m then i else rkF m k (i + 1)
/-- the rank of a column, -1 if it has no character -/
def rk (m : Int) : Int := rkF m 40 0
theorem rkF_step (m : Int) {i : Nat} (h : i < 40) : rkF m (40 - i) i = if l03 (chB i) = m then (i : Int) else rkF m (40 - (i + 1)) (i + 1) := by
  rw [show 40 - i = (40 - (i + 1)) + 1 by omega, rkF]
theorem rkF_in (m : Int) : ∀ (k i : Nat), k + i = 40 → -1 ≤ rkF m k i ∧ rkF m k i < 40 ∧ (0 ≤ rkF m k i → l03 (chB (rkF m k i).toNat) = m)
  | 0, _, _ => by simp [rkF]
  | k + 1, i, h => by
    rw [rkF]
    split
    · rename_i h1
      exact ⟨by omega, by omega, fun _ => by simpa using h1⟩
    · exact rkF_in m k (i + 1) (by omega)
theorem rk_in (m : Int) : -1 ≤ rk m ∧ rk m < 40 := ⟨(rkF_in m 40 0 rfl).1, (rkF_in m 40 0 rfl).2.1⟩
theorem rk_code {m : Int} (h : 0 ≤ rk m) : l03 (chB (rk m).toNat) = m := (rkF_in m 40 0 rfl).2.2 h
theorem rk_inj {a b : Int} (h : 0 ≤ rk a) (he : rk a = rk b) : a = b := by
  rw [← rk_code h, he, rk_code (he ▸ h)]
theorem chL (i : Nat) : (([32, 38, 65, 66, 67, 68, 69, 70, 71, 72, 73, 45, 74, 75, 76, 77, 78, 79, 80, 81, 82, 47, 83, 84, 85, 86, 87, 88, 89, 90, 48, 49, 50, 51, 52, 53, 54, 55, 56, 57] : List UInt8).getD i 0).toNat = chB i := rfl
theorem chS : (⟨#[32, 38, 65, 66, 67, 68, 69, 70, 71, 72, 73, 45, 74, 75, 76, 77, 78, 79, 80, 81, 82, 47, 83, 84, 85, 86, 87, 88, 89, 90, 48, 49, 50, 51, 52, 53, 54, 55, 56, 57]⟩ : ByteArray).size = 40 := rfl
attribute [local irreducible] chB rk cd3
theorem rankOf (m : Int) : Vs.Fn Try.prog F.impl_rankOf [] [.v (.int .i64 m)] (.v (.int .i64 (rk m))) [] := by
  refine Cd.impl_rankOf_ok.fn0 Try.mixed Cd.impl_rankOf_nt Cd.impl_rankOf_rs rfl fun X => ?_
  unfold Cd.impl_rankOf
  simp -dsimp only [go_sem, reduceIte, reduceCtorEq, Nat.reduceEqDiff, Nat.reduceLT, Nat.reduceLeDiff, Nat.reduceAdd, Nat.reduceMul, Nat.reduceSub, Int.reduceToNat, Int.reduceNeg]
  refine LoopK.at (drawn_ok Try.mixed) (X := { zz : Nat × (Unit) // zz.1 ≤ 40 ∧ rkF m (40 - zz.1) zz.1 = rk m }) (fun zz => [(3, .v (.int .i64 zz.1.1))]) (fun zz => []) (fun zz => 40 - zz.1.1) ⟨(0, ()), by omega, by unfold rk; rfl⟩ ?_ ?_
  · simp [Vs.LeL, Vs.look, Vs.hlook, Vs.sput, Vs.sputs, Vs.hset, Vs.hputs]
  · rintro ⟨⟨i, _⟩, hi, hg⟩
    dsimp only at hi hg
    simp -dsimp only [go_sem, reduceIte, reduceCtorEq, Nat.reduceEqDiff, Nat.reduceLT, Nat.reduceLeDiff, Nat.reduceAdd, Nat.reduceMul, Nat.reduceSub, Int.reduceToNat, Int.reduceNeg]
    refine Br.mk (fun hc => ?_) fun hc => ?_
    · have hlt : i < 40 := by first | (simpa using hc) | (simp at hc; omega)
      have hw := wrap_succ hlt (by omega)
      rw [rkF_step m hlt] at hg
      have hcb := (chB_all i hlt).1
      by_cases hz : l03 (chB i) = m
      · have ez : (l03 (chB i) == m) = true := beq_iff_eq.2 hz
        rw [if_pos hz] at hg
        simp -dsimp only [go_sem, reduceIte, reduceCtorEq, Nat.reduceEqDiff, Nat.reduceLT, Nat.reduceLeDiff, Nat.reduceAdd, Nat.reduceMul, Nat.reduceSub, Int.reduceToNat, Int.reduceNeg, hw, chL, chS, hcb, ez]
        repeat' (first
          | (refine RgK.mk rfl ?_; simp -dsimp only [go_sem, reduceIte, reduceCtorEq, Nat.reduceEqDiff, Nat.reduceLT, Nat.reduceLeDiff, Nat.reduceAdd, Nat.reduceMul, Nat.reduceSub, Int.reduceToNat, Int.reduceNeg, hw, chL, chS, hcb, ez])
          | (refine Br.mk (fun h => ?_) (fun h => ?_) <;> simp -dsimp only [go_sem, reduceIte, reduceCtorEq, Nat.reduceEqDiff, Nat.reduceLT, Nat.reduceLeDiff, Nat.reduceAdd, Nat.reduceMul, Nat.reduceSub, Int.reduceToNat, Int.reduceNeg, h, hw, chL, chS, hcb, ez])
          | (refine CallK.flat (by first | exact codeOf _) rfl ?_; simp -dsimp only [go_sem, reduceIte, reduceCtorEq, Nat.reduceEqDiff, Nat.reduceLT, Nat.reduceLeDiff, Nat.reduceAdd, Nat.reduceMul, Nat.reduceSub, Int.reduceToNat, Int.reduceNeg, hw, chL, chS, hcb, ez])
          | (refine CallK.pure (by first | exact codeOf _) ?_; simp -dsimp only [go_sem, reduceIte, reduceCtorEq, Nat.reduceEqDiff, Nat.reduceLT, Nat.reduceLeDiff, Nat.reduceAdd, Nat.reduceMul, Nat.reduceSub, Int.reduceToNat, Int.reduceNeg, hw, chL, chS, hcb, ez])
          | (refine And.intro (by first | rfl | omega | decide | (refine ⟨?_, ?_⟩ <;> (first | rfl | omega | decide)) | (refine ⟨?_, ?_, ?_⟩ <;> (first | rfl | omega | decide)) | (refine ⟨?_, ?_, ?_, ?_⟩ <;> (first | rfl | omega | decide))) ?_)
          | fail)

        all_goals simp [← hg]
      · have ez : (l03 (chB i) == m) = false := beq_eq_false_iff_ne.2 hz
        rw [if_neg hz] at hg
        simp -dsimp only [go_sem, reduceIte, reduceCtorEq, Nat.reduceEqDiff, Nat.reduceLT, Nat.reduceLeDiff, Nat.reduceAdd, Nat.reduceMul, Nat.reduceSub, Int.reduceToNat, Int.reduceNeg, hw, chL, chS, hcb, ez]
        repeat' (first
          | (refine RgK.mk rfl ?_; simp -dsimp only [go_sem, reduceIte, reduceCtorEq, Nat.reduceEqDiff, Nat.reduceLT, Nat.reduceLeDiff, Nat.reduceAdd, Nat.reduceMul, Nat.reduceSub, Int.reduceToNat, Int.reduceNeg, hw, chL, chS, hcb, ez])
          | (refine Br.mk (fun h => ?_) (fun h => ?_) <;> simp -dsimp only [go_sem, reduceIte, reduceCtorEq, Nat.reduceEqDiff, Nat.reduceLT, Nat.reduceLeDiff, Nat.reduceAdd, Nat.reduceMul, Nat.reduceSub, Int.reduceToNat, Int.reduceNeg, h, hw, chL, chS, hcb, ez])
          | (refine CallK.flat (by first | exact codeOf _) rfl ?_; simp -dsimp only [go_sem, reduceIte, reduceCtorEq, Nat.reduceEqDiff, Nat.reduceLT, Nat.reduceLeDiff, Nat.reduceAdd, Nat.reduceMul, Nat.reduceSub, Int.reduceToNat, Int.reduceNeg, hw, chL, chS, hcb, ez])
          | (refine CallK.pure (by first | exact codeOf _) ?_; simp -dsimp only [go_sem, reduceIte, reduceCtorEq, Nat.reduceEqDiff, Nat.reduceLT, Nat.reduceLeDiff, Nat.reduceAdd, Nat.reduceMul, Nat.reduceSub, Int.reduceToNat, Int.reduceNeg, hw, chL, chS, hcb, ez])
          | (refine And.intro (by first | rfl | omega | decide | (refine ⟨?_, ?_⟩ <;> (first | rfl | omega | decide)) | (refine ⟨?_, ?_, ?_⟩ <;> (first | rfl | omega | decide)) | (refine ⟨?_, ?_, ?_, ?_⟩ <;> (first | rfl | omega | decide))) ?_)
          | fail)

        all_goals (exact ⟨⟨(i + 1, ()), by first | omega | simp | exact ⟨by omega, by omega⟩, hg⟩, by simp [Vs.LeL, Vs.look, Vs.hlook, Vs.sput, Vs.sputs, Vs.hset, Vs.hputs], by simp only; omega⟩)
    · have hge : i = 40 := by
        have : ¬ i < 40 := by first | (simpa using hc) | (simp at hc; omega)
        omega
      subst hge
      simp -dsimp only [go_sem, reduceIte, reduceCtorEq, Nat.reduceEqDiff, Nat.reduceLT, Nat.reduceLeDiff, Nat.reduceAdd, Nat.reduceMul, Nat.reduceSub, Int.reduceToNat, Int.reduceNeg]
      have : rk m = -1 := by rw [← hg]; rfl
      simp [this]
end Go.Proofs.Ytokfhfdnmnblfaa

namespace Go.Proofs.Ytokfhfdnmnblfaa
open Go.Vs
set_option linter.unusedSectionVars false
variable [Vs.Envs]
set_option linter.unusedSimpArgs false
set_option linter.unusedVariables false
attribute [local irreducible] Vs.Fn chOK areCh chTo chAt l03 chB rk cd3
def cU (n : Int) : List AV := [.v (.int .u8 n)]
theorem numsO_cU : ∀ l : List Int, numsO (E cU l) = some l
  | [] => rfl
  | n :: r => by
    have := numsO_cU r
    simp only [E, List.map_cons, cU, numsO] at this ⊢
    rw [this]
/-- the byte of a column that has a character -/
def chI (m : Int) : Int := (chB (rk m).toNat : Int)
def txt (l : List Int) : ByteArray := strB (l.map chI)
def hasCh (l : List Int) : Bool := l.all fun m => decide (0 ≤ rk m)
theorem chB_lt : ∀ i : Nat, i < 40 → chB i < 256 := fun i _ => by unfold chB; exact UInt8.toNat_lt _
theorem hasChar1 (m : Int) : Vs.Fn Try.prog F.impl_hasCharacters_1 [] [.v (.int .i64 m)] (.v (.bool (decide (rk m < 0)))) [] := by
  refine Cd.impl_hasCharacters_1_ok.fn0 Try.mixed Cd.impl_hasCharacters_1_nt Cd.impl_hasCharacters_1_rs rfl fun X => ?_
  unfold Cd.impl_hasCharacters_1
  simp -dsimp only [go_sem, reduceIte, reduceCtorEq, Nat.reduceEqDiff, Nat.reduceLT, Nat.reduceLeDiff, Nat.reduceAdd, Nat.reduceMul, Nat.reduceSub, Int.reduceToNat, Int.reduceNeg]
  repeat' (first
    | (refine RgK.mk rfl ?_; simp -dsimp only [go_sem, reduceIte, reduceCtorEq, Nat.reduceEqDiff, Nat.reduceLT, Nat.reduceLeDiff, Nat.reduceAdd, Nat.reduceMul, Nat.reduceSub, Int.reduceToNat, Int.reduceNeg])
    | (refine Br.mk (fun h => ?_) (fun h => ?_) <;> simp -dsimp only [go_sem, reduceIte, reduceCtorEq, Nat.reduceEqDiff, Nat.reduceLT, Nat.reduceLeDiff, Nat.reduceAdd, Nat.reduceMul, Nat.reduceSub, Int.reduceToNat, Int.reduceNeg, h])
    | (refine CallK.flat (by first | exact rankOf _) rfl ?_; simp -dsimp only [go_sem, reduceIte, reduceCtorEq, Nat.reduceEqDiff, Nat.reduceLT, Nat.reduceLeDiff, Nat.reduceAdd, Nat.reduceMul, Nat.reduceSub, Int.reduceToNat, Int.reduceNeg])
    | (refine CallK.pure (by first | exact rankOf _) ?_; simp -dsimp only [go_sem, reduceIte, reduceCtorEq, Nat.reduceEqDiff, Nat.reduceLT, Nat.reduceLeDiff, Nat.reduceAdd, Nat.reduceMul, Nat.reduceSub, Int.reduceToNat, Int.reduceNeg])
    | (refine And.intro (by first | rfl | omega | decide | (refine ⟨?_, ?_⟩ <;> (first | rfl | omega | decide)) | (refine ⟨?_, ?_, ?_⟩ <;> (first | rfl | omega | decide)) | (refine ⟨?_, ?_, ?_, ?_⟩ <;> (first | rfl | omega | decide))) ?_)
    | fail)
  all_goals (simp_all)

theorem idxCh (l : List Int) (hl : l.length ≤ 1048576) : Vs.Fn Try.prog F.slices_IndexFunc___int64_int64_ [] [.sl 1 (E cI l), .fn F.impl_hasCharacters_1 []] (.v (.int .i64 (idxP (fun m => decide (rk m < 0)) l))) [] :=
  ixI_fn Try.mixed Cd.slices_IndexFunc___int64_int64__ok Cd.slices_IndexFunc___int64_int64__nt Cd.slices_IndexFunc___int64_int64__rs rfl (fun m => decide (rk m < 0)) F.impl_hasCharacters_1 [] rfl (fun m hm => hasChar1 m) hl
theorem conCh (l : List Int) (hl : l.length ≤ 1048576) : Vs.Fn Try.prog F.slices_ContainsFunc___int64_int64_ [] [.sl 1 (E cI l), .fn F.impl_hasCharacters_1 []] (.v (.bool (l.any (fun m => decide (rk m < 0))))) [] :=
  ct_fn Try.mixed (g := F.slices_IndexFunc___int64_int64_) Cd.slices_ContainsFunc___int64_int64__ok Cd.slices_ContainsFunc___int64_int64__nt Cd.slices_ContainsFunc___int64_int64__rs rfl (fun m => decide (rk m < 0)) F.impl_hasCharacters_1 [] rfl (idxCh l hl)
theorem any_hasCh (l : List Int) : (!l.any fun m => decide (rk m < 0)) = hasCh l := by
  unfold hasCh
  induction l with
  | nil => rfl
  | cons x r ih =>
    simp only [List.any_cons, List.all_cons, Bool.not_or, ih]
    congr 1
    by_cases h : rk x < 0 <;> simp [h] <;> omega
theorem hasCharacters (l : List Int) (hl : l.length ≤ 1048576) : Vs.Fn Try.prog F.impl_hasCharacters [] [.sl 1 (E cI l)] (.v (.bool (hasCh l))) [] := by
  refine Cd.impl_hasCharacters_ok.fn0 Try.mixed Cd.impl_hasCharacters_nt Cd.impl_hasCharacters_rs rfl fun X => ?_
  unfold Cd.impl_hasCharacters
  simp -dsimp only [go_sem, reduceIte, reduceCtorEq, Nat.reduceEqDiff, Nat.reduceLT, Nat.reduceLeDiff, Nat.reduceAdd, Nat.reduceMul, Nat.reduceSub, Int.reduceToNat, Int.reduceNeg]
  repeat' (first
    | (refine RgK.mk rfl ?_; simp -dsimp only [go_sem, reduceIte, reduceCtorEq, Nat.reduceEqDiff, Nat.reduceLT, Nat.reduceLeDiff, Nat.reduceAdd, Nat.reduceMul, Nat.reduceSub, Int.reduceToNat, Int.reduceNeg])
    | (refine Br.mk (fun h => ?_) (fun h => ?_) <;> simp -dsimp only [go_sem, reduceIte, reduceCtorEq, Nat.reduceEqDiff, Nat.reduceLT, Nat.reduceLeDiff, Nat.reduceAdd, Nat.reduceMul, Nat.reduceSub, Int.reduceToNat, Int.reduceNeg, h])
    | (refine CallK.flat (by first | exact conCh l hl) rfl ?_; simp -dsimp only [go_sem, reduceIte, reduceCtorEq, Nat.reduceEqDiff, Nat.reduceLT, Nat.reduceLeDiff, Nat.reduceAdd, Nat.reduceMul, Nat.reduceSub, Int.reduceToNat, Int.reduceNeg])
    | (refine CallK.pure (by first | exact conCh l hl) ?_; simp -dsimp only [go_sem, reduceIte, reduceCtorEq, Nat.reduceEqDiff, Nat.reduceLT, Nat.reduceLeDiff, Nat.reduceAdd, Nat.reduceMul, Nat.reduceSub, Int.reduceToNat, Int.reduceNeg])
    | (refine And.intro (by first | rfl | omega | decide | (refine ⟨?_, ?_⟩ <;> (first | rfl | omega | decide)) | (refine ⟨?_, ?_, ?_⟩ <;> (first | rfl | omega | decide)) | (refine ⟨?_, ?_, ?_, ?_⟩ <;> (first | rfl | omega | decide))) ?_)
    | fail)
  all_goals (first | (simp_all [any_hasCh]; done) | (refine ret_eq ?_; have e := any_hasCh l; simp_all))

theorem l03Order  : Vs.Fn Try.prog F.spec_l03Order [] [] (.v (.string ⟨#[32, 38, 65, 66, 67, 68, 69, 70, 71, 72, 73, 45, 74, 75, 76, 77, 78, 79, 80, 81, 82, 47, 83, 84, 85, 86, 87, 88, 89, 90, 48, 49, 50, 51, 52, 53, 54, 55, 56, 57]⟩)) [] := by
  refine Cd.spec_l03Order_ok.fn0 Try.mixed Cd.spec_l03Order_nt Cd.spec_l03Order_rs rfl fun X => ?_
  unfold Cd.spec_l03Order
  simp -dsimp only [go_sem, reduceIte, reduceCtorEq, Nat.reduceEqDiff, Nat.reduceLT, Nat.reduceLeDiff, Nat.reduceAdd, Nat.reduceMul, Nat.reduceSub, Int.reduceToNat, Int.reduceNeg]
  repeat' (first
    | (refine RgK.mk rfl ?_; simp -dsimp only [go_sem, reduceIte, reduceCtorEq, Nat.reduceEqDiff, Nat.reduceLT, Nat.reduceLeDiff, Nat.reduceAdd, Nat.reduceMul, Nat.reduceSub, Int.reduceToNat, Int.reduceNeg])
    | (refine Br.mk (fun h => ?_) (fun h => ?_) <;> simp -dsimp only [go_sem, reduceIte, reduceCtorEq, Nat.reduceEqDiff, Nat.reduceLT, Nat.reduceLeDiff, Nat.reduceAdd, Nat.reduceMul, Nat.reduceSub, Int.reduceToNat, Int.reduceNeg, h])
    | (refine And.intro (by first | rfl | omega | decide | (refine ⟨?_, ?_⟩ <;> (first | rfl | omega | decide)) | (refine ⟨?_, ?_, ?_⟩ <;> (first | rfl | omega | decide)) | (refine ⟨?_, ?_, ?_, ?_⟩ <;> (first | rfl | omega | decide))) ?_)
    | fail)
  all_goals (simp_all)

theorem CH_eq : (⟨#[32, 38, 65, 66, 67, 68, 69, 70, 71, 72, 73, 45, 74, 75, 76, 77, 78, 79, 80, 81, 82, 47, 83, 84, 85, 86, 87, 88, 89, 90, 48, 49, 50, 51, 52, 53, 54, 55, 56, 57]⟩ : ByteArray) = CH := rfl
theorem CH_size : CH.size = 40 := rfl
theorem CH_at (i : Nat) : (CH.data.toList.getD i 0).toNat = chB i := by unfold chB; rfl
set_option maxRecDepth 100000 in
theorem chB_inj : ∀ i : Nat, i < 40 → ∀ j : Nat, j < 40 → chB i = chB j → i = j := by decide +kernel
def l03C (m : Int) : Int × Bool := if 0 ≤ rk m then (chI m, true) else (0, false)
theorem l03Char (m : Int) : Vs.Fn Try.prog F.spec_l03Char [] [.v (.int .i64 m)] (.tup [.v (.int .u8 (l03C m).1), .v (.bool (l03C m).2)]) [] := by
  refine Cd.spec_l03Char_ok.fn0 Try.mixed Cd.spec_l03Char_nt Cd.spec_l03Char_rs rfl fun X => ?_
  unfold Cd.spec_l03Char
  simp -dsimp only [go_sem, reduceIte, reduceCtorEq, Nat.reduceEqDiff, Nat.reduceLT, Nat.reduceLeDiff, Nat.reduceAdd, Nat.reduceMul, Nat.reduceSub, Int.reduceToNat, Int.reduceNeg]
  refine CallK.flat l03Order rfl ?_
  simp -dsimp only [go_sem, reduceIte, reduceCtorEq, Nat.reduceEqDiff, Nat.reduceLT, Nat.reduceLeDiff, Nat.reduceAdd, Nat.reduceMul, Nat.reduceSub, Int.reduceToNat, Int.reduceNeg, CH_eq]
  refine LoopK.at (drawn_ok Try.mixed) (X := { zz : Nat × (Unit) // zz.1 ≤ 40 ∧ rkF m (40 - zz.1) zz.1 = rk m }) (fun zz => [(5, .v (.int .i64 zz.1.1))]) (fun zz => []) (fun zz => 40 - zz.1.1) ⟨(0, ()), by omega, by unfold rk; rfl⟩ ?_ ?_
  · simp [Vs.LeL, Vs.look, Vs.hlook, Vs.sput, Vs.sputs, Vs.hset, Vs.hputs]
  · rintro ⟨⟨i, _⟩, hi, hg⟩
    dsimp only at hi hg
    simp -dsimp only [go_sem, reduceIte, reduceCtorEq, Nat.reduceEqDiff, Nat.reduceLT, Nat.reduceLeDiff, Nat.reduceAdd, Nat.reduceMul, Nat.reduceSub, Int.reduceToNat, Int.reduceNeg, CH_size]
    refine Br.mk (fun hc => ?_) fun hc => ?_
    · have hlt : i < 40 := by first | (simpa using hc) | (simp at hc; omega)
      have hw := wrap_succ hlt (by omega)
      rw [rkF_step m hlt] at hg
      have h8 : i < CH.size := hlt
      by_cases hz : l03 (chB i) = m
      · have ez : (l03 (chB i) == m) = true := beq_iff_eq.2 hz
        rw [if_pos hz] at hg
        simp -dsimp only [go_sem, reduceIte, reduceCtorEq, Nat.reduceEqDiff, Nat.reduceLT, Nat.reduceLeDiff, Nat.reduceAdd, Nat.reduceMul, Nat.reduceSub, Int.reduceToNat, Int.reduceNeg, hw, CH_size, CH_at, ez]
        repeat' (first
          | (refine RgK.mk rfl ?_; simp -dsimp only [go_sem, reduceIte, reduceCtorEq, Nat.reduceEqDiff, Nat.reduceLT, Nat.reduceLeDiff, Nat.reduceAdd, Nat.reduceMul, Nat.reduceSub, Int.reduceToNat, Int.reduceNeg, hw, CH_size, CH_at, ez])
          | (refine Br.mk (fun h => ?_) (fun h => ?_) <;> simp -dsimp only [go_sem, reduceIte, reduceCtorEq, Nat.reduceEqDiff, Nat.reduceLT, Nat.reduceLeDiff, Nat.reduceAdd, Nat.reduceMul, Nat.reduceSub, Int.reduceToNat, Int.reduceNeg, h, hw, CH_size, CH_at, ez])
          | (refine CallK.flat (by first | exact l03Code _) rfl ?_; simp -dsimp only [go_sem, reduceIte, reduceCtorEq, Nat.reduceEqDiff, Nat.reduceLT, Nat.reduceLeDiff, Nat.reduceAdd, Nat.reduceMul, Nat.reduceSub, Int.reduceToNat, Int.reduceNeg, hw, CH_size, CH_at, ez])
          | (refine CallK.pure (by first | exact l03Code _) ?_; simp -dsimp only [go_sem, reduceIte, reduceCtorEq, Nat.reduceEqDiff, Nat.reduceLT, Nat.reduceLeDiff, Nat.reduceAdd, Nat.reduceMul, Nat.reduceSub, Int.reduceToNat, Int.reduceNeg, hw, CH_size, CH_at, ez])
          | (refine And.intro (by first | rfl | omega | decide | (refine ⟨?_, ?_⟩ <;> (first | rfl | omega | decide)) | (refine ⟨?_, ?_, ?_⟩ <;> (first | rfl | omega | decide)) | (refine ⟨?_, ?_, ?_, ?_⟩ <;> (first | rfl | omega | decide))) ?_)
          | fail)

        all_goals first
          | (refine ret_eq ?_; have hr : rk m = (i : Int) := hg.symm; simp [l03C, chI, hr]; done)
          | omega
      · have ez : (l03 (chB i) == m) = false := beq_eq_false_iff_ne.2 hz
        rw [if_neg hz] at hg
        simp -dsimp only [go_sem, reduceIte, reduceCtorEq, Nat.reduceEqDiff, Nat.reduceLT, Nat.reduceLeDiff, Nat.reduceAdd, Nat.reduceMul, Nat.reduceSub, Int.reduceToNat, Int.reduceNeg, hw, CH_size, CH_at, ez]
        repeat' (first
          | (refine RgK.mk rfl ?_; simp -dsimp only [go_sem, reduceIte, reduceCtorEq, Nat.reduceEqDiff, Nat.reduceLT, Nat.reduceLeDiff, Nat.reduceAdd, Nat.reduceMul, Nat.reduceSub, Int.reduceToNat, Int.reduceNeg, hw, CH_size, CH_at, ez])
          | (refine Br.mk (fun h => ?_) (fun h => ?_) <;> simp -dsimp only [go_sem, reduceIte, reduceCtorEq, Nat.reduceEqDiff, Nat.reduceLT, Nat.reduceLeDiff, Nat.reduceAdd, Nat.reduceMul, Nat.reduceSub, Int.reduceToNat, Int.reduceNeg, h, hw, CH_size, CH_at, ez])
          | (refine CallK.flat (by first | exact l03Code _) rfl ?_; simp -dsimp only [go_sem, reduceIte, reduceCtorEq, Nat.reduceEqDiff, Nat.reduceLT, Nat.reduceLeDiff, Nat.reduceAdd, Nat.reduceMul, Nat.reduceSub, Int.reduceToNat, Int.reduceNeg, hw, CH_size, CH_at, ez])
          | (refine CallK.pure (by first | exact l03Code _) ?_; simp -dsimp only [go_sem, reduceIte, reduceCtorEq, Nat.reduceEqDiff, Nat.reduceLT, Nat.reduceLeDiff, Nat.reduceAdd, Nat.reduceMul, Nat.reduceSub, Int.reduceToNat, Int.reduceNeg, hw, CH_size, CH_at, ez])
          | (refine And.intro (by first | rfl | omega | decide | (refine ⟨?_, ?_⟩ <;> (first | rfl | omega | decide)) | (refine ⟨?_, ?_, ?_⟩ <;> (first | rfl | omega | decide)) | (refine ⟨?_, ?_, ?_, ?_⟩ <;> (first | rfl | omega | decide))) ?_)
          | fail)

        all_goals first | omega | (exact ⟨⟨(i + 1, ()), by first | omega | simp | exact ⟨by omega, by omega⟩, hg⟩, by simp [Vs.LeL, Vs.look, Vs.hlook, Vs.sput, Vs.sputs, Vs.hset, Vs.hputs], by simp only; omega⟩)
    · have hge : i = 40 := by
        have : ¬ i < 40 := by first | (simpa using hc) | (simp at hc; omega)
        omega
      subst hge
      simp -dsimp only [go_sem, reduceIte, reduceCtorEq, Nat.reduceEqDiff, Nat.reduceLT, Nat.reduceLeDiff, Nat.reduceAdd, Nat.reduceMul, Nat.reduceSub, Int.reduceToNat, Int.reduceNeg, CH_size]
      have : rk m = -1 := by rw [← hg]; rfl
      simp [l03C, this]
end Go.Proofs.Ytokfhfdnmnblfaa

namespace Go.Proofs.Ytokfhfdnmnblfaa
open Go.Vs
set_option linter.unusedSectionVars false
variable [Vs.Envs]
set_option linter.unusedSimpArgs false
set_option linter.unusedVariables false
attribute [local irreducible] Vs.Fn
structure Flt where
  kind : Int
  card : Int
  place : Int
  digit : Int
  deriving Inhabited
end Go.Proofs.Ytokfhfdnmnblfaa
