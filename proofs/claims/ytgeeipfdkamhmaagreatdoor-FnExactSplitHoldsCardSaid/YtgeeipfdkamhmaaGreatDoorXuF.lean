/- Characters, fields, specifications and steps. -/
import Derived.Test.YtgeeipfdkamhmaaGreatDoorXuD
import Derived.Test.YtgeeipfdkamhmaaGreatDoorEtI
namespace Go.Proofs.YtgeeipfdkamhmaaGreatDoor
open Go.Vs
set_option linter.unusedSimpArgs false
set_option linter.unusedVariables false
attribute [local irreducible] Vs.Fn
theorem u64_nonneg (n : Int) : 0 ≤ IntKind.u64.wrap n := by
  simp only [IntKind.wrap, IntKind.bits, IntKind.signed, Bool.false_and, Bool.false_eq_true, if_false]
  exact Int.emod_nonneg _ (by decide)

def bitR2 (r : Int) : Int := if r = 12 then 1 else if r = 11 then 2 else if inB r 0 9 then W (4 * 2 ^ (min (IntKind.u64.wrap r).toNat 64)) else 0
def isDig (n : Int) : Bool := decide (n ≥ 48) && decide (n ≤ 57)
def btw (n a b : Int) : Bool := decide (n ≥ a) && decide (n ≤ b)
def orI (a b : Int) : Int := bitsOp .or .i64 a b
def l03 (n : Int) : Int :=
  if n = 32 then 0 else if n = 38 then 1 else if n = 45 then 2 else if n = 47 then orI 4 (bitR2 1) else if isDig n then bitR2 (W (W n - 48))
  else if btw n 65 73 then orI 1 (bitR2 (W (W (W n - 65) + 1))) else if btw n 74 82 then orI 2 (bitR2 (W (W (W n - 74) + 1))) else if btw n 83 90 then orI 4 (bitR2 (W (W (W n - 83) + 2))) else -1
def CH : ByteArray := ⟨#[32, 38, 65, 66, 67, 68, 69, 70, 71, 72, 73, 45, 74, 75, 76, 77, 78, 79, 80, 81, 82, 47, 83, 84, 85, 86, 87, 88, 89, 90, 48, 49, 50, 51, 52, 53, 54, 55, 56, 57]⟩
def chOK (n : Int) : Bool := decide (idxByte CH n ≥ 0)
def areCh (s : ByteArray) : Bool := s.data.toList.all fun b => chOK b.toNat
theorem l02BitR (r : Int) : Vs.Fn Tryz.prog F.spec_l02Bit [] [.v (.int .i64 r)] (.v (.int .i64 (bitR2 r))) [] := by
  refine Cd.spec_l02Bit_ok.fn0 Tryz.mixed Cd.spec_l02Bit_nt Cd.spec_l02Bit_rs rfl fun X => ?_
  unfold Cd.spec_l02Bit
  simp -dsimp only [go_sem, reduceIte, reduceCtorEq, Nat.reduceEqDiff, Nat.reduceLT, Nat.reduceLeDiff, Nat.reduceAdd, Nat.reduceMul, Nat.reduceSub, Int.reduceToNat, Int.reduceNeg]
  repeat' (first
    | (refine RgK.mk rfl ?_; simp -dsimp only [go_sem, reduceIte, reduceCtorEq, Nat.reduceEqDiff, Nat.reduceLT, Nat.reduceLeDiff, Nat.reduceAdd, Nat.reduceMul, Nat.reduceSub, Int.reduceToNat, Int.reduceNeg])
    | (refine Br.mk (fun h => ?_) (fun h => ?_) <;> simp -dsimp only [go_sem, reduceIte, reduceCtorEq, Nat.reduceEqDiff, Nat.reduceLT, Nat.reduceLeDiff, Nat.reduceAdd, Nat.reduceMul, Nat.reduceSub, Int.reduceToNat, Int.reduceNeg, h])
    | (refine CallK.flat (by first | exact l00In _ _ _) rfl ?_; simp -dsimp only [go_sem, reduceIte, reduceCtorEq, Nat.reduceEqDiff, Nat.reduceLT, Nat.reduceLeDiff, Nat.reduceAdd, Nat.reduceMul, Nat.reduceSub, Int.reduceToNat, Int.reduceNeg])
    | (refine CallK.pure (by first | exact l00In _ _ _) ?_; simp -dsimp only [go_sem, reduceIte, reduceCtorEq, Nat.reduceEqDiff, Nat.reduceLT, Nat.reduceLeDiff, Nat.reduceAdd, Nat.reduceMul, Nat.reduceSub, Int.reduceToNat, Int.reduceNeg])
    | (refine And.intro (by first | rfl | omega | decide | exact u64_nonneg _ | (refine ⟨?_, ?_⟩ <;> (first | rfl | omega | decide | exact u64_nonneg _)) | (refine ⟨?_, ?_, ?_⟩ <;> (first | rfl | omega | decide | exact u64_nonneg _)) | (refine ⟨?_, ?_, ?_, ?_⟩ <;> (first | rfl | omega | decide | exact u64_nonneg _))) ?_)
    | fail)
  all_goals (simp_all [bitR2, IntKind.bits, u64_nonneg])

theorem l01Digit (n : Int) : Vs.Fn Tryz.prog F.spec_l01Digit [] [.v (.int .u8 n)] (.v (.bool (isDig n))) [] := by
  refine Cd.spec_l01Digit_ok.fn0 Tryz.mixed Cd.spec_l01Digit_nt Cd.spec_l01Digit_rs rfl fun X => ?_
  unfold Cd.spec_l01Digit
  simp -dsimp only [go_sem, reduceIte, reduceCtorEq, Nat.reduceEqDiff, Nat.reduceLT, Nat.reduceLeDiff, Nat.reduceAdd, Nat.reduceMul, Nat.reduceSub, Int.reduceToNat, Int.reduceNeg]
  repeat' (first
    | (refine RgK.mk rfl ?_; simp -dsimp only [go_sem, reduceIte, reduceCtorEq, Nat.reduceEqDiff, Nat.reduceLT, Nat.reduceLeDiff, Nat.reduceAdd, Nat.reduceMul, Nat.reduceSub, Int.reduceToNat, Int.reduceNeg])
    | (refine Br.mk (fun h => ?_) (fun h => ?_) <;> simp -dsimp only [go_sem, reduceIte, reduceCtorEq, Nat.reduceEqDiff, Nat.reduceLT, Nat.reduceLeDiff, Nat.reduceAdd, Nat.reduceMul, Nat.reduceSub, Int.reduceToNat, Int.reduceNeg, h])
    | (refine And.intro (by first | rfl | omega | decide | (refine ⟨?_, ?_⟩ <;> (first | rfl | omega | decide)) | (refine ⟨?_, ?_, ?_⟩ <;> (first | rfl | omega | decide)) | (refine ⟨?_, ?_, ?_, ?_⟩ <;> (first | rfl | omega | decide))) ?_)
    | fail)
  all_goals (first | (simp_all [isDig]; done) | (simp_all [isDig]; omega))

theorem l03Code (n : Int) : Vs.Fn Tryz.prog F.spec_l03Code [] [.v (.int .u8 n)] (.v (.int .i64 (l03 n))) [] := by
  refine Cd.spec_l03Code_ok.fn0 Tryz.mixed Cd.spec_l03Code_nt Cd.spec_l03Code_rs rfl fun X => ?_
  unfold Cd.spec_l03Code
  simp -dsimp only [go_sem, reduceIte, reduceCtorEq, Nat.reduceEqDiff, Nat.reduceLT, Nat.reduceLeDiff, Nat.reduceAdd, Nat.reduceMul, Nat.reduceSub, Int.reduceToNat, Int.reduceNeg]
  repeat' (first
    | (refine RgK.mk rfl ?_; simp -dsimp only [go_sem, reduceIte, reduceCtorEq, Nat.reduceEqDiff, Nat.reduceLT, Nat.reduceLeDiff, Nat.reduceAdd, Nat.reduceMul, Nat.reduceSub, Int.reduceToNat, Int.reduceNeg])
    | (refine Br.mk (fun h => ?_) (fun h => ?_) <;> simp -dsimp only [go_sem, reduceIte, reduceCtorEq, Nat.reduceEqDiff, Nat.reduceLT, Nat.reduceLeDiff, Nat.reduceAdd, Nat.reduceMul, Nat.reduceSub, Int.reduceToNat, Int.reduceNeg, h])
    | (refine CallK.flat (by first | exact l02BitR _ | exact l01Digit _) rfl ?_; simp -dsimp only [go_sem, reduceIte, reduceCtorEq, Nat.reduceEqDiff, Nat.reduceLT, Nat.reduceLeDiff, Nat.reduceAdd, Nat.reduceMul, Nat.reduceSub, Int.reduceToNat, Int.reduceNeg])
    | (refine CallK.pure (by first | exact l02BitR _ | exact l01Digit _) ?_; simp -dsimp only [go_sem, reduceIte, reduceCtorEq, Nat.reduceEqDiff, Nat.reduceLT, Nat.reduceLeDiff, Nat.reduceAdd, Nat.reduceMul, Nat.reduceSub, Int.reduceToNat, Int.reduceNeg])
    | (refine And.intro (by first | rfl | omega | decide | (refine ⟨?_, ?_⟩ <;> (first | rfl | omega | decide)) | (refine ⟨?_, ?_, ?_⟩ <;> (first | rfl | omega | decide)) | (refine ⟨?_, ?_, ?_, ?_⟩ <;> (first | rfl | omega | decide))) ?_)
    | fail)
  all_goals (first | (simp_all [l03, btw, orI]; done) | (refine ret_eq ?_; grind [l03, btw, orI]))

theorem sliteIdx (s : ByteArray) (n : Int) : Vs.Fn Tryz.prog F.internal_stringslite_IndexByte [] [.v (.string s), .v (.int .u8 n)] (.v (.int .i64 (idxByte s n))) [] := by
  refine Cd.internal_stringslite_IndexByte_ok.fn0 Tryz.mixed Cd.internal_stringslite_IndexByte_nt Cd.internal_stringslite_IndexByte_rs rfl fun X => ?_
  unfold Cd.internal_stringslite_IndexByte
  simp -dsimp only [go_sem, reduceIte, reduceCtorEq, Nat.reduceEqDiff, Nat.reduceLT, Nat.reduceLeDiff, Nat.reduceAdd, Nat.reduceMul, Nat.reduceSub, Int.reduceToNat, Int.reduceNeg]
  repeat' (first
    | (refine RgK.mk rfl ?_; simp -dsimp only [go_sem, reduceIte, reduceCtorEq, Nat.reduceEqDiff, Nat.reduceLT, Nat.reduceLeDiff, Nat.reduceAdd, Nat.reduceMul, Nat.reduceSub, Int.reduceToNat, Int.reduceNeg])
    | (refine Br.mk (fun h => ?_) (fun h => ?_) <;> simp -dsimp only [go_sem, reduceIte, reduceCtorEq, Nat.reduceEqDiff, Nat.reduceLT, Nat.reduceLeDiff, Nat.reduceAdd, Nat.reduceMul, Nat.reduceSub, Int.reduceToNat, Int.reduceNeg, h])
    | (refine And.intro (by first | rfl | omega | decide | (refine ⟨?_, ?_⟩ <;> (first | rfl | omega | decide)) | (refine ⟨?_, ?_, ?_⟩ <;> (first | rfl | omega | decide)) | (refine ⟨?_, ?_, ?_, ?_⟩ <;> (first | rfl | omega | decide))) ?_)
    | fail)
  all_goals (simp_all)

theorem strIdx (s : ByteArray) (n : Int) : Vs.Fn Tryz.prog F.strings_IndexByte [] [.v (.string s), .v (.int .u8 n)] (.v (.int .i64 (idxByte s n))) [] := by
  refine Cd.strings_IndexByte_ok.fn0 Tryz.mixed Cd.strings_IndexByte_nt Cd.strings_IndexByte_rs rfl fun X => ?_
  unfold Cd.strings_IndexByte
  simp -dsimp only [go_sem, reduceIte, reduceCtorEq, Nat.reduceEqDiff, Nat.reduceLT, Nat.reduceLeDiff, Nat.reduceAdd, Nat.reduceMul, Nat.reduceSub, Int.reduceToNat, Int.reduceNeg]
  repeat' (first
    | (refine RgK.mk rfl ?_; simp -dsimp only [go_sem, reduceIte, reduceCtorEq, Nat.reduceEqDiff, Nat.reduceLT, Nat.reduceLeDiff, Nat.reduceAdd, Nat.reduceMul, Nat.reduceSub, Int.reduceToNat, Int.reduceNeg])
    | (refine Br.mk (fun h => ?_) (fun h => ?_) <;> simp -dsimp only [go_sem, reduceIte, reduceCtorEq, Nat.reduceEqDiff, Nat.reduceLT, Nat.reduceLeDiff, Nat.reduceAdd, Nat.reduceMul, Nat.reduceSub, Int.reduceToNat, Int.reduceNeg, h])
    | (refine CallK.flat (by first | exact sliteIdx _ _) rfl ?_; simp -dsimp only [go_sem, reduceIte, reduceCtorEq, Nat.reduceEqDiff, Nat.reduceLT, Nat.reduceLeDiff, Nat.reduceAdd, Nat.reduceMul, Nat.reduceSub, Int.reduceToNat, Int.reduceNeg])
    | (refine CallK.pure (by first | exact sliteIdx _ _) ?_; simp -dsimp only [go_sem, reduceIte, reduceCtorEq, Nat.reduceEqDiff, Nat.reduceLT, Nat.reduceLeDiff, Nat.reduceAdd, Nat.reduceMul, Nat.reduceSub, Int.reduceToNat, Int.reduceNeg])
    | (refine And.intro (by first | rfl | omega | decide | (refine ⟨?_, ?_⟩ <;> (first | rfl | omega | decide)) | (refine ⟨?_, ?_, ?_⟩ <;> (first | rfl | omega | decide)) | (refine ⟨?_, ?_, ?_, ?_⟩ <;> (first | rfl | omega | decide))) ?_)
    | fail)
  all_goals (simp_all)

theorem isCharacter (n : Int) : Vs.Fn Tryz.prog F.impl_isCharacter [] [.v (.int .u8 n)] (.v (.bool (chOK n))) [] := by
  refine Cd.impl_isCharacter_ok.fn0 Tryz.mixed Cd.impl_isCharacter_nt Cd.impl_isCharacter_rs rfl fun X => ?_
  unfold Cd.impl_isCharacter
  simp -dsimp only [go_sem, reduceIte, reduceCtorEq, Nat.reduceEqDiff, Nat.reduceLT, Nat.reduceLeDiff, Nat.reduceAdd, Nat.reduceMul, Nat.reduceSub, Int.reduceToNat, Int.reduceNeg]
  repeat' (first
    | (refine RgK.mk rfl ?_; simp -dsimp only [go_sem, reduceIte, reduceCtorEq, Nat.reduceEqDiff, Nat.reduceLT, Nat.reduceLeDiff, Nat.reduceAdd, Nat.reduceMul, Nat.reduceSub, Int.reduceToNat, Int.reduceNeg])
    | (refine Br.mk (fun h => ?_) (fun h => ?_) <;> simp -dsimp only [go_sem, reduceIte, reduceCtorEq, Nat.reduceEqDiff, Nat.reduceLT, Nat.reduceLeDiff, Nat.reduceAdd, Nat.reduceMul, Nat.reduceSub, Int.reduceToNat, Int.reduceNeg, h])
    | (refine CallK.flat (by first | exact strIdx _ _) rfl ?_; simp -dsimp only [go_sem, reduceIte, reduceCtorEq, Nat.reduceEqDiff, Nat.reduceLT, Nat.reduceLeDiff, Nat.reduceAdd, Nat.reduceMul, Nat.reduceSub, Int.reduceToNat, Int.reduceNeg])
    | (refine CallK.pure (by first | exact strIdx _ _) ?_; simp -dsimp only [go_sem, reduceIte, reduceCtorEq, Nat.reduceEqDiff, Nat.reduceLT, Nat.reduceLeDiff, Nat.reduceAdd, Nat.reduceMul, Nat.reduceSub, Int.reduceToNat, Int.reduceNeg])
    | (refine And.intro (by first | rfl | omega | decide | (refine ⟨?_, ?_⟩ <;> (first | rfl | omega | decide)) | (refine ⟨?_, ?_, ?_⟩ <;> (first | rfl | omega | decide)) | (refine ⟨?_, ?_, ?_, ?_⟩ <;> (first | rfl | omega | decide))) ?_)
    | fail)
  all_goals (simp_all [chOK, CH])

def chTo (s : ByteArray) (i : Nat) : Bool := (s.data.toList.take i).all fun b => chOK b.toNat
def chAt (s : ByteArray) (i : Nat) : Bool := chOK (s.data.toList.getD i 0).toNat
theorem chTo_succ {s : ByteArray} {i : Nat} (h : i < s.size) : chTo s (i + 1) = (chTo s i && chAt s i) := by
  have hl : i < s.data.toList.length := h
  unfold chTo chAt
  rw [take_succ hl, List.all_append, List.getD_eq_getElem?_getD, List.getElem?_eq_getElem hl]
  simp
theorem chTo_all (s : ByteArray) : chTo s s.size = areCh s := by
  unfold chTo areCh
  rw [show s.size = s.data.toList.length from rfl, List.take_length]
theorem chAt_false {s : ByteArray} {i : Nat} (h : i < s.size) (h2 : chAt s i = false) : areCh s = false := by
  have hl : i < s.data.toList.length := h
  unfold chAt at h2
  rw [List.getD_eq_getElem?_getD, List.getElem?_eq_getElem hl] at h2
  exact not_all (p := fun b : UInt8 => chOK b.toNat) hl h2
theorem chAt_eq (s : ByteArray) (i : Nat) : chOK (s.data.toList.getD i 0).toNat = chAt s i := rfl
attribute [local irreducible] chOK areCh chTo chAt l03
theorem areCharacters (s : ByteArray) (hs : s.size ≤ 1048576) : Vs.Fn Tryz.prog F.impl_areCharacters [] [.v (.string s)] (.v (.bool (areCh s))) [] := by
  refine Cd.impl_areCharacters_ok.fn0 Tryz.mixed Cd.impl_areCharacters_nt Cd.impl_areCharacters_rs rfl fun X => ?_
  unfold Cd.impl_areCharacters
  simp -dsimp only [go_sem, reduceIte, reduceCtorEq, Nat.reduceEqDiff, Nat.reduceLT, Nat.reduceLeDiff, Nat.reduceAdd, Nat.reduceMul, Nat.reduceSub, Int.reduceToNat, Int.reduceNeg]
  refine LoopK.intro (drawn_ok Tryz.mixed) (fun i : { i : Nat // i ≤ s.size ∧ chTo s i = true } => ⟨[(0, .v (.string s)), (3, .v (.int .i64 i.1))], []⟩) (fun i => s.size - i.1) ⟨0, by simp [chTo]⟩ ?_ ?_
  · simp [Vs.LeL, Vs.look]
  · rintro ⟨i, hi, hall⟩
    simp -dsimp only [go_sem, reduceIte, reduceCtorEq, Nat.reduceEqDiff, Nat.reduceLT, Nat.reduceLeDiff, Nat.reduceAdd, Nat.reduceMul, Nat.reduceSub, Int.reduceToNat, Int.reduceNeg]
    refine Br.mk (fun h1 => ?_) fun h1 => ?_
    · have hlt : i < s.size := by simpa using h1
      have hw := wrap_succ hlt hs
      simp -dsimp only [go_sem, reduceIte, reduceCtorEq, Nat.reduceEqDiff, Nat.reduceLT, Nat.reduceLeDiff, Nat.reduceAdd, Nat.reduceMul, Nat.reduceSub, Int.reduceToNat, Int.reduceNeg]
      refine ⟨⟨by omega, by omega⟩, CallK.flat (isCharacter _) rfl ?_⟩
      simp -dsimp only [chAt_eq]
      simp -dsimp only [go_sem, reduceIte, reduceCtorEq, Nat.reduceEqDiff, Nat.reduceLT, Nat.reduceLeDiff, Nat.reduceAdd, Nat.reduceMul, Nat.reduceSub, Int.reduceToNat, Int.reduceNeg]
      refine Br.mk (fun h2 => ?_) fun h2 => ?_
      · simp -dsimp only [go_sem, reduceIte, reduceCtorEq, Nat.reduceEqDiff, Nat.reduceLT, Nat.reduceLeDiff, Nat.reduceAdd, Nat.reduceMul, Nat.reduceSub, Int.reduceToNat, Int.reduceNeg]
        simp [chAt_false hlt (by simpa using h2)]
      · simp -dsimp only [go_sem, reduceIte, reduceCtorEq, Nat.reduceEqDiff, Nat.reduceLT, Nat.reduceLeDiff, Nat.reduceAdd, Nat.reduceMul, Nat.reduceSub, Int.reduceToNat, Int.reduceNeg, hw]
        exact ⟨⟨i + 1, by omega, by rw [chTo_succ hlt, hall]; simpa using h2⟩, by simp [Vs.LeL, Vs.look], by simp only; omega⟩
    · have hge : i = s.size := by
        have : ¬ i < s.size := by simpa using h1
        omega
      subst hge
      simp -dsimp only [go_sem, reduceIte, reduceCtorEq, Nat.reduceEqDiff, Nat.reduceLT, Nat.reduceLeDiff, Nat.reduceAdd, Nat.reduceMul, Nat.reduceSub, Int.reduceToNat, Int.reduceNeg]
      simp [← chTo_all, hall]

def fldB (a b w : Int) : Bool := decide (0 ≤ a) && (decide (a < b) && decide (b ≤ w))
def numB (a b w : Int) : Bool := fldB a b w && decide (W (b - a) ≤ 12)
theorem isField (a b w : Int) : Vs.Fn Tryz.prog F.impl_isField [] [.agg [.v (.int .i64 a), .v (.int .i64 b)], .v (.int .i64 w)] (.v (.bool (fldB a b w))) [] := by
  refine Cd.impl_isField_ok.fn0 Tryz.mixed Cd.impl_isField_nt Cd.impl_isField_rs rfl fun X => ?_
  unfold Cd.impl_isField
  simp -dsimp only [go_sem, reduceIte, reduceCtorEq, Nat.reduceEqDiff, Nat.reduceLT, Nat.reduceLeDiff, Nat.reduceAdd, Nat.reduceMul, Nat.reduceSub, Int.reduceToNat, Int.reduceNeg]
  repeat' (first
    | (refine RgK.mk rfl ?_; simp -dsimp only [go_sem, reduceIte, reduceCtorEq, Nat.reduceEqDiff, Nat.reduceLT, Nat.reduceLeDiff, Nat.reduceAdd, Nat.reduceMul, Nat.reduceSub, Int.reduceToNat, Int.reduceNeg])
    | (refine Br.mk (fun h => ?_) (fun h => ?_) <;> simp -dsimp only [go_sem, reduceIte, reduceCtorEq, Nat.reduceEqDiff, Nat.reduceLT, Nat.reduceLeDiff, Nat.reduceAdd, Nat.reduceMul, Nat.reduceSub, Int.reduceToNat, Int.reduceNeg, h])
    | (refine And.intro (by first | rfl | omega | decide | (refine ⟨?_, ?_⟩ <;> (first | rfl | omega | decide)) | (refine ⟨?_, ?_, ?_⟩ <;> (first | rfl | omega | decide)) | (refine ⟨?_, ?_, ?_, ?_⟩ <;> (first | rfl | omega | decide))) ?_)
    | fail)
  all_goals (first | (simp_all [fldB]; done) | (simp_all [fldB]; omega) | (refine ret_eq ?_; grind [fldB]))

theorem l02Field (a b w : Int) : Vs.Fn Tryz.prog F.spec_l02Field [] [.agg [.v (.int .i64 a), .v (.int .i64 b)], .v (.int .i64 w)] (.v (.bool (fldB a b w))) [] := by
  refine Cd.spec_l02Field_ok.fn0 Tryz.mixed Cd.spec_l02Field_nt Cd.spec_l02Field_rs rfl fun X => ?_
  unfold Cd.spec_l02Field
  simp -dsimp only [go_sem, reduceIte, reduceCtorEq, Nat.reduceEqDiff, Nat.reduceLT, Nat.reduceLeDiff, Nat.reduceAdd, Nat.reduceMul, Nat.reduceSub, Int.reduceToNat, Int.reduceNeg]
  repeat' (first
    | (refine RgK.mk rfl ?_; simp -dsimp only [go_sem, reduceIte, reduceCtorEq, Nat.reduceEqDiff, Nat.reduceLT, Nat.reduceLeDiff, Nat.reduceAdd, Nat.reduceMul, Nat.reduceSub, Int.reduceToNat, Int.reduceNeg])
    | (refine Br.mk (fun h => ?_) (fun h => ?_) <;> simp -dsimp only [go_sem, reduceIte, reduceCtorEq, Nat.reduceEqDiff, Nat.reduceLT, Nat.reduceLeDiff, Nat.reduceAdd, Nat.reduceMul, Nat.reduceSub, Int.reduceToNat, Int.reduceNeg, h])
    | (refine And.intro (by first | rfl | omega | decide | (refine ⟨?_, ?_⟩ <;> (first | rfl | omega | decide)) | (refine ⟨?_, ?_, ?_⟩ <;> (first | rfl | omega | decide)) | (refine ⟨?_, ?_, ?_, ?_⟩ <;> (first | rfl | omega | decide))) ?_)
    | fail)
  all_goals (first | (simp_all [fldB]; done) | (simp_all [fldB]; omega) | (refine ret_eq ?_; grind [fldB]))

theorem isNumberField (a b w : Int) : Vs.Fn Tryz.prog F.impl_isNumberField [] [.agg [.v (.int .i64 a), .v (.int .i64 b)], .v (.int .i64 w)] (.v (.bool (numB a b w))) [] := by
  refine Cd.impl_isNumberField_ok.fn0 Tryz.mixed Cd.impl_isNumberField_nt Cd.impl_isNumberField_rs rfl fun X => ?_
  unfold Cd.impl_isNumberField
  simp -dsimp only [go_sem, reduceIte, reduceCtorEq, Nat.reduceEqDiff, Nat.reduceLT, Nat.reduceLeDiff, Nat.reduceAdd, Nat.reduceMul, Nat.reduceSub, Int.reduceToNat, Int.reduceNeg]
  repeat' (first
    | (refine RgK.mk rfl ?_; simp -dsimp only [go_sem, reduceIte, reduceCtorEq, Nat.reduceEqDiff, Nat.reduceLT, Nat.reduceLeDiff, Nat.reduceAdd, Nat.reduceMul, Nat.reduceSub, Int.reduceToNat, Int.reduceNeg])
    | (refine Br.mk (fun h => ?_) (fun h => ?_) <;> simp -dsimp only [go_sem, reduceIte, reduceCtorEq, Nat.reduceEqDiff, Nat.reduceLT, Nat.reduceLeDiff, Nat.reduceAdd, Nat.reduceMul, Nat.reduceSub, Int.reduceToNat, Int.reduceNeg, h])
    | (refine CallK.flat (by first | exact isField _ _ _) rfl ?_; simp -dsimp only [go_sem, reduceIte, reduceCtorEq, Nat.reduceEqDiff, Nat.reduceLT, Nat.reduceLeDiff, Nat.reduceAdd, Nat.reduceMul, Nat.reduceSub, Int.reduceToNat, Int.reduceNeg])
    | (refine CallK.pure (by first | exact isField _ _ _) ?_; simp -dsimp only [go_sem, reduceIte, reduceCtorEq, Nat.reduceEqDiff, Nat.reduceLT, Nat.reduceLeDiff, Nat.reduceAdd, Nat.reduceMul, Nat.reduceSub, Int.reduceToNat, Int.reduceNeg])
    | (refine And.intro (by first | rfl | omega | decide | (refine ⟨?_, ?_⟩ <;> (first | rfl | omega | decide)) | (refine ⟨?_, ?_, ?_⟩ <;> (first | rfl | omega | decide)) | (refine ⟨?_, ?_, ?_, ?_⟩ <;> (first | rfl | omega | decide))) ?_)
    | fail)
  all_goals (first | (simp_all [numB]; done) | (refine ret_eq ?_; grind [numB]))

structure Spc where
  w0 : Int
  w1 : Int
  text : ByteArray
  g0 : Int
  g1 : Int
  s0 : Int
  s1 : Int
end Go.Proofs.YtgeeipfdkamhmaaGreatDoor
