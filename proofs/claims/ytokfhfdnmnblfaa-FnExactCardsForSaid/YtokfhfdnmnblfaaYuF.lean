/- Characters, fields, specifications and steps. -/
import Derived.Test.YtokfhfdnmnblfaaYuD
import Derived.Test.YtokfhfdnmnblfaaVtI
namespace Go.Proofs.Ytokfhfdnmnblfaa
open Go.Vs
set_option linter.unusedSectionVars false
variable [Vs.Envs]
set_option linter.unusedSimpArgs false
set_option linter.unusedVariables false
attribute [local irreducible] Vs.Fn
theorem u64_nonneg (n : Int) : 0 ≤ IntKind.u64.wrap n := by
  simp only [IntKind.wrap, IntKind.bits, IntKind.signed, Bool.false_and, Bool.false_eq_true, if_false]
  exact Int.emod_nonneg _ (by decide)

def bitR2 (r : Int) : Int := if r = 12 then 1 else if r = 11 then 2 else if inB r 0 9 then W (4 * 2 ^ (min (IntKind.u64.wrap r).toNat 64)) else 0
def isDig (n : Int) : Bool := decide (n ≥ 48) && decide (n ≤ 57)
def btw (n a b : Int) : Bool := decide (n ≥ a) && decide (n ≤ b)
def orI (a b : Int) : Int := bitsOp .or .i64 a b
def l03 (n : Int) : Int :=
  if n = 32 then 0 else if n = 38 then 1 else if n = 45 then 2 else if n = 47 then orI 4 (bitR2 1) else if isDig n then bitR2 (W (W n - 48))
  else if btw n 65 73 then orI 1 (bitR2 (W (W (W n - 65) + 1))) else if btw n 74 82 then orI 2 (bitR2 (W (W (W n - 74) + 1))) else if btw n 83 90 then orI 4 (bitR2 (W (W (W n - 83) + 2))) else -1
def CH : ByteArray := ⟨#[32, 38, 65, 66, 67, 68, 69, 70, 71, 72, 73, 45, 74, 75, 76, 77, 78, 79, 80, 81, 82, 47, 83, 84, 85, 86, 87, 88, 89, 90, 48, 49, 50, 51, 52, 53, 54, 55, 56, 57]⟩
def chOK (n : Int) : Bool := decide (idxByte CH n ≥ 0)
set_option maxRecDepth 100000 in
theorem ch_l03 : ∀ n : Nat, n < 256 → chOK (n : Int) = decide (l03 (n : Int) ≥ 0) := by decide +kernel
def areCh (s : ByteArray) : Bool := s.data.toList.all fun b => chOK b.toNat
theorem l02BitR (r : Int) : Vs.Fn Try.prog F.spec_l02Bit [] [.v (.int .i64 r)] (.v (.int .i64 (bitR2 r))) [] := by
  refine Cd.spec_l02Bit_ok.fn0 Try.mixed Cd.spec_l02Bit_nt Cd.spec_l02Bit_rs rfl fun X => ?_
  unfold Cd.spec_l02Bit
  simp -dsimp only [go_sem, reduceIte, reduceCtorEq, Nat.reduceEqDiff, Nat.reduceLT, Nat.reduceLeDiff, Nat.reduceAdd, Nat.reduceMul, Nat.reduceSub, Int.reduceToNat, Int.reduceNeg]
  repeat' (first
    | (refine RgK.mk rfl ?_; simp -dsimp only [go_sem, reduceIte, reduceCtorEq, Nat.reduceEqDiff, Nat.reduceLT, Nat.reduceLeDiff, Nat.reduceAdd, Nat.reduceMul, Nat.reduceSub, Int.reduceToNat, Int.reduceNeg])
    | (refine Br.mk (fun h => ?_) (fun h => ?_) <;> simp -dsimp only [go_sem, reduceIte, reduceCtorEq, Nat.reduceEqDiff, Nat.reduceLT, Nat.reduceLeDiff, Nat.reduceAdd, Nat.reduceMul, Nat.reduceSub, Int.reduceToNat, Int.reduceNeg, h])
    | (refine CallK.flat (by first | exact l00In _ _ _) rfl ?_; simp -dsimp only [go_sem, reduceIte, reduceCtorEq, Nat.reduceEqDiff, Nat.reduceLT, Nat.reduceLeDiff, Nat.reduceAdd, Nat.reduceMul, Nat.reduceSub, Int.reduceToNat, Int.reduceNeg])
    | (refine CallK.pure (by first | exact l00In _ _ _) ?_; simp -dsimp only [go_sem, reduceIte, reduceCtorEq, Nat.reduceEqDiff, Nat.reduceLT, Nat.reduceLeDiff, Nat.reduceAdd, Nat.reduceMul, Nat.reduceSub, Int.reduceToNat, Int.reduceNeg])
    | (refine And.intro (by first | rfl | omega | decide | exact u64_nonneg _ | (refine ⟨?_, ?_⟩ <;> (first | rfl | omega | decide | exact u64_nonneg _)) | (refine ⟨?_, ?_, ?_⟩ <;> (first | rfl | omega | decide | exact u64_nonneg _)) | (refine ⟨?_, ?_, ?_, ?_⟩ <;> (first | rfl | omega | decide | exact u64_nonneg _))) ?_)
    | fail)
  all_goals (simp_all [bitR2, IntKind.bits, u64_nonneg])

theorem l01Digit (n : Int) : Vs.Fn Try.prog F.spec_l01Digit [] [.v (.int .u8 n)] (.v (.bool (isDig n))) [] := by
  refine Cd.spec_l01Digit_ok.fn0 Try.mixed Cd.spec_l01Digit_nt Cd.spec_l01Digit_rs rfl fun X => ?_
  unfold Cd.spec_l01Digit
  simp -dsimp only [go_sem, reduceIte, reduceCtorEq, Nat.reduceEqDiff, Nat.reduceLT, Nat.reduceLeDiff, Nat.reduceAdd, Nat.reduceMul, Nat.reduceSub, Int.reduceToNat, Int.reduceNeg]
  repeat' (first
    | (refine RgK.mk rfl ?_; simp -dsimp only [go_sem, reduceIte, reduceCtorEq, Nat.reduceEqDiff, Nat.reduceLT, Nat.reduceLeDiff, Nat.reduceAdd, Nat.reduceMul, Nat.reduceSub, Int.reduceToNat, Int.reduceNeg])
    | (refine Br.mk (fun h => ?_) (fun h => ?_) <;> simp -dsimp only [go_sem, reduceIte, reduceCtorEq, Nat.reduceEqDiff, Nat.reduceLT, Nat.reduceLeDiff, Nat.reduceAdd, Nat.reduceMul, Nat.reduceSub, Int.reduceToNat, Int.reduceNeg, h])
    | (refine And.intro (by first | rfl | omega | decide | (refine ⟨?_, ?_⟩ <;> (first | rfl | omega | decide)) | (refine ⟨?_, ?_, ?_⟩ <;> (first | rfl | omega | decide)) | (refine ⟨?_, ?_, ?_, ?_⟩ <;> (first | rfl | omega | decide))) ?_)
    | fail)
  all_goals (first | (simp_all [isDig]; done) | (simp_all [isDig]; omega))

theorem l03Code (n : Int) : Vs.Fn Try.prog F.spec_l03Code [] [.v (.int .u8 n)] (.v (.int .i64 (l03 n))) [] := by
  refine Cd.spec_l03Code_ok.fn0 Try.mixed Cd.spec_l03Code_nt Cd.spec_l03Code_rs rfl fun X => ?_
  unfold Cd.spec_l03Code
  simp -dsimp only [go_sem, reduceIte, reduceCtorEq, Nat.reduceEqDiff, Nat.reduceLT, Nat.reduceLeDiff, Nat.reduceAdd, Nat.reduceMul, Nat.reduceSub, Int.reduceToNat, Int.reduceNeg]
  repeat' (first
    | (refine RgK.mk rfl ?_; simp -dsimp only [go_sem, reduceIte, reduceCtorEq, Nat.reduceEqDiff, Nat.reduceLT, Nat.reduceLeDiff, Nat.reduceAdd, Nat.reduceMul, Nat.reduceSub, Int.reduceToNat, Int.reduceNeg])
    | (refine Br.mk (fun h => ?_) (fun h => ?_) <;> simp -dsimp only [go_sem, reduceIte, reduceCtorEq, Nat.reduceEqDiff, Nat.reduceLT, Nat.reduceLeDiff, Nat.reduceAdd, Nat.reduceMul, Nat.reduceSub, Int.reduceToNat, Int.reduceNeg, h])
    | (refine CallK.flat (by first | exact l02BitR _ | exact l01Digit _) rfl ?_; simp -dsimp only [go_sem, reduceIte, reduceCtorEq, Nat.reduceEqDiff, Nat.reduceLT, Nat.reduceLeDiff, Nat.reduceAdd, Nat.reduceMul, Nat.reduceSub, Int.reduceToNat, Int.reduceNeg])
    | (refine CallK.pure (by first | exact l02BitR _ | exact l01Digit _) ?_; simp -dsimp only [go_sem, reduceIte, reduceCtorEq, Nat.reduceEqDiff, Nat.reduceLT, Nat.reduceLeDiff, Nat.reduceAdd, Nat.reduceMul, Nat.reduceSub, Int.reduceToNat, Int.reduceNeg])
    | (refine And.intro (by first | rfl | omega | decide | (refine ⟨?_, ?_⟩ <;> (first | rfl | omega | decide)) | (refine ⟨?_, ?_, ?_⟩ <;> (first | rfl | omega | decide)) | (refine ⟨?_, ?_, ?_, ?_⟩ <;> (first | rfl | omega | decide))) ?_)
    | fail)
  all_goals (first | (simp_all [l03, btw, orI]; done) | (refine ret_eq ?_; grind [l03, btw, orI]))

theorem sliteIdx (s : ByteArray) (n : Int) : Vs.Fn Try.prog F.internal_stringslite_IndexByte [] [.v (.string s), .v (.int .u8 n)] (.v (.int .i64 (idxByte s n))) [] := by
  refine Cd.internal_stringslite_IndexByte_ok.fn0 Try.mixed Cd.internal_stringslite_IndexByte_nt Cd.internal_stringslite_IndexByte_rs rfl fun X => ?_
  unfold Cd.internal_stringslite_IndexByte
  simp -dsimp only [go_sem, reduceIte, reduceCtorEq, Nat.reduceEqDiff, Nat.reduceLT, Nat.reduceLeDiff, Nat.reduceAdd, Nat.reduceMul, Nat.reduceSub, Int.reduceToNat, Int.reduceNeg]
  repeat' (first
    | (refine RgK.mk rfl ?_; simp -dsimp only [go_sem, reduceIte, reduceCtorEq, Nat.reduceEqDiff, Nat.reduceLT, Nat.reduceLeDiff, Nat.reduceAdd, Nat.reduceMul, Nat.reduceSub, Int.reduceToNat, Int.reduceNeg])
    | (refine Br.mk (fun h => ?_) (fun h => ?_) <;> simp -dsimp only [go_sem, reduceIte, reduceCtorEq, Nat.reduceEqDiff, Nat.reduceLT, Nat.reduceLeDiff, Nat.reduceAdd, Nat.reduceMul, Nat.reduceSub, Int.reduceToNat, Int.reduceNeg, h])
    | (refine And.intro (by first | rfl | omega | decide | (refine ⟨?_, ?_⟩ <;> (first | rfl | omega | decide)) | (refine ⟨?_, ?_, ?_⟩ <;> (first | rfl | omega | decide)) | (refine ⟨?_, ?_, ?_, ?_⟩ <;> (first | rfl | omega | decide))) ?_)
    | fail)
  all_goals (simp_all)

theorem strIdx (s : ByteArray) (n : Int) : Vs.Fn Try.prog F.strings_IndexByte [] [.v (.string s), .v (.int .u8 n)] (.v (.int .i64 (idxByte s n))) [] := by
  refine Cd.strings_IndexByte_ok.fn0 Try.mixed Cd.strings_IndexByte_nt Cd.strings_IndexByte_rs rfl fun X => ?_
  unfold Cd.strings_IndexByte
  simp -dsimp only [go_sem, reduceIte, reduceCtorEq, Nat.reduceEqDiff, Nat.reduceLT, Nat.reduceLeDiff, Nat.reduceAdd, Nat.reduceMul, Nat.reduceSub, Int.reduceToNat, Int.reduceNeg]
  repeat' (first
    | (refine RgK.mk rfl ?_; simp -dsimp only [go_sem, reduceIte, reduceCtorEq, Nat.reduceEqDiff, Nat.reduceLT, Nat.reduceLeDiff, Nat.reduceAdd, Nat.reduceMul, Nat.reduceSub, Int.reduceToNat, Int.reduceNeg])
    | (refine Br.mk (fun h => ?_) (fun h => ?_) <;> simp -dsimp only [go_sem, reduceIte, reduceCtorEq, Nat.reduceEqDiff, Nat.reduceLT, Nat.reduceLeDiff, Nat.reduceAdd, Nat.reduceMul, Nat.reduceSub, Int.reduceToNat, Int.reduceNeg, h])
    | (refine CallK.flat (by first | exact sliteIdx _ _) rfl ?_; simp -dsimp only [go_sem, reduceIte, reduceCtorEq, Nat.reduceEqDiff, Nat.reduceLT, Nat.reduceLeDiff, Nat.reduceAdd, Nat.reduceMul, Nat.reduceSub, Int.reduceToNat, Int.reduceNeg])
    | (refine CallK.pure (by first | exact sliteIdx _ _) ?_; simp -dsimp only [go_sem, reduceIte, reduceCtorEq, Nat.reduceEqDiff, Nat.reduceLT, Nat.reduceLeDiff, Nat.reduceAdd, Nat.reduceMul, Nat.reduceSub, Int.reduceToNat, Int.reduceNeg])
    | (refine And.intro (by first | rfl | omega | decide | (refine ⟨?_, ?_⟩ <;> (first | rfl | omega | decide)) | (refine ⟨?_, ?_, ?_⟩ <;> (first | rfl | omega | decide)) | (refine ⟨?_, ?_, ?_, ?_⟩ <;> (first | rfl | omega | decide))) ?_)
    | fail)
  all_goals (simp_all)

theorem isCharacter (n : Int) : Vs.Fn Try.prog F.impl_isCharacter [] [.v (.int .u8 n)] (.v (.bool (chOK n))) [] := by
  refine Cd.impl_isCharacter_ok.fn0 Try.mixed Cd.impl_isCharacter_nt Cd.impl_isCharacter_rs rfl fun X => ?_
  unfold Cd.impl_isCharacter
  simp -dsimp only [go_sem, reduceIte, reduceCtorEq, Nat.reduceEqDiff, Nat.reduceLT, Nat.reduceLeDiff, Nat.reduceAdd, Nat.reduceMul, Nat.reduceSub, Int.reduceToNat, Int.reduceNeg]
  repeat' (first
    | (refine RgK.mk rfl ?_; simp -dsimp only [go_sem, reduceIte, reduceCtorEq, Nat.reduceEqDiff, Nat.reduceLT, Nat.reduceLeDiff, Nat.reduceAdd, Nat.reduceMul, Nat.reduceSub, Int.reduceToNat, Int.reduceNeg])
    | (refine Br.mk (fun h => ?_) (fun h => ?_) <;> simp -dsimp only [go_sem, reduceIte, reduceCtorEq, Nat.reduceEqDiff, Nat.reduceLT, Nat.reduceLeDiff, Nat.reduceAdd, Nat.reduceMul, Nat.reduceSub, Int.reduceToNat, Int.reduceNeg, h])
    | (refine CallK.flat (by first | exact strIdx _ _) rfl ?_; simp -dsimp only [go_sem, reduceIte, reduceCtorEq, Nat.reduceEqDiff, Nat.reduceLT, Nat.reduceLeDiff, Nat.reduceAdd, Nat.reduceMul, Nat.reduceSub, Int.reduceToNat, Int.reduceNeg])
    | (refine CallK.pure (by first | exact strIdx _ _) ?_; simp -dsimp only [go_sem, reduceIte, reduceCtorEq, Nat.reduceEqDiff, Nat.reduceLT, Nat.reduceLeDiff, Nat.reduceAdd, Nat.reduceMul, Nat.reduceSub, Int.reduceToNat, Int.reduceNeg])
    | (refine And.intro (by first | rfl | omega | decide | (refine ⟨?_, ?_⟩ <;> (first | rfl | omega | decide)) | (refine ⟨?_, ?_, ?_⟩ <;> (first | rfl | omega | decide)) | (refine ⟨?_, ?_, ?_, ?_⟩ <;> (first | rfl | omega | decide))) ?_)
    | fail)
  all_goals (simp_all [chOK, CH])

def chTo (s : ByteArray) (i : Nat) : Bool := (s.data.toList.take i).all fun b => chOK b.toNat
def chAt (s : ByteArray) (i : Nat) : Bool := chOK (s.data.toList.getD i 0).toNat
theorem chTo_succ {s : ByteArray} {i : Nat} (h : i < s.size) : chTo s (i + 1) = (chTo s i && chAt s i) := by
  have hl : i < s.data.toList.length := h
  unfold chTo chAt
  rw [take_succ hl, List.all_append, List.getD_eq_getElem?_getD, List.getElem?_eq_getElem hl]
  simp
theorem chTo_all (s : ByteArray) : chTo s s.size = areCh s := by
  unfold chTo areCh
  rw [show s.size = s.data.toList.length from rfl, List.take_length]
theorem chAt_false {s : ByteArray} {i : Nat} (h : i < s.size) (h2 : chAt s i = false) : areCh s = false := by
  have hl : i < s.data.toList.length := h
  unfold chAt at h2
  rw [List.getD_eq_getElem?_getD, List.getElem?_eq_getElem hl] at h2
  exact not_all (p := fun b : UInt8 => chOK b.toNat) hl h2
theorem chAt_l03 (s : ByteArray) (i : Nat) : chAt s i = decide (l03 (s.data.toList.getD i 0).toNat ≥ 0) := ch_l03 _ (UInt8.toNat_lt _)
theorem chAt_eq (s : ByteArray) (i : Nat) : chOK (s.data.toList.getD i 0).toNat = chAt s i := rfl
attribute [local irreducible] chOK areCh chTo chAt l03
theorem areCharacters (s : ByteArray) (hs : s.size ≤ 1048576) : Vs.Fn Try.prog F.impl_areCharacters [] [.v (.string s)] (.v (.bool (areCh s))) [] := by
  refine Cd.impl_areCharacters_ok.fn0 Try.mixed Cd.impl_areCharacters_nt Cd.impl_areCharacters_rs rfl fun X => ?_
  unfold Cd.impl_areCharacters
  simp -dsimp only [go_sem, reduceIte, reduceCtorEq, Nat.reduceEqDiff, Nat.reduceLT, Nat.reduceLeDiff, Nat.reduceAdd, Nat.reduceMul, Nat.reduceSub, Int.reduceToNat, Int.reduceNeg]
  refine LoopK.intro (drawn_ok Try.mixed) (fun i : { i : Nat // i ≤ s.size ∧ chTo s i = true } => ⟨[(0, .v (.string s)), (3, .v (.int .i64 i.1))], []⟩) (fun i => s.size - i.1) ⟨0, by simp [chTo]⟩ ?_ ?_
  · simp [Vs.LeL, Vs.look]
  · rintro ⟨i, hi, hall⟩
    simp -dsimp only [go_sem, reduceIte, reduceCtorEq, Nat.reduceEqDiff, Nat.reduceLT, Nat.reduceLeDiff, Nat.reduceAdd, Nat.reduceMul, Nat.reduceSub, Int.reduceToNat, Int.reduceNeg]
    refine Br.mk (fun h1 => ?_) fun h1 => ?_
    · have hlt : i < s.size := by simpa using h1
      have hw := wrap_succ hlt hs
      simp -dsimp only [go_sem, reduceIte, reduceCtorEq, Nat.reduceEqDiff, Nat.reduceLT, Nat.reduceLeDiff, Nat.reduceAdd, Nat.reduceMul, Nat.reduceSub, Int.reduceToNat, Int.reduceNeg]
      refine ⟨⟨by omega, by omega⟩, CallK.flat (isCharacter _) rfl ?_⟩
      simp -dsimp only [chAt_eq]
      simp -dsimp only [go_sem, reduceIte, reduceCtorEq, Nat.reduceEqDiff, Nat.reduceLT, Nat.reduceLeDiff, Nat.reduceAdd, Nat.reduceMul, Nat.reduceSub, Int.reduceToNat, Int.reduceNeg]
      refine Br.mk (fun h2 => ?_) fun h2 => ?_
      · simp -dsimp only [go_sem, reduceIte, reduceCtorEq, Nat.reduceEqDiff, Nat.reduceLT, Nat.reduceLeDiff, Nat.reduceAdd, Nat.reduceMul, Nat.reduceSub, Int.reduceToNat, Int.reduceNeg]
        simp [chAt_false hlt (by simpa using h2)]
      · simp -dsimp only [go_sem, reduceIte, reduceCtorEq, Nat.reduceEqDiff, Nat.reduceLT, Nat.reduceLeDiff, Nat.reduceAdd, Nat.reduceMul, Nat.reduceSub, Int.reduceToNat, Int.reduceNeg, hw]
        exact ⟨⟨i + 1, by omega, by rw [chTo_succ hlt, hall]; simpa using h2⟩, by simp [Vs.LeL, Vs.look], by simp only; omega⟩
    · have hge : i = s.size := by
        have : ¬ i < s.size := by simpa using h1
        omega
      subst hge
      simp -dsimp only [go_sem, reduceIte, reduceCtorEq, Nat.reduceEqDiff, Nat.reduceLT, Nat.reduceLeDiff, Nat.reduceAdd, Nat.reduceMul, Nat.reduceSub, Int.reduceToNat, Int.reduceNeg]
      simp [← chTo_all, hall]

def l09 (s : ByteArray) (a b : Int) : Int := if (s.size : Int) ≠ W (b - a) then 2 else if areCh s then 0 else 7
theorem l09Text (s : ByteArray) (a b : Int) (hs : s.size ≤ 1048576) : Vs.Fn Try.prog F.spec_l09Text [] [.v (.string s), .agg [.v (.int .i64 a), .v (.int .i64 b)]] (.v (.int .i64 (l09 s a b))) [] := by
  refine Cd.spec_l09Text_ok.fn0 Try.mixed Cd.spec_l09Text_nt Cd.spec_l09Text_rs rfl fun X => ?_
  unfold Cd.spec_l09Text
  simp -dsimp only [go_sem, reduceIte, reduceCtorEq, Nat.reduceEqDiff, Nat.reduceLT, Nat.reduceLeDiff, Nat.reduceAdd, Nat.reduceMul, Nat.reduceSub, Int.reduceToNat, Int.reduceNeg]
  refine Br.mk (fun h0 => ?_) fun h0 => ?_
  · simp -dsimp only [go_sem, reduceIte, reduceCtorEq, Nat.reduceEqDiff, Nat.reduceLT, Nat.reduceLeDiff, Nat.reduceAdd, Nat.reduceMul, Nat.reduceSub, Int.reduceToNat, Int.reduceNeg]
    have : (s.size : Int) ≠ W (b - a) := by simpa using h0
    simp [l09, this]
  · simp -dsimp only [go_sem, reduceIte, reduceCtorEq, Nat.reduceEqDiff, Nat.reduceLT, Nat.reduceLeDiff, Nat.reduceAdd, Nat.reduceMul, Nat.reduceSub, Int.reduceToNat, Int.reduceNeg]
    have hsz : (s.size : Int) = W (b - a) := by simpa using h0
    refine LoopK.intro (drawn_ok Try.mixed) (fun i : { i : Nat // i ≤ s.size ∧ chTo s i = true } => ⟨[(0, .v (.string s)), (5, .v (.int .i64 i.1))], []⟩) (fun i => s.size - i.1) ⟨0, by simp [chTo]⟩ ?_ ?_
    · simp [Vs.LeL, Vs.look]
    · rintro ⟨i, hi, hall⟩
      simp -dsimp only [go_sem, reduceIte, reduceCtorEq, Nat.reduceEqDiff, Nat.reduceLT, Nat.reduceLeDiff, Nat.reduceAdd, Nat.reduceMul, Nat.reduceSub, Int.reduceToNat, Int.reduceNeg]
      refine Br.mk (fun h1 => ?_) fun h1 => ?_
      · have hlt : i < s.size := by simpa using h1
        have hw := wrap_succ hlt hs
        simp -dsimp only [go_sem, reduceIte, reduceCtorEq, Nat.reduceEqDiff, Nat.reduceLT, Nat.reduceLeDiff, Nat.reduceAdd, Nat.reduceMul, Nat.reduceSub, Int.reduceToNat, Int.reduceNeg]
        refine ⟨⟨by omega, by omega⟩, CallK.flat (l03Code _) rfl ?_⟩
        have hch := chAt_l03 s i
        simp -dsimp only [go_sem, reduceIte, reduceCtorEq, Nat.reduceEqDiff, Nat.reduceLT, Nat.reduceLeDiff, Nat.reduceAdd, Nat.reduceMul, Nat.reduceSub, Int.reduceToNat, Int.reduceNeg]
        refine Br.mk (fun h2 => ?_) fun h2 => ?_
        · simp -dsimp only [go_sem, reduceIte, reduceCtorEq, Nat.reduceEqDiff, Nat.reduceLT, Nat.reduceLeDiff, Nat.reduceAdd, Nat.reduceMul, Nat.reduceSub, Int.reduceToNat, Int.reduceNeg]
          simp only [decide_eq_true_eq] at h2
          have h3 : chAt s i = false := by rw [hch, decide_eq_false_iff_not]; omega
          simp [l09, hsz, chAt_false hlt h3]
        · simp -dsimp only [go_sem, reduceIte, reduceCtorEq, Nat.reduceEqDiff, Nat.reduceLT, Nat.reduceLeDiff, Nat.reduceAdd, Nat.reduceMul, Nat.reduceSub, Int.reduceToNat, Int.reduceNeg, hw]
          simp only [decide_eq_false_iff_not] at h2
          have h3 : chAt s i = true := by rw [hch, decide_eq_true_eq]; omega
          exact ⟨⟨i + 1, by omega, by rw [chTo_succ hlt, hall, h3]; rfl⟩, by simp [Vs.LeL, Vs.look], by simp only; omega⟩
      · have hge : i = s.size := by
          have : ¬ i < s.size := by simpa using h1
          omega
        subst hge
        simp -dsimp only [go_sem, reduceIte, reduceCtorEq, Nat.reduceEqDiff, Nat.reduceLT, Nat.reduceLeDiff, Nat.reduceAdd, Nat.reduceMul, Nat.reduceSub, Int.reduceToNat, Int.reduceNeg]
        have : areCh s = true := by rw [← chTo_all, hall]
        simp [l09, hsz, this]

def fldB (a b w : Int) : Bool := decide (0 ≤ a) && (decide (a < b) && decide (b ≤ w))
def numB (a b w : Int) : Bool := fldB a b w && decide (W (b - a) ≤ 12)
theorem isField (a b w : Int) : Vs.Fn Try.prog F.impl_isField [] [.agg [.v (.int .i64 a), .v (.int .i64 b)], .v (.int .i64 w)] (.v (.bool (fldB a b w))) [] := by
  refine Cd.impl_isField_ok.fn0 Try.mixed Cd.impl_isField_nt Cd.impl_isField_rs rfl fun X => ?_
  unfold Cd.impl_isField
  simp -dsimp only [go_sem, reduceIte, reduceCtorEq, Nat.reduceEqDiff, Nat.reduceLT, Nat.reduceLeDiff, Nat.reduceAdd, Nat.reduceMul, Nat.reduceSub, Int.reduceToNat, Int.reduceNeg]
  repeat' (first
    | (refine RgK.mk rfl ?_; simp -dsimp only [go_sem, reduceIte, reduceCtorEq, Nat.reduceEqDiff, Nat.reduceLT, Nat.reduceLeDiff, Nat.reduceAdd, Nat.reduceMul, Nat.reduceSub, Int.reduceToNat, Int.reduceNeg])
    | (refine Br.mk (fun h => ?_) (fun h => ?_) <;> simp -dsimp only [go_sem, reduceIte, reduceCtorEq, Nat.reduceEqDiff, Nat.reduceLT, Nat.reduceLeDiff, Nat.reduceAdd, Nat.reduceMul, Nat.reduceSub, Int.reduceToNat, Int.reduceNeg, h])
    | (refine And.intro (by first | rfl | omega | decide | (refine ⟨?_, ?_⟩ <;> (first | rfl | omega | decide)) | (refine ⟨?_, ?_, ?_⟩ <;> (first | rfl | omega | decide)) | (refine ⟨?_, ?_, ?_, ?_⟩ <;> (first | rfl | omega | decide))) ?_)
    | fail)
  all_goals (first | (simp_all [fldB]; done) | (simp_all [fldB]; omega) | (refine ret_eq ?_; grind [fldB]))

theorem l02Field (a b w : Int) : Vs.Fn Try.prog F.spec_l02Field [] [.agg [.v (.int .i64 a), .v (.int .i64 b)], .v (.int .i64 w)] (.v (.bool (fldB a b w))) [] := by
  refine Cd.spec_l02Field_ok.fn0 Try.mixed Cd.spec_l02Field_nt Cd.spec_l02Field_rs rfl fun X => ?_
  unfold Cd.spec_l02Field
  simp -dsimp only [go_sem, reduceIte, reduceCtorEq, Nat.reduceEqDiff, Nat.reduceLT, Nat.reduceLeDiff, Nat.reduceAdd, Nat.reduceMul, Nat.reduceSub, Int.reduceToNat, Int.reduceNeg]
  repeat' (first
    | (refine RgK.mk rfl ?_; simp -dsimp only [go_sem, reduceIte, reduceCtorEq, Nat.reduceEqDiff, Nat.reduceLT, Nat.reduceLeDiff, Nat.reduceAdd, Nat.reduceMul, Nat.reduceSub, Int.reduceToNat, Int.reduceNeg])
    | (refine Br.mk (fun h => ?_) (fun h => ?_) <;> simp -dsimp only [go_sem, reduceIte, reduceCtorEq, Nat.reduceEqDiff, Nat.reduceLT, Nat.reduceLeDiff, Nat.reduceAdd, Nat.reduceMul, Nat.reduceSub, Int.reduceToNat, Int.reduceNeg, h])
    | (refine And.intro (by first | rfl | omega | decide | (refine ⟨?_, ?_⟩ <;> (first | rfl | omega | decide)) | (refine ⟨?_, ?_, ?_⟩ <;> (first | rfl | omega | decide)) | (refine ⟨?_, ?_, ?_, ?_⟩ <;> (first | rfl | omega | decide))) ?_)
    | fail)
  all_goals (first | (simp_all [fldB]; done) | (simp_all [fldB]; omega) | (refine ret_eq ?_; grind [fldB]))

theorem isNumberField (a b w : Int) : Vs.Fn Try.prog F.impl_isNumberField [] [.agg [.v (.int .i64 a), .v (.int .i64 b)], .v (.int .i64 w)] (.v (.bool (numB a b w))) [] := by
  refine Cd.impl_isNumberField_ok.fn0 Try.mixed Cd.impl_isNumberField_nt Cd.impl_isNumberField_rs rfl fun X => ?_
  unfold Cd.impl_isNumberField
  simp -dsimp only [go_sem, reduceIte, reduceCtorEq, Nat.reduceEqDiff, Nat.reduceLT, Nat.reduceLeDiff, Nat.reduceAdd, Nat.reduceMul, Nat.reduceSub, Int.reduceToNat, Int.reduceNeg]
  repeat' (first
    | (refine RgK.mk rfl ?_; simp -dsimp only [go_sem, reduceIte, reduceCtorEq, Nat.reduceEqDiff, Nat.reduceLT, Nat.reduceLeDiff, Nat.reduceAdd, Nat.reduceMul, Nat.reduceSub, Int.reduceToNat, Int.reduceNeg])
    | (refine Br.mk (fun h => ?_) (fun h => ?_) <;> simp -dsimp only [go_sem, reduceIte, reduceCtorEq, Nat.reduceEqDiff, Nat.reduceLT, Nat.reduceLeDiff, Nat.reduceAdd, Nat.reduceMul, Nat.reduceSub, Int.reduceToNat, Int.reduceNeg, h])
    | (refine CallK.flat (by first | exact isField _ _ _) rfl ?_; simp -dsimp only [go_sem, reduceIte, reduceCtorEq, Nat.reduceEqDiff, Nat.reduceLT, Nat.reduceLeDiff, Nat.reduceAdd, Nat.reduceMul, Nat.reduceSub, Int.reduceToNat, Int.reduceNeg])
    | (refine CallK.pure (by first | exact isField _ _ _) ?_; simp -dsimp only [go_sem, reduceIte, reduceCtorEq, Nat.reduceEqDiff, Nat.reduceLT, Nat.reduceLeDiff, Nat.reduceAdd, Nat.reduceMul, Nat.reduceSub, Int.reduceToNat, Int.reduceNeg])
    | (refine And.intro (by first | rfl | omega | decide | (refine ⟨?_, ?_⟩ <;> (first | rfl | omega | decide)) | (refine ⟨?_, ?_, ?_⟩ <;> (first | rfl | omega | decide)) | (refine ⟨?_, ?_, ?_, ?_⟩ <;> (first | rfl | omega | decide))) ?_)
    | fail)
  all_goals (first | (simp_all [numB]; done) | (refine ret_eq ?_; grind [numB]))

structure Spc where
  w0 : Int
  w1 : Int
  text : ByteArray
  g0 : Int
  g1 : Int
  s0 : Int
  s1 : Int
def cP (x : Spc) : List AV := [.v (.int .i64 x.w0), .v (.int .i64 x.w1), .v (.string x.text), .v (.int .i64 x.g0), .v (.int .i64 x.g1), .v (.int .i64 x.s0), .v (.int .i64 x.s1)]
def noText (s : ByteArray) : Bool := s.toList == (⟨#[]⟩ : ByteArray).toList
def spcB (x : Spc) (w : Int) : Bool := fldB x.g0 x.g1 w && (numB x.s0 x.s1 w && (if noText x.text then (x.w0 == 0 && x.w1 == 0) else fldB x.w0 x.w1 w && (areCh x.text && ((x.text.size : Int) == W (x.w1 - x.w0)))))
theorem l09_eq (s : ByteArray) (a b : Int) : (l09 s a b == 0) = (areCh s && ((s.size : Int) == W (b - a))) := by
  unfold l09
  by_cases h : (s.size : Int) = W (b - a)
  · cases h2 : areCh s <;> simp [h]
  · cases h2 : areCh s <;> simp [h]
theorem impl_ValidSpec (x : Spc) (w : Int) (hs : x.text.size ≤ 1048576) : Vs.Fn Try.prog F.impl_ValidSpec [] [.agg (cP x), .v (.int .i64 w)] (.v (.bool (inB w 1 20 && spcB x w))) [] := by
  refine Cd.impl_ValidSpec_ok.fn0 Try.mixed Cd.impl_ValidSpec_nt Cd.impl_ValidSpec_rs rfl fun X => ?_
  unfold Cd.impl_ValidSpec
  simp -dsimp only [go_sem, reduceIte, reduceCtorEq, Nat.reduceEqDiff, Nat.reduceLT, Nat.reduceLeDiff, Nat.reduceAdd, Nat.reduceMul, Nat.reduceSub, Int.reduceToNat, Int.reduceNeg, cP]
  repeat' (first
    | (refine RgK.mk rfl ?_; simp -dsimp only [go_sem, reduceIte, reduceCtorEq, Nat.reduceEqDiff, Nat.reduceLT, Nat.reduceLeDiff, Nat.reduceAdd, Nat.reduceMul, Nat.reduceSub, Int.reduceToNat, Int.reduceNeg, cP])
    | (refine Br.mk (fun h => ?_) (fun h => ?_) <;> simp -dsimp only [go_sem, reduceIte, reduceCtorEq, Nat.reduceEqDiff, Nat.reduceLT, Nat.reduceLeDiff, Nat.reduceAdd, Nat.reduceMul, Nat.reduceSub, Int.reduceToNat, Int.reduceNeg, h, cP])
    | (refine CallK.flat (by first | exact inside _ _ _ | exact isField _ _ _ | exact isNumberField _ _ _ | exact areCharacters _ hs) rfl ?_; simp -dsimp only [go_sem, reduceIte, reduceCtorEq, Nat.reduceEqDiff, Nat.reduceLT, Nat.reduceLeDiff, Nat.reduceAdd, Nat.reduceMul, Nat.reduceSub, Int.reduceToNat, Int.reduceNeg, cP])
    | (refine CallK.pure (by first | exact inside _ _ _ | exact isField _ _ _ | exact isNumberField _ _ _ | exact areCharacters _ hs) ?_; simp -dsimp only [go_sem, reduceIte, reduceCtorEq, Nat.reduceEqDiff, Nat.reduceLT, Nat.reduceLeDiff, Nat.reduceAdd, Nat.reduceMul, Nat.reduceSub, Int.reduceToNat, Int.reduceNeg, cP])
    | (refine And.intro (by first | rfl | omega | decide | (refine ⟨?_, ?_⟩ <;> (first | rfl | omega | decide)) | (refine ⟨?_, ?_, ?_⟩ <;> (first | rfl | omega | decide)) | (refine ⟨?_, ?_, ?_, ?_⟩ <;> (first | rfl | omega | decide))) ?_)
    | fail)
  all_goals (first | (simp_all [spcB, noText]; done) | (refine ret_eq ?_; grind [spcB, noText]))

theorem l16Ok (x : Spc) (w : Int) (hs : x.text.size ≤ 1048576) : Vs.Fn Try.prog F.spec_l16Ok [] [.ro (cP x), .v (.int .i64 w)] (.v (.bool (spcB x w))) [] := by
  refine Cd.spec_l16Ok_ok.fn0 Try.mixed Cd.spec_l16Ok_nt Cd.spec_l16Ok_rs rfl fun X => ?_
  unfold Cd.spec_l16Ok
  simp -dsimp only [go_sem, reduceIte, reduceCtorEq, Nat.reduceEqDiff, Nat.reduceLT, Nat.reduceLeDiff, Nat.reduceAdd, Nat.reduceMul, Nat.reduceSub, Int.reduceToNat, Int.reduceNeg, cP]
  repeat' (first
    | (refine RgK.mk rfl ?_; simp -dsimp only [go_sem, reduceIte, reduceCtorEq, Nat.reduceEqDiff, Nat.reduceLT, Nat.reduceLeDiff, Nat.reduceAdd, Nat.reduceMul, Nat.reduceSub, Int.reduceToNat, Int.reduceNeg, cP])
    | (refine Br.mk (fun h => ?_) (fun h => ?_) <;> simp -dsimp only [go_sem, reduceIte, reduceCtorEq, Nat.reduceEqDiff, Nat.reduceLT, Nat.reduceLeDiff, Nat.reduceAdd, Nat.reduceMul, Nat.reduceSub, Int.reduceToNat, Int.reduceNeg, h, cP])
    | (refine CallK.flat (by first | exact l02Field _ _ _ | exact l09Text _ _ _ hs) rfl ?_; simp -dsimp only [go_sem, reduceIte, reduceCtorEq, Nat.reduceEqDiff, Nat.reduceLT, Nat.reduceLeDiff, Nat.reduceAdd, Nat.reduceMul, Nat.reduceSub, Int.reduceToNat, Int.reduceNeg, cP])
    | (refine CallK.pure (by first | exact l02Field _ _ _ | exact l09Text _ _ _ hs) ?_; simp -dsimp only [go_sem, reduceIte, reduceCtorEq, Nat.reduceEqDiff, Nat.reduceLT, Nat.reduceLeDiff, Nat.reduceAdd, Nat.reduceMul, Nat.reduceSub, Int.reduceToNat, Int.reduceNeg, cP])
    | (refine And.intro (by first | rfl | omega | decide | (refine ⟨?_, ?_⟩ <;> (first | rfl | omega | decide)) | (refine ⟨?_, ?_, ?_⟩ <;> (first | rfl | omega | decide)) | (refine ⟨?_, ?_, ?_, ?_⟩ <;> (first | rfl | omega | decide))) ?_)
    | fail)
  all_goals (first | (simp_all [spcB, numB, noText, l09_eq]; done) | (refine ret_eq ?_; grind [spcB, numB, noText, l09_eq]))

end Go.Proofs.Ytokfhfdnmnblfaa
