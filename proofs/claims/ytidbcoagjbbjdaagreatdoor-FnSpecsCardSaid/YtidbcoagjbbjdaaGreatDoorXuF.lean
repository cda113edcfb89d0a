/- Characters, fields, specifications and steps. -/
import Derived.Test.YtidbcoagjbbjdaaGreatDoorVsD
import Derived.Test.YtidbcoagjbbjdaaGreatDoorXuD
import Derived.Test.YtidbcoagjbbjdaaGreatDoorVtI
set_option linter.all false
set_option maxHeartbeats 8000000
namespace Go.Proofs.YtidbcoagjbbjdaaGreatDoor
open Go.Vs
variable [Vs.Tab 0 Vs.powP]
attribute [local irreducible] Vs.Fn
theorem u64_nonneg (n : Int) : 0 ≤ IntKind.u64.wrap n := by
 simp only [IntKind.wrap, IntKind.bits, IntKind.signed, Bool.false_and, Bool.false_eq_true, if_false]
 exact Int.emod_nonneg _ (by decide)
def bitR2 (r : Int) : Int := if r = 12 then 1 else if r = 11 then 2 else if inB r 0 9 then W (4 * 2 ^ (min (IntKind.u64.wrap r).toNat 64)) else 0
def isDig (n : Int) : Bool := decide (n ≥ 48) && decide (n ≤ 57)
def btw (n a b : Int) : Bool := decide (n ≥ a) && decide (n ≤ b)
def orI (a b : Int) : Int := bitsOp .or .i64 a b
def l03 (n : Int) : Int :=
 if n = 32 then 0 else if n = 38 then 1 else if n = 45 then 2 else if n = 47 then orI 4 (bitR2 1) else if isDig n then bitR2 (W (W n - 48))
 else if btw n 65 73 then orI 1 (bitR2 (W (W (W n - 65) + 1))) else if btw n 74 82 then orI 2 (bitR2 (W (W (W n - 74) + 1))) else if btw n 83 90 then orI 4 (bitR2 (W (W (W n - 83) + 2))) else -1
def CH : ByteArray := ⟨#[32, 38, 65, 66, 67, 68, 69, 70, 71, 72, 73, 45, 74, 75, 76, 77, 78, 79, 80, 81, 82, 47, 83, 84, 85, 86, 87, 88, 89, 90, 48, 49, 50, 51, 52, 53, 54, 55, 56, 57]⟩
def chOK (n : Int) : Bool := decide (idxByte CH n ≥ 0)
def areCh (s : ByteArray) : Bool := s.data.toList.all fun b => chOK b.toNat
theorem l02BitR (r : Int) : Fz F.s_l02Bit [.v (.int .i64 r)] (.v (.int .i64 (bitR2 r))) := by
 refine fn0 Cd.s_l02Bit_k fun X => ?_
 repeat' first|simp -dsimp only [go_sem]|apply Br.mk<;>intro h<;>try simp -dsimp only[h]|refine RgK.mk rfl ?_|refine CallK.c (by first|exact l00In _ _ _) ?_|refine And.intro (by first|rfl | omega | decide|exact u64_nonneg _ | (refine ⟨?_, ?_⟩ <;> (first | rfl | omega | decide|exact u64_nonneg _)) | (refine ⟨?_, ?_, ?_⟩ <;> (first | rfl | omega | decide|exact u64_nonneg _)) | (refine ⟨?_, ?_, ?_, ?_⟩ <;> (first | rfl | omega | decide|exact u64_nonneg _))) ?_|fail
 all_goals (simp_all [bitR2, IntKind.bits, u64_nonneg])
theorem l01Digit (n : Int) : Fz F.s_l01Digit [.v (.int .u8 n)] (.v (.bool (isDig n))) := by
 refine fn0 Cd.s_l01Digit_k fun X => ?_
 repeat' first|simp -dsimp only [go_sem]|apply Br.mk<;>intro h<;>try simp -dsimp only[h]|refine aC ?_|fail
 all_goals (first | (simp_all [isDig]; done) | (simp_all [isDig]; omega))
theorem l03Code (n : Int) : Fz F.s_l03Code [.v (.int .u8 n)] (.v (.int .i64 (l03 n))) := by
 refine fn0 Cd.s_l03Code_k fun X => ?_
 repeat' first|simp -dsimp only [go_sem]|apply Br.mk<;>intro h<;>try simp -dsimp only[h]|refine CallK.c (by first|exact l02BitR _|exact l01Digit _) ?_|refine aC ?_|fail
 all_goals (first | (simp_all [l03, btw, orI]; done) | (refine ret_eq ?_; grind [l03, btw, orI]))
theorem sliteIdx (s : ByteArray) (n : Int) : Fz F.internal_stringslite_IndexByte [.v (.string s), .v (.int .u8 n)] (.v (.int .i64 (idxByte s n))) := by
 refine fn0 Cd.internal_stringslite_IndexByte_k fun X => ?_
 repeat' first|simp -dsimp only [go_sem]|apply Br.mk<;>intro h<;>try simp -dsimp only[h]|refine aC ?_|fail
 all_goals (simp_all)
theorem strIdx (s : ByteArray) (n : Int) : Fz F.strings_IndexByte [.v (.string s), .v (.int .u8 n)] (.v (.int .i64 (idxByte s n))) := by
 refine fn0 Cd.strings_IndexByte_k fun X => ?_
 repeat' first|simp -dsimp only [go_sem]|apply Br.mk<;>intro h<;>try simp -dsimp only[h]|refine CallK.c (by first|exact sliteIdx _ _) ?_|refine aC ?_|fail
 all_goals (simp_all)
theorem isCharacter (n : Int) : Fz F.i_isCharacter [.v (.int .u8 n)] (.v (.bool (chOK n))) := by
 refine fn0 Cd.i_isCharacter_k fun X => ?_
 repeat' first|simp -dsimp only [go_sem]|apply Br.mk<;>intro h<;>try simp -dsimp only[h]|refine CallK.c (by first|exact strIdx _ _) ?_|refine aC ?_|fail
 all_goals (simp_all [chOK, CH])
def chTo (s : ByteArray) (i : Nat) : Bool := (s.data.toList.take i).all fun b => chOK b.toNat
def chAt (s : ByteArray) (i : Nat) : Bool := chOK (s.data.toList.getD i 0).toNat
theorem chTo_succ {s : ByteArray} {i : Nat} (h : i < s.size) : chTo s (i + 1) = (chTo s i && chAt s i) := by
 have hl : i < s.data.toList.length := h
 unfold chTo chAt
 rw [take_succ hl, List.all_append, List.getD_eq_getElem?_getD, List.getElem?_eq_getElem hl]
 simp
theorem chTo_all (s : ByteArray) : chTo s s.size = areCh s := by
 unfold chTo areCh
 rw [show s.size = s.data.toList.length from rfl, List.take_length]
theorem chAt_false {s : ByteArray} {i : Nat} (h : i < s.size) (h2 : chAt s i = false) : areCh s = false := by
 have hl : i < s.data.toList.length := h
 unfold chAt at h2
 rw [List.getD_eq_getElem?_getD, List.getElem?_eq_getElem hl] at h2
 exact not_all (p := fun b : UInt8 => chOK b.toNat) hl h2
theorem chAt_eq (s : ByteArray) (i : Nat) : chOK (s.data.toList.getD i 0).toNat = chAt s i := rfl
attribute [local irreducible] chOK areCh chTo chAt l03
theorem areCharacters (s : ByteArray) (hs : s.size ≤ 1048576) : Fz F.i_areCharacters [.v (.string s)] (.v (.bool (areCh s))) := by
 refine fn0 Cd.i_areCharacters_k fun X => ?_
 simp -dsimp only [go_sem]
 refine LoopK.intro dM (fun i : { i : Nat // i ≤ s.size ∧ chTo s i = true } => ⟨[(0, .v (.string s)), (3, .v (.int .i64 i.1))], []⟩) (fun i => s.size - i.1) ⟨0, by simp [chTo]⟩ ?_ ?_
 ·simp [Vs.LeL, Vs.look]
 ·rintro ⟨i, hi, hall⟩
  simp -dsimp only [go_sem]
  refine Br.mk (fun h1 => ?_) fun h1 => ?_
  ·have hlt : i < s.size := by simpa using h1
   have hw := wrap_succ hlt hs
   simp -dsimp only [go_sem]
   refine ⟨⟨by omega, by omega⟩, CallK.flat (isCharacter _) rfl ?_⟩
   simp -dsimp only [chAt_eq]
   simp -dsimp only [go_sem]
   refine Br.mk (fun h2 => ?_) fun h2 => ?_
   ·simp -dsimp only [go_sem]
    simp [chAt_false hlt (by simpa using h2)]
   ·simp -dsimp only [go_sem, hw]
    exact ⟨⟨i + 1, by omega, by rw [chTo_succ hlt, hall]; simpa using h2⟩, by simp [Vs.LeL, Vs.look], by simp only; omega⟩
  ·have hge : i = s.size := by
    have : ¬ i < s.size := by simpa using h1
    omega
   subst hge
   simp -dsimp only [go_sem]
   simp [← chTo_all, hall]
def fldB (a b w : Int) : Bool := decide (0 ≤ a) && (decide (a < b) && decide (b ≤ w))
def numB (a b w : Int) : Bool := fldB a b w && decide (W (b - a) ≤ 12)
theorem isField (a b w : Int) : Fz F.i_isField [.agg [.v (.int .i64 a), .v (.int .i64 b)], .v (.int .i64 w)] (.v (.bool (fldB a b w))) := by
 refine fn0 Cd.i_isField_k fun X => ?_
 repeat' first|simp -dsimp only [go_sem]|apply Br.mk<;>intro h<;>try simp -dsimp only[h]|refine aC ?_|fail
 all_goals (first | (simp_all [fldB]; done) | (simp_all [fldB]; omega) | (refine ret_eq ?_; grind [fldB]))
theorem l02Field (a b w : Int) : Fz F.s_l02Field [.agg [.v (.int .i64 a), .v (.int .i64 b)], .v (.int .i64 w)] (.v (.bool (fldB a b w))) := by
 refine fn0 Cd.s_l02Field_k fun X => ?_
 repeat' first|simp -dsimp only [go_sem]|apply Br.mk<;>intro h<;>try simp -dsimp only[h]|refine aC ?_|fail
 all_goals (first | (simp_all [fldB]; done) | (simp_all [fldB]; omega) | (refine ret_eq ?_; grind [fldB]))
theorem isNumberField (a b w : Int) : Fz F.i_isNumberField [.agg [.v (.int .i64 a), .v (.int .i64 b)], .v (.int .i64 w)] (.v (.bool (numB a b w))) := by
 refine fn0 Cd.i_isNumberField_k fun X => ?_
 repeat' first|simp -dsimp only [go_sem]|apply Br.mk<;>intro h<;>try simp -dsimp only[h]|refine CallK.c (by first|exact isField _ _ _) ?_|refine aC ?_|fail
 all_goals (first | (simp_all [numB]; done) | (refine ret_eq ?_; grind [numB]))
structure Spc where
 w0 : Int
 w1 : Int
 text : ByteArray
 g0 : Int
 g1 : Int
 s0 : Int
 s1 : Int
def cP (x : Spc) : List AV := [.v (.int .i64 x.w0), .v (.int .i64 x.w1), .v (.string x.text), .v (.int .i64 x.g0), .v (.int .i64 x.g1), .v (.int .i64 x.s0), .v (.int .i64 x.s1)]
def noText (s : ByteArray) : Bool := s.toList == (⟨#[]⟩ : ByteArray).toList
def spcB (x : Spc) (w : Int) : Bool := fldB x.g0 x.g1 w && (numB x.s0 x.s1 w && (if noText x.text then (x.w0 == 0 && x.w1 == 0) else fldB x.w0 x.w1 w && (areCh x.text && ((x.text.size : Int) == W (x.w1 - x.w0)))))
theorem impl_ValidSpec (x : Spc) (w : Int) (hs : x.text.size ≤ 1048576) : Fz F.i_ValidSpec [.agg (cP x), .v (.int .i64 w)] (.v (.bool (inB w 1 20 && spcB x w))) := by
 refine fn0 Cd.i_ValidSpec_k fun X => ?_
 repeat' first|simp -dsimp only [go_sem, cP]|apply Br.mk<;>intro h<;>try simp -dsimp only[h]|refine CallK.c (by first|exact inside _ _ _|exact isField _ _ _|exact isNumberField _ _ _|exact areCharacters _ hs) ?_|refine aC ?_|fail
 all_goals (first | (simp_all [spcB, noText]; done) | (refine ret_eq ?_; grind [spcB, noText]))
end Go.Proofs.YtidbcoagjbbjdaaGreatDoor
