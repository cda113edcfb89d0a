/- Characters, fields, specifications and steps. -/
import Derived.Test.YtidbcoagjbbjdaaGreatDoorVsI
import Derived.Test.YtidbcoagjbbjdaaGreatDoorXuD
import Derived.Test.YtidbcoagjbbjdaaGreatDoorVtI
set_option linter.all false
set_option maxHeartbeats 8000000
namespace Go.Proofs.YtidbcoagjbbjdaaGreatDoor
open Go.Vs
variable [Vs.Tab 0 Vs.powP]
attribute [local irreducible] Vs.Fn
theorem u64_nonneg (n : Int) : 0 ≤ IntKind.u64.wrap n := by
 simp only [IntKind.wrap, IntKind.bits, IntKind.signed, Bool.false_and, Bool.false_eq_true, if_false]
 exact Int.emod_nonneg _ (by decide)
def bitR2 (r : Int) : Int := if r = 12 then 1 else if r = 11 then 2 else if inB r 0 9 then W (4 * 2 ^ (min (IntKind.u64.wrap r).toNat 64)) else 0
def isDig (n : Int) : Bool := decide (n ≥ 48) && decide (n ≤ 57)
def btw (n a b : Int) : Bool := decide (n ≥ a) && decide (n ≤ b)
def orI (a b : Int) : Int := bitsOp .or .i64 a b
def l03 (n : Int) : Int :=
 if n = 32 then 0 else if n = 38 then 1 else if n = 45 then 2 else if n = 47 then orI 4 (bitR2 1) else if isDig n then bitR2 (W (W n - 48))
 else if btw n 65 73 then orI 1 (bitR2 (W (W (W n - 65) + 1))) else if btw n 74 82 then orI 2 (bitR2 (W (W (W n - 74) + 1))) else if btw n 83 90 then orI 4 (bitR2 (W (W (W n - 83) + 2))) else -1
def CH : ByteArray := ⟨#[32, 38, 65, 66, 67, 68, 69, 70, 71, 72, 73, 45, 74, 75, 76, 77, 78, 79, 80, 81, 82, 47, 83, 84, 85, 86, 87, 88, 89, 90, 48, 49, 50, 51, 52, 53, 54, 55, 56, 57]⟩
def chOK (n : Int) : Bool := decide (idxByte CH n ≥ 0)
set_option maxRecDepth 100000 in
theorem ch_l03 : ∀ n : Nat, n < 256 → chOK (n : Int) = decide (l03 (n : Int) ≥ 0) := by decide +kernel
def areCh (s : ByteArray) : Bool := s.data.toList.all fun b => chOK b.toNat
theorem l02BitR (r : Int) : Fz F.s_l02Bit [.v (.int .i64 r)] (.v (.int .i64 (bitR2 r))) := by
 refine fn0 Cd.s_l02Bit_k fun X => ?_
 repeat' first|simp -dsimp only [go_sem]|apply Br.mk<;>intro h<;>try simp -dsimp only[h]|refine RgK.mk rfl ?_|refine CallK.c (by first|exact l00In _ _ _) ?_|refine And.intro (by first|rfl | omega | decide|exact u64_nonneg _ | (refine ⟨?_, ?_⟩ <;> (first | rfl | omega | decide|exact u64_nonneg _)) | (refine ⟨?_, ?_, ?_⟩ <;> (first | rfl | omega | decide|exact u64_nonneg _)) | (refine ⟨?_, ?_, ?_, ?_⟩ <;> (first | rfl | omega | decide|exact u64_nonneg _))) ?_|fail
 all_goals (simp_all [bitR2, IntKind.bits, u64_nonneg])
theorem l01Digit (n : Int) : Fz F.s_l01Digit [.v (.int .u8 n)] (.v (.bool (isDig n))) := by
 refine fn0 Cd.s_l01Digit_k fun X => ?_
 repeat' first|simp -dsimp only [go_sem]|apply Br.mk<;>intro h<;>try simp -dsimp only[h]|refine aC ?_|fail
 all_goals (first | (simp_all [isDig]; done) | (simp_all [isDig]; omega))
theorem l03Code (n : Int) : Fz F.s_l03Code [.v (.int .u8 n)] (.v (.int .i64 (l03 n))) := by
 refine fn0 Cd.s_l03Code_k fun X => ?_
 repeat' first|simp -dsimp only [go_sem]|apply Br.mk<;>intro h<;>try simp -dsimp only[h]|refine CallK.c (by first|exact l02BitR _|exact l01Digit _) ?_|refine aC ?_|fail
 all_goals (first | (simp_all [l03, btw, orI]; done) | (refine ret_eq ?_; grind [l03, btw, orI]))
theorem sliteIdx (s : ByteArray) (n : Int) : Fz F.internal_stringslite_IndexByte [.v (.string s), .v (.int .u8 n)] (.v (.int .i64 (idxByte s n))) := by
 refine fn0 Cd.internal_stringslite_IndexByte_k fun X => ?_
 repeat' first|simp -dsimp only [go_sem]|apply Br.mk<;>intro h<;>try simp -dsimp only[h]|refine aC ?_|fail
 all_goals (simp_all)
theorem strIdx (s : ByteArray) (n : Int) : Fz F.strings_IndexByte [.v (.string s), .v (.int .u8 n)] (.v (.int .i64 (idxByte s n))) := by
 refine fn0 Cd.strings_IndexByte_k fun X => ?_
 repeat' first|simp -dsimp only [go_sem]|apply Br.mk<;>intro h<;>try simp -dsimp only[h]|refine CallK.c (by first|exact sliteIdx _ _) ?_|refine aC ?_|fail
 all_goals (simp_all)
theorem isCharacter (n : Int) : Fz F.i_isCharacter [.v (.int .u8 n)] (.v (.bool (chOK n))) := by
 refine fn0 Cd.i_isCharacter_k fun X => ?_
 repeat' first|simp -dsimp only [go_sem]|apply Br.mk<;>intro h<;>try simp -dsimp only[h]|refine CallK.c (by first|exact strIdx _ _) ?_|refine aC ?_|fail
 all_goals (simp_all [chOK, CH])
def chTo (s : ByteArray) (i : Nat) : Bool := (s.data.toList.take i).all fun b => chOK b.toNat
def chAt (s : ByteArray) (i : Nat) : Bool := chOK (s.data.toList.getD i 0).toNat
theorem chTo_succ {s : ByteArray} {i : Nat} (h : i < s.size) : chTo s (i + 1) = (chTo s i && chAt s i) := by
 have hl : i < s.data.toList.length := h
 unfold chTo chAt
 rw [take_succ hl, List.all_append, List.getD_eq_getElem?_getD, List.getElem?_eq_getElem hl]
 simp
theorem chTo_all (s : ByteArray) : chTo s s.size = areCh s := by
 unfold chTo areCh
 rw [show s.size = s.data.toList.length from rfl, List.take_length]
theorem chAt_false {s : ByteArray} {i : Nat} (h : i < s.size) (h2 : chAt s i = false) : areCh s = false := by
 have hl : i < s.data.toList.length := h
 unfold chAt at h2
 rw [List.getD_eq_getElem?_getD, List.getElem?_eq_getElem hl] at h2
 exact not_all (p := fun b : UInt8 => chOK b.toNat) hl h2
theorem chAt_l03 (s : ByteArray) (i : Nat) : chAt s i = decide (l03 (s.data.toList.getD i 0).toNat ≥ 0) := ch_l03 _ (UInt8.toNat_lt _)
theorem chAt_eq (s : ByteArray) (i : Nat) : chOK (s.data.toList.getD i 0).toNat = chAt s i := rfl
attribute [local irreducible] chOK areCh chTo chAt l03
theorem areCharacters (s : ByteArray) (hs : s.size ≤ 1048576) : Fz F.i_areCharacters [.v (.string s)] (.v (.bool (areCh s))) := by
 refine fn0 Cd.i_areCharacters_k fun X => ?_
 simp -dsimp only [go_sem]
 refine LoopK.intro dM (fun i : { i : Nat // i ≤ s.size ∧ chTo s i = true } => ⟨[(0, .v (.string s)), (3, .v (.int .i64 i.1))], []⟩) (fun i => s.size - i.1) ⟨0, by simp [chTo]⟩ ?_ ?_
 ·simp [Vs.LeL, Vs.look]
 ·rintro ⟨i, hi, hall⟩
  simp -dsimp only [go_sem]
  refine Br.mk (fun h1 => ?_) fun h1 => ?_
  ·have hlt : i < s.size := by simpa using h1
   have hw := wrap_succ hlt hs
   simp -dsimp only [go_sem]
   refine ⟨⟨by omega, by omega⟩, CallK.flat (isCharacter _) rfl ?_⟩
   simp -dsimp only [chAt_eq]
   simp -dsimp only [go_sem]
   refine Br.mk (fun h2 => ?_) fun h2 => ?_
   ·simp -dsimp only [go_sem]
    simp [chAt_false hlt (by simpa using h2)]
   ·simp -dsimp only [go_sem, hw]
    exact ⟨⟨i + 1, by omega, by rw [chTo_succ hlt, hall]; simpa using h2⟩, by simp [Vs.LeL, Vs.look], by simp only; omega⟩
  ·have hge : i = s.size := by
    have : ¬ i < s.size := by simpa using h1
    omega
   subst hge
   simp -dsimp only [go_sem]
   simp [← chTo_all, hall]
def l09 (s : ByteArray) (a b : Int) : Int := if (s.size : Int) ≠ W (b - a) then 2 else if areCh s then 0 else 7
theorem l09Text (s : ByteArray) (a b : Int) (hs : s.size ≤ 1048576) : Fz F.s_l09Text [.v (.string s), .agg [.v (.int .i64 a), .v (.int .i64 b)]] (.v (.int .i64 (l09 s a b))) := by
 refine fn0 Cd.s_l09Text_k fun X => ?_
 simp -dsimp only [go_sem]
 refine Br.mk (fun h0 => ?_) fun h0 => ?_
 ·simp -dsimp only [go_sem]
  have : (s.size : Int) ≠ W (b - a) := by simpa using h0
  simp [l09, this]
 ·simp -dsimp only [go_sem]
  have hsz : (s.size : Int) = W (b - a) := by simpa using h0
  refine LoopK.intro dM (fun i : { i : Nat // i ≤ s.size ∧ chTo s i = true } => ⟨[(0, .v (.string s)), (5, .v (.int .i64 i.1))], []⟩) (fun i => s.size - i.1) ⟨0, by simp [chTo]⟩ ?_ ?_
  ·simp [Vs.LeL, Vs.look]
  ·rintro ⟨i, hi, hall⟩
   simp -dsimp only [go_sem]
   refine Br.mk (fun h1 => ?_) fun h1 => ?_
   ·have hlt : i < s.size := by simpa using h1
    have hw := wrap_succ hlt hs
    simp -dsimp only [go_sem]
    refine ⟨⟨by omega, by omega⟩, CallK.flat (l03Code _) rfl ?_⟩
    have hch := chAt_l03 s i
    simp -dsimp only [go_sem]
    refine Br.mk (fun h2 => ?_) fun h2 => ?_
    ·simp -dsimp only [go_sem]
     simp only [decide_eq_true_eq] at h2
     have h3 : chAt s i = false := by rw [hch, decide_eq_false_iff_not]; omega
     simp [l09, hsz, chAt_false hlt h3]
    ·simp -dsimp only [go_sem, hw]
     simp only [decide_eq_false_iff_not] at h2
     have h3 : chAt s i = true := by rw [hch, decide_eq_true_eq]; omega
     exact ⟨⟨i + 1, by omega, by rw [chTo_succ hlt, hall, h3]; rfl⟩, by simp [Vs.LeL, Vs.look], by simp only; omega⟩
   ·have hge : i = s.size := by
     have : ¬ i < s.size := by simpa using h1
     omega
    subst hge
    simp -dsimp only [go_sem]
    have : areCh s = true := by rw [← chTo_all, hall]
    simp [l09, hsz, this]
def fldB (a b w : Int) : Bool := decide (0 ≤ a) && (decide (a < b) && decide (b ≤ w))
def numB (a b w : Int) : Bool := fldB a b w && decide (W (b - a) ≤ 12)
theorem isField (a b w : Int) : Fz F.i_isField [.agg [.v (.int .i64 a), .v (.int .i64 b)], .v (.int .i64 w)] (.v (.bool (fldB a b w))) := by
 refine fn0 Cd.i_isField_k fun X => ?_
 repeat' first|simp -dsimp only [go_sem]|apply Br.mk<;>intro h<;>try simp -dsimp only[h]|refine aC ?_|fail
 all_goals (first | (simp_all [fldB]; done) | (simp_all [fldB]; omega) | (refine ret_eq ?_; grind [fldB]))
theorem l02Field (a b w : Int) : Fz F.s_l02Field [.agg [.v (.int .i64 a), .v (.int .i64 b)], .v (.int .i64 w)] (.v (.bool (fldB a b w))) := by
 refine fn0 Cd.s_l02Field_k fun X => ?_
 repeat' first|simp -dsimp only [go_sem]|apply Br.mk<;>intro h<;>try simp -dsimp only[h]|refine aC ?_|fail
 all_goals (first | (simp_all [fldB]; done) | (simp_all [fldB]; omega) | (refine ret_eq ?_; grind [fldB]))
theorem isNumberField (a b w : Int) : Fz F.i_isNumberField [.agg [.v (.int .i64 a), .v (.int .i64 b)], .v (.int .i64 w)] (.v (.bool (numB a b w))) := by
 refine fn0 Cd.i_isNumberField_k fun X => ?_
 repeat' first|simp -dsimp only [go_sem]|apply Br.mk<;>intro h<;>try simp -dsimp only[h]|refine CallK.c (by first|exact isField _ _ _) ?_|refine aC ?_|fail
 all_goals (first | (simp_all [numB]; done) | (refine ret_eq ?_; grind [numB]))
theorem l15Tray (n : Int) : Fz F.s_l15Tray [.v (.int .i64 n)] (.v (.bool (inB n 0 5))) := by
 refine fn0 Cd.s_l15Tray_k fun X => ?_
 repeat' first|simp -dsimp only [go_sem]|apply Br.mk<;>intro h<;>try simp -dsimp only[h]|refine CallK.c (by first|exact l00In _ _ _|exact inside _ _ _) ?_|refine aC ?_|fail
 all_goals (simp_all)
theorem isTray (n : Int) : Fz F.i_isTray [.v (.int .i64 n)] (.v (.bool (inB n 0 5))) := by
 refine fn0 Cd.i_isTray_k fun X => ?_
 repeat' first|simp -dsimp only [go_sem]|apply Br.mk<;>intro h<;>try simp -dsimp only[h]|refine CallK.c (by first|exact l00In _ _ _|exact inside _ _ _) ?_|refine aC ?_|fail
 all_goals (simp_all)
theorem l15Both (n : Int) : Fz F.s_l15Both [.v (.int .i64 n)] (.v (.bool (inB n 2 4))) := by
 refine fn0 Cd.s_l15Both_k fun X => ?_
 repeat' first|simp -dsimp only [go_sem]|apply Br.mk<;>intro h<;>try simp -dsimp only[h]|refine CallK.c (by first|exact l00In _ _ _|exact inside _ _ _) ?_|refine aC ?_|fail
 all_goals (simp_all)
theorem takesTwo (n : Int) : Fz F.i_takesTwo [.v (.int .i64 n)] (.v (.bool (inB n 2 4))) := by
 refine fn0 Cd.i_takesTwo_k fun X => ?_
 repeat' first|simp -dsimp only [go_sem]|apply Br.mk<;>intro h<;>try simp -dsimp only[h]|refine CallK.c (by first|exact l00In _ _ _|exact inside _ _ _) ?_|refine aC ?_|fail
 all_goals (simp_all)
structure Spc where
 w0 : Int
 w1 : Int
 text : ByteArray
 g0 : Int
 g1 : Int
 s0 : Int
 s1 : Int
def cP (x : Spc) : List AV := [.v (.int .i64 x.w0), .v (.int .i64 x.w1), .v (.string x.text), .v (.int .i64 x.g0), .v (.int .i64 x.g1), .v (.int .i64 x.s0), .v (.int .i64 x.s1)]
def noText (s : ByteArray) : Bool := s.toList == (⟨#[]⟩ : ByteArray).toList
theorem l09_eq (s : ByteArray) (a b : Int) : (l09 s a b == 0) = (areCh s && ((s.size : Int) == W (b - a))) := by
 unfold l09
 by_cases h : (s.size : Int) = W (b - a)
 ·cases h2 : areCh s <;> simp [h]
 ·cases h2 : areCh s <;> simp [h]
end Go.Proofs.YtidbcoagjbbjdaaGreatDoor
