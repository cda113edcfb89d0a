/- The code of each function, resolved. -/
import Derived.Test.YtgeeipfdkamhmaaGreatDoorEtC
import Derived.Test.YtgeeipfdkamhmaaGreatDoorRows
namespace Go.Proofs.YtgeeipfdkamhmaaGreatDoor
open Go.Vs
set_option maxRecDepth 100000
theorem Tryz.own : ownKnob Tryz.prog.godebug = none := by kernel_rfl
theorem Tryz.laidOut : laidOutB Tryz.prog = true := by kernel_rfl
theorem Tryz.mixed : Tryz.prog.follows .mixedOrders = true := Tryz.checked.mixed
namespace F
abbrev laws_FnExactSplitHolds : FuncId := 4
abbrev laws_toField : FuncId := 10
abbrev laws_szCardS : FuncId := 14
abbrev spec_SplitHolds : FuncId := 15
abbrev laws_toCardS : FuncId := 16
abbrev impl_SplitHolds : FuncId := 17
abbrev laws_eqCardS : FuncId := 18
abbrev spec_l18Of : FuncId := 25
abbrev impl_controlOf : FuncId := 33
abbrev _impl_Control__plus : FuncId := 34
abbrev laws_szCard : FuncId := 37
abbrev spec_l02Deck : FuncId := 38
abbrev spec_l18Field : FuncId := 39
abbrev spec_l07Width : FuncId := 40
abbrev spec_MatchDecks : FuncId := 41
abbrev laws_toCard : FuncId := 42
abbrev impl_ValidDeck : FuncId := 43
abbrev impl_isNumberField : FuncId := 44
abbrev impl_deckColumns : FuncId := 45
abbrev impl_MatchDecks : FuncId := 46
abbrev laws_eqCard : FuncId := 47
abbrev spec_l00In : FuncId := 50
abbrev spec_l02Field : FuncId := 52
abbrev spec_l03Number : FuncId := 55
abbrev spec_l02Part : FuncId := 56
abbrev spec_l18Digits : FuncId := 57
abbrev impl_inside : FuncId := 62
abbrev impl_isField : FuncId := 65
abbrev impl_areCharacters : FuncId := 66
abbrev _impl_Card__columns : FuncId := 67
abbrev impl_size_impl_Card_ : FuncId := 68
abbrev impl_numberIn : FuncId := 69
abbrev impl_digitSum : FuncId := 70
abbrev laws_szInt64S : FuncId := 72
abbrev spec_l02Ok : FuncId := 73
abbrev spec_l09Two : FuncId := 74
abbrev spec_l07Step : FuncId := 75
abbrev spec_l09Match : FuncId := 76
abbrev laws_toInt64S : FuncId := 77
abbrev impl_ValidCard : FuncId := 78
abbrev impl_collateCode : FuncId := 79
abbrev impl_isAscending : FuncId := 80
abbrev impl_MatchDecks_1 : FuncId := 81
abbrev slices_DeleteFunc___impl_Card_impl_Card_ : FuncId := 82
abbrev impl_newDeck : FuncId := 83
abbrev impl_MatchDecks_1_1 : FuncId := 84
abbrev impl_hasEqual : FuncId := 85
abbrev laws_eqInt64S : FuncId := 86
abbrev spec_l03Code : FuncId := 88
abbrev spec_l03Digit : FuncId := 89
abbrev impl_isCharacter : FuncId := 91
abbrev impl_size_int64_ : FuncId := 92
abbrev impl_copyInts : FuncId := 93
abbrev slices_ContainsFunc___int64_int64_ : FuncId := 94
abbrev impl_numberIn_1 : FuncId := 95
abbrev impl_bitOf : FuncId := 96
abbrev impl_digitOf : FuncId := 97
abbrev impl_digitList : FuncId := 98
abbrev spec_l07Keys : FuncId := 100
abbrev spec_l03Compare : FuncId := 101
abbrev spec_l09Has : FuncId := 102
abbrev spec_l02Own : FuncId := 103
abbrev impl_ValidCard_1 : FuncId := 104
abbrev impl_haveField : FuncId := 105
abbrev impl_steps : FuncId := 106
abbrev slices_IndexFunc___impl_Card_impl_Card_ : FuncId := 107
abbrev impl_newCard : FuncId := 108
abbrev slices_ContainsFunc___impl_Card_impl_Card_ : FuncId := 109
abbrev impl_hasEqual_1 : FuncId := 110
abbrev impl_compareFields : FuncId := 111
abbrev spec_l02Bit : FuncId := 112
abbrev spec_l01Digit : FuncId := 113
abbrev strings_IndexByte : FuncId := 114
abbrev slices_IndexFunc___int64_int64_ : FuncId := 115
abbrev impl_wheelsShow : FuncId := 116
abbrev impl_digitsOf : FuncId := 117
abbrev impl_absOf : FuncId := 118
abbrev spec_l03Key : FuncId := 119
abbrev spec_l03Rank : FuncId := 120
abbrev spec_l00Own : FuncId := 121
abbrev impl_haveField_1 : FuncId := 122
abbrev impl_hasField : FuncId := 123
abbrev impl_compareHoles : FuncId := 124
abbrev internal_stringslite_IndexByte : FuncId := 125
abbrev impl_Decimal : FuncId := 126
abbrev spec_l03Text : FuncId := 127
abbrev spec_l03Order : FuncId := 128
abbrev impl_hasCharacters : FuncId := 129
abbrev impl_rankOf : FuncId := 130
abbrev strconv_FormatInt : FuncId := 132
abbrev spec_l03Char : FuncId := 133
abbrev impl_hasCharacters_1 : FuncId := 134
abbrev impl_codeOf : FuncId := 135
abbrev internal_strconv_FormatInt : FuncId := 136
abbrev impl_CodeOf : FuncId := 137
abbrev internal_strconv_small : FuncId := 138
abbrev internal_strconv_numDigits : FuncId := 139
abbrev internal_strconv_formatBase10 : FuncId := 140
abbrev impl_isDigit : FuncId := 142
abbrev internal_strconv_log10Pow2 : FuncId := 143
end F
theorem Ld.t33 : ldOf Tryz.prog 33 = some (true, 3) := by kernel_rfl
theorem Ld.t39 : ldOf Tryz.prog 39 = some (true, 2) := by kernel_rfl
theorem Ld.t43 : ldOf Tryz.prog 43 = some (true, 9) := by kernel_rfl
theorem Ld.t41 : ldOf Tryz.prog 41 = some (true, 2) := by kernel_rfl
theorem Ld.t85 : ldOf Tryz.prog 85 = some (true, 1) := by kernel_rfl
theorem Ld.t131 : ldOf Tryz.prog 131 = some (true, 2) := by kernel_rfl
theorem Ld.t151 : ldOf Tryz.prog 151 = some (true, 1) := by kernel_rfl
attribute [go_sem] Ld.t33 Ld.t39 Ld.t43 Ld.t41 Ld.t85 Ld.t131 Ld.t151
/-- loop.example/g01012/laws.FnExactSplitHolds DRAWS -/
def Cd.laws_FnExactSplitHolds : ACode :=
  .seq (.region [⟨some 6, .box (.tmp 2), none⟩,
     ⟨some 7, .box (.tmp 3), none⟩,
     ⟨some 8, .mv (.const (.bool false)), none⟩] [0, 1, 6, 7] []) <|
  .seq (.region [⟨some 9, .mv (.const (.int .i64 (1048576))), none⟩] [0, 1, 6, 7, 9] []) <|
  .seq (.region [⟨some 16, .mv (.tmp 0), none⟩,
     ⟨some 17, .mv (.tmp 9), none⟩,
     ⟨some 18, .call (.func F.laws_szCardS) [(.tmp 16), (.tmp 17)] [], none⟩,
     ⟨some 9, .mv (.tmp 18), none⟩] [0, 1, 6, 7, 9] []) <|
  .seq (.seq (.region [⟨some 19, .mv (.tmp 9), none⟩,
      ⟨some 20, .bin .lss (.tmp 19) (.const (.int .i64 (0))), none⟩] [0, 1, 6, 7, 9, 20] []) <|
   .cond (.tmp 20)
     (.seq (.region [⟨some 8, .mv (.const (.bool true)), none⟩] [8] []) <|
     .ret)
     (.skip)) <|
  .seq (.region [⟨some 21, .mv (.tmp 1), none⟩,
     ⟨some 22, .mv (.tmp 9), none⟩,
     ⟨some 23, .call (.func F.laws_szCardS) [(.tmp 21), (.tmp 22)] [], none⟩,
     ⟨some 9, .mv (.tmp 23), none⟩] [0, 1, 6, 7, 9] []) <|
  .seq (.seq (.region [⟨some 24, .mv (.tmp 9), none⟩,
      ⟨some 25, .bin .lss (.tmp 24) (.const (.int .i64 (0))), none⟩] [0, 1, 6, 7, 25] []) <|
   .cond (.tmp 25)
     (.seq (.region [⟨some 8, .mv (.const (.bool true)), none⟩] [8] []) <|
     .ret)
     (.skip)) <|
  .seq (.region [⟨some 27, .mv (.tmp 0), none⟩,
     ⟨some 28, .call (.func F.laws_toCardS) [(.tmp 27)] [], none⟩,
     ⟨some 29, .mv (.tmp 1), none⟩,
     ⟨some 30, .call (.func F.laws_toCardS) [(.tmp 29)] [], none⟩,
     ⟨some 31, .load true 2 (.tmp 6), none⟩,
     ⟨some 32, .call (.func F.laws_toField) [(.tmp 31)] [], none⟩,
     ⟨some 33, .load true 2 (.tmp 7), none⟩,
     ⟨some 34, .call (.func F.laws_toField) [(.tmp 33)] [], none⟩,
     ⟨some 35, .call (.func F.spec_SplitHolds) [(.tmp 28), (.tmp 30), (.tmp 32), (.tmp 34)] [], none⟩,
     ⟨some 26, .mv (.tmp 35), none⟩,
     ⟨some 36, .extract (.tmp 26) 0, none⟩,
     ⟨some 37, .extract (.tmp 26) 1, none⟩,
     ⟨some 10, .mv (.tmp 36), none⟩,
     ⟨some 11, .mv (.tmp 37), none⟩] [0, 1, 6, 7, 10, 11] [27, 29, 28, 30, 31, 32, 33, 34, 35, 26, 36, 37, 10]) <|
  .seq (.region [⟨some 38, .mv (.tmp 0), none⟩,
     ⟨some 39, .call (.func F.laws_toCardS) [(.tmp 38)] [], none⟩,
     ⟨some 12, .mv (.tmp 39), none⟩] [0, 1, 6, 7, 10, 11, 12] []) <|
  .seq (.region [⟨some 40, .mv (.tmp 1), none⟩,
     ⟨some 41, .call (.func F.laws_toCardS) [(.tmp 40)] [], none⟩,
     ⟨some 13, .mv (.tmp 41), none⟩] [0, 1, 6, 7, 10, 11, 12, 13] []) <|
  .seq (.region [⟨some 43, .mv (.tmp 12), none⟩,
     ⟨some 44, .mv (.tmp 13), none⟩,
     ⟨some 45, .load true 2 (.tmp 6), none⟩,
     ⟨some 46, .call (.func F.laws_toField) [(.tmp 45)] [], none⟩,
     ⟨some 47, .load true 2 (.tmp 7), none⟩,
     ⟨some 48, .call (.func F.laws_toField) [(.tmp 47)] [], none⟩,
     ⟨some 49, .call (.func F.impl_SplitHolds) [(.tmp 43), (.tmp 44), (.tmp 46), (.tmp 48)] [], none⟩,
     ⟨some 42, .mv (.tmp 49), none⟩,
     ⟨some 50, .extract (.tmp 42) 0, none⟩,
     ⟨some 51, .extract (.tmp 42) 1, none⟩,
     ⟨some 14, .mv (.tmp 50), none⟩,
     ⟨some 15, .mv (.tmp 51), none⟩] [0, 1, 10, 11, 12, 13, 14, 15] [43, 44, 45, 46, 47, 48, 49, 42, 50, 51, 14]) <|
  .seq (.seq (.region [⟨some 52, .mv (.tmp 14), none⟩,
      ⟨some 53, .mv (.tmp 10), none⟩,
      ⟨some 54, .binB .neq (.tmp 52) (.tmp 53), none⟩,
      ⟨some 55, .mv (.tmp 54), none⟩,
      ⟨some 56, .mv (.tmp 15), some (55, false)⟩,
      ⟨some 57, .mv (.tmp 11), some (55, false)⟩,
      ⟨some 58, .bin .neq (.tmp 56) (.tmp 57), some (55, false)⟩,
      ⟨some 59, .pick (.tmp 55) (.const (.bool true)) (.tmp 58), none⟩] [0, 1, 12, 13, 59] []) <|
   .cond (.tmp 59)
     (.seq (.region [⟨some 8, .mv (.const (.bool false)), none⟩] [8] []) <|
     .ret)
     (.skip)) <|
  .seq (.seq (.region [⟨some 60, .mv (.tmp 12), none⟩,
      ⟨some 61, .mv (.tmp 0), none⟩,
      ⟨some 62, .call (.func F.laws_toCardS) [(.tmp 61)] [], none⟩,
      ⟨some 63, .call (.func F.laws_eqCardS) [(.tmp 60), (.tmp 62)] [], none⟩,
      ⟨some 64, .un .not (.tmp 63), none⟩] [1, 13, 64] []) <|
   .cond (.tmp 64)
     (.seq (.region [⟨some 8, .mv (.const (.bool false)), none⟩] [8] []) <|
     .ret)
     (.skip)) <|
  .seq (.seq (.region [⟨some 65, .mv (.tmp 13), none⟩,
      ⟨some 66, .mv (.tmp 1), none⟩,
      ⟨some 67, .call (.func F.laws_toCardS) [(.tmp 66)] [], none⟩,
      ⟨some 68, .call (.func F.laws_eqCardS) [(.tmp 65), (.tmp 67)] [], none⟩,
      ⟨some 69, .un .not (.tmp 68), none⟩] [69] []) <|
   .cond (.tmp 69)
     (.seq (.region [⟨some 8, .mv (.const (.bool false)), none⟩] [8] []) <|
     .ret)
     (.skip)) <|
  .seq (.region [⟨some 8, .mv (.const (.bool true)), none⟩] [8] []) <|
  .ret
theorem Cd.laws_FnExactSplitHolds_rs : Tryz.f4.results.toList = [.tmp 8] := rfl
theorem Cd.laws_FnExactSplitHolds_nt : Tryz.f4.ntmps = 70 := rfl
theorem Cd.laws_FnExactSplitHolds_ok : CodeIsR Tryz.prog 4 Tryz.f4 Cd.laws_FnExactSplitHolds := ⟨Tryz.func4, by kernel_rfl, by decide +kernel⟩
/-- loop.example/g01012/laws.toField -/
def Cd.laws_toField : ACode :=
  .seq (.region [⟨some 1, .box (.tmp 0), none⟩,
     ⟨some 2, .alloc [.v (.int .i64 (0)), .v (.int .i64 (0))], none⟩] [1, 2] []) <|
  .seq (.region [⟨some 3, .alloc [.v (.int .i64 (0)), .v (.int .i64 (0))], none⟩] [1, 2, 3] []) <|
  .seq (.region [⟨some 4, .fieldAddr 0 (.tmp 1), none⟩,
     ⟨some 5, .load false 1 (.tmp 4), none⟩,
     ⟨some 6, .fieldAddr 0 (.tmp 3), none⟩,
     ⟨none, .store 1 (.tmp 6) (.tmp 5), none⟩] [1, 2, 3] []) <|
  .seq (.region [⟨some 7, .fieldAddr 1 (.tmp 1), none⟩,
     ⟨some 8, .load false 1 (.tmp 7), none⟩,
     ⟨some 9, .fieldAddr 1 (.tmp 3), none⟩,
     ⟨none, .store 1 (.tmp 9) (.tmp 8), none⟩] [2, 3] []) <|
  .seq (.region [⟨some 10, .load true 2 (.tmp 3), none⟩,
     ⟨none, .store 2 (.tmp 2) (.tmp 10), none⟩] [2] []) <|
  .ret
theorem Cd.laws_toField_rs : Tryz.f10.results.toList = [.cell 2 41] := rfl
theorem Cd.laws_toField_nt : Tryz.f10.ntmps = 11 := rfl
theorem Cd.laws_toField_ok : CodeIsR Tryz.prog 10 Tryz.f10 Cd.laws_toField := ⟨Tryz.func10, by kernel_rfl, by decide +kernel⟩
/-- loop.example/g01012/laws.szCardS -/
def Cd.laws_szCardS : ACode :=
  .seq (.region [⟨some 4, .mv (.const (.int .i64 (0))), none⟩] [0, 1] []) <|
  .seq (.region [⟨some 6, .mv (.tmp 1), none⟩,
     ⟨some 7, .mv (.tmp 0), none⟩,
     ⟨some 8, .len (.tmp 7), none⟩,
     ⟨some 9, .bin .sub (.tmp 6) (.tmp 8), none⟩,
     ⟨some 1, .mv (.tmp 9), none⟩] [0, 1] []) <|
  .seq (.seq (.region [⟨some 10, .mv (.tmp 1), none⟩,
      ⟨some 11, .bin .lss (.tmp 10) (.const (.int .i64 (0))), none⟩] [0, 1, 11] []) <|
   .cond (.tmp 11)
     (.seq (.region [⟨some 4, .mv (.const (.int .i64 (-1))), none⟩] [4] []) <|
     .ret)
     (.skip)) <|
  .seq (.seq (.region [⟨some 5, .mv (.const (.int .i64 (0))), none⟩] [0, 1, 5] []) <|
   .block 0 (
     .loop (
       .seq (.seq (.region [⟨some 12, .mv (.tmp 5), none⟩,
           ⟨some 13, .mv (.tmp 0), none⟩,
           ⟨some 14, .len (.tmp 13), none⟩,
           ⟨some 15, .bin .lss (.tmp 12) (.tmp 14), none⟩] [0, 1, 5, 15] []) <|
        .cond (.tmp 15)
          (.skip)
          (.exit 0)) <|
       .seq (.block 1 (
          .seq (.region [⟨some 18, .mv (.tmp 0), none⟩,
             ⟨some 19, .mv (.tmp 5), none⟩,
             ⟨some 20, .idxSl 1 (.tmp 18) (.tmp 19), none⟩,
             ⟨some 21, .load true 1 (.tmp 20), none⟩,
             ⟨some 22, .mv (.tmp 1), none⟩,
             ⟨some 23, .call (.func F.laws_szCard) [(.tmp 21), (.tmp 22)] [], none⟩,
             ⟨some 1, .mv (.tmp 23), none⟩] [0, 1, 5] []) <|
          .seq (.region [⟨some 24, .mv (.tmp 1), none⟩,
             ⟨some 25, .bin .lss (.tmp 24) (.const (.int .i64 (0))), none⟩] [0, 1, 5, 25] []) <|
          .cond (.tmp 25)
            (.seq (.region [⟨some 4, .mv (.const (.int .i64 (-1))), none⟩] [4] []) <|
            .ret)
            (.skip))) <|
       .region [⟨some 16, .mv (.tmp 5), none⟩,
         ⟨some 17, .bin .add (.tmp 16) (.const (.int .i64 (1))), none⟩,
         ⟨some 5, .mv (.tmp 17), none⟩] [0, 1, 5] []))) <|
  .seq (.region [⟨some 26, .mv (.tmp 1), none⟩,
     ⟨some 4, .mv (.tmp 26), none⟩] [4] []) <|
  .ret
theorem Cd.laws_szCardS_rs : Tryz.f14.results.toList = [.tmp 4] := rfl
theorem Cd.laws_szCardS_nt : Tryz.f14.ntmps = 27 := rfl
theorem Cd.laws_szCardS_ok : CodeIsR Tryz.prog 14 Tryz.f14 Cd.laws_szCardS := ⟨Tryz.func14, by kernel_rfl, by decide +kernel⟩
/-- loop.example/g01012/spec.SplitHolds DRAWS -/
def Cd.spec_SplitHolds : ACode :=
  .seq (.region [⟨some 6, .box (.tmp 2), none⟩,
     ⟨some 7, .box (.tmp 3), none⟩,
     ⟨some 8, .mv (.const (.bool false)), none⟩,
     ⟨some 9, .mv (.const (.int .i64 (0))), none⟩] [0, 1, 6, 7] []) <|
  .seq (.seq (.region [⟨some 18, .mv (.tmp 0), none⟩,
      ⟨some 19, .call (.func F.spec_l02Deck) [(.tmp 18)] [], none⟩,
      ⟨some 20, .un .not (.tmp 19), none⟩,
      ⟨some 21, .mv (.tmp 20), none⟩,
      ⟨some 22, .mv (.tmp 1), some (21, false)⟩,
      ⟨some 23, .call (.func F.spec_l02Deck) [(.tmp 22)] [], some (21, false)⟩,
      ⟨some 24, .un .not (.tmp 23), some (21, false)⟩,
      ⟨some 25, .pick (.tmp 21) (.const (.bool true)) (.tmp 24), none⟩] [0, 1, 6, 7, 25] []) <|
   .cond (.tmp 25)
     (.seq (.region [⟨some 8, .mv (.const (.bool false)), none⟩,
        ⟨some 9, .mv (.const (.int .i64 (1))), none⟩] [8, 9] []) <|
     .ret)
     (.skip)) <|
  .seq (.seq (.region [⟨some 26, .load true 2 (.tmp 6), none⟩,
      ⟨some 27, .mv (.tmp 0), none⟩,
      ⟨some 28, .call (.func F.spec_l07Width) [(.tmp 27)] [], none⟩,
      ⟨some 29, .call (.func F.spec_l18Field) [(.tmp 26), (.tmp 28)] [], none⟩,
      ⟨some 30, .un .not (.tmp 29), none⟩] [0, 1, 6, 7, 30] [26, 27, 28, 29, 30]) <|
   .cond (.tmp 30)
     (.seq (.region [⟨some 8, .mv (.const (.bool false)), none⟩,
        ⟨some 9, .mv (.const (.int .i64 (2))), none⟩] [8, 9] []) <|
     .ret)
     (.skip)) <|
  .seq (.region [⟨some 32, .mv (.tmp 0), none⟩,
     ⟨some 33, .load true 2 (.tmp 6), none⟩,
     ⟨some 34, .call (.func F.spec_l18Of) [(.tmp 32), (.tmp 33)] [], none⟩,
     ⟨some 31, .mv (.tmp 34), none⟩,
     ⟨some 35, .extract (.tmp 31) 0, none⟩,
     ⟨some 36, .extract (.tmp 31) 1, none⟩,
     ⟨some 10, .alloc [.v (.int .i64 (0)), .v (.int .i64 (0)), .v (.int .i64 (0))], none⟩,
     ⟨none, .store 3 (.tmp 10) (.tmp 35), none⟩,
     ⟨some 11, .mv (.tmp 36), none⟩] [0, 1, 6, 7, 10, 11] []) <|
  .seq (.seq (.region [⟨some 37, .mv (.tmp 11), none⟩,
      ⟨some 38, .un .not (.tmp 37), none⟩] [0, 1, 6, 7, 10, 38] []) <|
   .cond (.tmp 38)
     (.seq (.region [⟨some 8, .mv (.const (.bool false)), none⟩,
        ⟨some 9, .mv (.const (.int .i64 (8))), none⟩] [8, 9] []) <|
     .ret)
     (.skip)) <|
  .seq (.region [⟨some 40, .mv (.tmp 0), none⟩,
     ⟨some 41, .mv (.tmp 1), none⟩,
     ⟨some 42, .load true 2 (.tmp 7), none⟩,
     ⟨some 43, .call (.func F.spec_MatchDecks) [(.tmp 40), (.tmp 41), (.tmp 42)] [], none⟩,
     ⟨some 39, .mv (.tmp 43), none⟩,
     ⟨some 44, .extract (.tmp 39) 0, none⟩,
     ⟨some 45, .extract (.tmp 39) 1, none⟩,
     ⟨some 12, .mv (.tmp 44), none⟩,
     ⟨some 13, .mv (.tmp 45), none⟩] [6, 10, 12, 13] []) <|
  .seq (.seq (.region [⟨some 46, .mv (.tmp 13), none⟩,
      ⟨some 47, .bin .neq (.tmp 46) (.const (.int .i64 (0))), none⟩] [6, 10, 12, 13, 47] []) <|
   .cond (.tmp 47)
     (.seq (.region [⟨some 48, .mv (.tmp 13), none⟩,
        ⟨some 8, .mv (.const (.bool false)), none⟩,
        ⟨some 9, .mv (.tmp 48), none⟩] [8, 9] []) <|
     .ret)
     (.skip)) <|
  .seq (.region [⟨some 50, .mv (.tmp 12), none⟩,
     ⟨some 51, .idxSl 1 (.tmp 50) (.const (.int .i64 (0))), none⟩,
     ⟨some 52, .load false 1 (.tmp 51), none⟩,
     ⟨some 53, .load true 2 (.tmp 6), none⟩,
     ⟨some 54, .call (.func F.spec_l18Of) [(.tmp 52), (.tmp 53)] [], none⟩,
     ⟨some 49, .mv (.tmp 54), none⟩,
     ⟨some 55, .extract (.tmp 49) 0, none⟩,
     ⟨some 56, .extract (.tmp 49) 1, none⟩,
     ⟨some 14, .alloc [.v (.int .i64 (0)), .v (.int .i64 (0)), .v (.int .i64 (0))], none⟩,
     ⟨none, .store 3 (.tmp 14) (.tmp 55), none⟩,
     ⟨some 15, .mv (.tmp 56), none⟩] [6, 10, 12, 14, 15] [50, 52, 53, 51, 54, 49, 55, 56, 14]) <|
  .seq (.region [⟨some 58, .mv (.tmp 12), none⟩,
     ⟨some 59, .idxSl 1 (.tmp 58) (.const (.int .i64 (2))), none⟩,
     ⟨some 60, .load false 1 (.tmp 59), none⟩,
     ⟨some 61, .load true 2 (.tmp 6), none⟩,
     ⟨some 62, .call (.func F.spec_l18Of) [(.tmp 60), (.tmp 61)] [], none⟩,
     ⟨some 57, .mv (.tmp 62), none⟩,
     ⟨some 63, .extract (.tmp 57) 0, none⟩,
     ⟨some 64, .extract (.tmp 57) 1, none⟩,
     ⟨some 16, .alloc [.v (.int .i64 (0)), .v (.int .i64 (0)), .v (.int .i64 (0))], none⟩,
     ⟨none, .store 3 (.tmp 16) (.tmp 63), none⟩,
     ⟨some 17, .mv (.tmp 64), none⟩] [10, 14, 15, 16, 17] [58, 60, 61, 59, 62, 57, 63, 64, 16]) <|
  .seq (.seq (.region [⟨some 65, .mv (.tmp 15), none⟩,
      ⟨some 66, .un .not (.tmp 65), none⟩,
      ⟨some 67, .mv (.tmp 66), none⟩,
      ⟨some 68, .mv (.tmp 17), some (67, false)⟩,
      ⟨some 69, .un .not (.tmp 68), some (67, false)⟩,
      ⟨some 70, .pick (.tmp 67) (.const (.bool true)) (.tmp 69), none⟩] [10, 14, 16, 70] []) <|
   .cond (.tmp 70)
     (.seq (.region [⟨some 8, .mv (.const (.bool false)), none⟩,
        ⟨some 9, .mv (.const (.int .i64 (8))), none⟩] [8, 9] []) <|
     .ret)
     (.skip)) <|
  .seq (.region [⟨some 71, .load true 3 (.tmp 10), none⟩,
     ⟨some 72, .fieldAddr 0 (.tmp 14), none⟩,
     ⟨some 73, .load false 1 (.tmp 72), none⟩,
     ⟨some 74, .fieldAddr 0 (.tmp 16), none⟩,
     ⟨some 75, .load false 1 (.tmp 74), none⟩,
     ⟨some 76, .bin .add (.tmp 73) (.tmp 75), none⟩,
     ⟨some 77, .fieldAddr 1 (.tmp 14), none⟩,
     ⟨some 78, .load false 1 (.tmp 77), none⟩,
     ⟨some 79, .fieldAddr 1 (.tmp 16), none⟩,
     ⟨some 80, .load false 1 (.tmp 79), none⟩,
     ⟨some 81, .bin .add (.tmp 78) (.tmp 80), none⟩,
     ⟨some 82, .fieldAddr 2 (.tmp 14), none⟩,
     ⟨some 83, .load false 1 (.tmp 82), none⟩,
     ⟨some 84, .fieldAddr 2 (.tmp 16), none⟩,
     ⟨some 85, .load false 1 (.tmp 84), none⟩,
     ⟨some 86, .bin .add (.tmp 83) (.tmp 85), none⟩,
     ⟨some 87, .build [.v (.int .i64 (0)), .v (.int .i64 (0)), .v (.int .i64 (0))] [(0, 1, (.tmp 76)), (1, 1, (.tmp 81)), (2, 1, (.tmp 86))], none⟩,
     ⟨some 88, .eqA false [0, 0, 0] (.tmp 71) (.tmp 87), none⟩,
     ⟨some 8, .mv (.tmp 88), none⟩,
     ⟨some 9, .mv (.const (.int .i64 (0))), none⟩] [8, 9] []) <|
  .ret
theorem Cd.spec_SplitHolds_rs : Tryz.f15.results.toList = [.tmp 8, .tmp 9] := rfl
theorem Cd.spec_SplitHolds_nt : Tryz.f15.ntmps = 89 := rfl
theorem Cd.spec_SplitHolds_ok : CodeIsR Tryz.prog 15 Tryz.f15 Cd.spec_SplitHolds := ⟨Tryz.func15, by kernel_rfl, by decide +kernel⟩
/-- loop.example/g01012/laws.toCardS -/
def Cd.laws_toCardS : ACode :=
  .seq (.region [⟨some 2, .mv (.const (.slice none 0 0)), none⟩] [0] []) <|
  .seq (.region [⟨some 5, .mv (.tmp 0), none⟩,
     ⟨some 6, .len (.tmp 5), none⟩,
     ⟨some 7, .mk 1 24 [.v (.slice none 0 0)] (.tmp 6), none⟩,
     ⟨some 3, .mv (.tmp 7), none⟩] [0, 3] []) <|
  .seq (.seq (.region [⟨some 4, .mv (.const (.int .i64 (0))), none⟩] [0, 3, 4] []) <|
   .block 0 (
     .loop (
       .seq (.seq (.region [⟨some 8, .mv (.tmp 4), none⟩,
           ⟨some 9, .mv (.tmp 0), none⟩,
           ⟨some 10, .len (.tmp 9), none⟩,
           ⟨some 11, .bin .lss (.tmp 8) (.tmp 10), none⟩] [0, 3, 4, 11] []) <|
        .cond (.tmp 11)
          (.skip)
          (.exit 0)) <|
       .seq (.block 1 (
          .region [⟨some 14, .mv (.tmp 3), none⟩,
            ⟨some 15, .mv (.tmp 4), none⟩,
            ⟨some 16, .mv (.tmp 0), none⟩,
            ⟨some 17, .mv (.tmp 4), none⟩,
            ⟨some 18, .idxSl 1 (.tmp 16) (.tmp 17), none⟩,
            ⟨some 19, .load true 1 (.tmp 18), none⟩,
            ⟨some 20, .call (.func F.laws_toCard) [(.tmp 19)] [], none⟩,
            ⟨some 21, .idxSl 1 (.tmp 14) (.tmp 15), none⟩,
            ⟨none, .store 1 (.tmp 21) (.tmp 20), none⟩] [0, 3, 4] [])) <|
       .region [⟨some 12, .mv (.tmp 4), none⟩,
         ⟨some 13, .bin .add (.tmp 12) (.const (.int .i64 (1))), none⟩,
         ⟨some 4, .mv (.tmp 13), none⟩] [0, 3, 4] []))) <|
  .seq (.region [⟨some 22, .mv (.tmp 3), none⟩,
     ⟨some 2, .mv (.tmp 22), none⟩] [2] []) <|
  .ret
theorem Cd.laws_toCardS_rs : Tryz.f16.results.toList = [.tmp 2] := rfl
theorem Cd.laws_toCardS_nt : Tryz.f16.ntmps = 23 := rfl
theorem Cd.laws_toCardS_ok : CodeIsR Tryz.prog 16 Tryz.f16 Cd.laws_toCardS := ⟨Tryz.func16, by kernel_rfl, by decide +kernel⟩
/-- loop.example/g01012/impl.SplitHolds DRAWS -/
def Cd.impl_SplitHolds : ACode :=
  .seq (.region [⟨some 6, .box (.tmp 2), none⟩,
     ⟨some 7, .box (.tmp 3), none⟩,
     ⟨some 8, .mv (.const (.bool false)), none⟩,
     ⟨some 9, .mv (.const (.int .i64 (0))), none⟩] [0, 1, 6, 7] []) <|
  .seq (.block 0 (
     .seq (.region [⟨some 19, .mv (.tmp 0), none⟩,
        ⟨some 20, .call (.func F.impl_ValidDeck) [(.tmp 19)] [], none⟩,
        ⟨some 21, .un .not (.tmp 20), none⟩,
        ⟨some 22, .mv (.tmp 21), none⟩,
        ⟨some 23, .mv (.tmp 1), some (22, false)⟩,
        ⟨some 24, .call (.func F.impl_ValidDeck) [(.tmp 23)] [], some (22, false)⟩,
        ⟨some 25, .un .not (.tmp 24), some (22, false)⟩,
        ⟨some 26, .pick (.tmp 22) (.const (.bool true)) (.tmp 25), none⟩,
        ⟨some 18, .mv (.tmp 26), none⟩] [0, 1, 6, 7, 18] []) <|
     .cond (.tmp 18)
       (.seq (.region [⟨some 8, .mv (.const (.bool false)), none⟩,
          ⟨some 9, .mv (.const (.int .i64 (1))), none⟩] [8, 9] []) <|
       .ret)
       (.seq (.region [⟨some 28, .load true 2 (.tmp 6), none⟩,
          ⟨some 29, .mv (.tmp 0), none⟩,
          ⟨some 30, .call (.func F.impl_deckColumns) [(.tmp 29)] [], none⟩,
          ⟨some 31, .call (.func F.impl_isNumberField) [(.tmp 28), (.tmp 30)] [], none⟩,
          ⟨some 32, .un .not (.tmp 31), none⟩,
          ⟨some 27, .mv (.tmp 32), none⟩] [0, 1, 6, 7, 27] [28, 29, 30, 31, 32, 27]) <|
       .cond (.tmp 27)
         (.seq (.region [⟨some 8, .mv (.const (.bool false)), none⟩,
            ⟨some 9, .mv (.const (.int .i64 (2))), none⟩] [8, 9] []) <|
         .ret)
         (.skip)))) <|
  .seq (.region [⟨some 34, .mv (.tmp 0), none⟩,
     ⟨some 35, .load true 2 (.tmp 6), none⟩,
     ⟨some 36, .call (.func F.impl_controlOf) [(.tmp 34), (.tmp 35)] [], none⟩,
     ⟨some 33, .mv (.tmp 36), none⟩,
     ⟨some 37, .extract (.tmp 33) 0, none⟩,
     ⟨some 38, .extract (.tmp 33) 1, none⟩,
     ⟨some 10, .alloc [.v (.int .i64 (0)), .v (.int .i64 (0)), .v (.int .i64 (0))], none⟩,
     ⟨none, .store 3 (.tmp 10) (.tmp 37), none⟩,
     ⟨some 11, .mv (.tmp 38), none⟩] [0, 1, 6, 7, 10, 11] []) <|
  .seq (.seq (.region [⟨some 39, .mv (.tmp 11), none⟩,
      ⟨some 40, .un .not (.tmp 39), none⟩] [0, 1, 6, 7, 10, 40] []) <|
   .cond (.tmp 40)
     (.seq (.region [⟨some 8, .mv (.const (.bool false)), none⟩,
        ⟨some 9, .mv (.const (.int .i64 (8))), none⟩] [8, 9] []) <|
     .ret)
     (.skip)) <|
  .seq (.region [⟨some 42, .mv (.tmp 0), none⟩,
     ⟨some 43, .mv (.tmp 1), none⟩,
     ⟨some 44, .load true 2 (.tmp 7), none⟩,
     ⟨some 45, .call (.func F.impl_MatchDecks) [(.tmp 42), (.tmp 43), (.tmp 44)] [], none⟩,
     ⟨some 41, .mv (.tmp 45), none⟩,
     ⟨some 46, .extract (.tmp 41) 0, none⟩,
     ⟨some 47, .extract (.tmp 41) 1, none⟩,
     ⟨some 12, .mv (.tmp 46), none⟩,
     ⟨some 13, .mv (.tmp 47), none⟩] [6, 10, 12, 13] []) <|
  .seq (.seq (.region [⟨some 48, .mv (.tmp 13), none⟩,
      ⟨some 49, .bin .neq (.tmp 48) (.const (.int .i64 (0))), none⟩] [6, 10, 12, 13, 49] []) <|
   .cond (.tmp 49)
     (.seq (.region [⟨some 50, .mv (.tmp 13), none⟩,
        ⟨some 8, .mv (.const (.bool false)), none⟩,
        ⟨some 9, .mv (.tmp 50), none⟩] [8, 9] []) <|
     .ret)
     (.skip)) <|
  .seq (.region [⟨some 52, .mv (.tmp 12), none⟩,
     ⟨some 53, .idxSl 1 (.tmp 52) (.const (.int .i64 (0))), none⟩,
     ⟨some 54, .load false 1 (.tmp 53), none⟩,
     ⟨some 55, .load true 2 (.tmp 6), none⟩,
     ⟨some 56, .call (.func F.impl_controlOf) [(.tmp 54), (.tmp 55)] [], none⟩,
     ⟨some 51, .mv (.tmp 56), none⟩,
     ⟨some 57, .extract (.tmp 51) 0, none⟩,
     ⟨some 58, .extract (.tmp 51) 1, none⟩,
     ⟨some 14, .alloc [.v (.int .i64 (0)), .v (.int .i64 (0)), .v (.int .i64 (0))], none⟩,
     ⟨none, .store 3 (.tmp 14) (.tmp 57), none⟩,
     ⟨some 15, .mv (.tmp 58), none⟩] [6, 10, 12, 14] [52, 54, 55, 53, 56, 51, 57, 58, 14]) <|
  .seq (.region [⟨some 60, .mv (.tmp 12), none⟩,
     ⟨some 61, .idxSl 1 (.tmp 60) (.const (.int .i64 (2))), none⟩,
     ⟨some 62, .load false 1 (.tmp 61), none⟩,
     ⟨some 63, .load true 2 (.tmp 6), none⟩,
     ⟨some 64, .call (.func F.impl_controlOf) [(.tmp 62), (.tmp 63)] [], none⟩,
     ⟨some 59, .mv (.tmp 64), none⟩,
     ⟨some 65, .extract (.tmp 59) 0, none⟩,
     ⟨some 66, .extract (.tmp 59) 1, none⟩,
     ⟨some 16, .alloc [.v (.int .i64 (0)), .v (.int .i64 (0)), .v (.int .i64 (0))], none⟩,
     ⟨none, .store 3 (.tmp 16) (.tmp 65), none⟩,
     ⟨some 17, .mv (.tmp 66), none⟩] [10, 14, 16] [60, 62, 63, 61, 64, 59, 65, 66, 16]) <|
  .seq (.region [⟨some 67, .load true 3 (.tmp 14), none⟩,
     ⟨some 68, .load true 3 (.tmp 16), none⟩,
     ⟨some 69, .call (.func F._impl_Control__plus) [(.tmp 67), (.tmp 68), (.const (.int .i64 (1)))] [], none⟩,
     ⟨some 70, .load true 3 (.tmp 10), none⟩,
     ⟨some 71, .eqA false [0, 0, 0] (.tmp 69) (.tmp 70), none⟩,
     ⟨some 8, .mv (.tmp 71), none⟩,
     ⟨some 9, .mv (.const (.int .i64 (0))), none⟩] [8, 9] [67, 68, 70, 69, 71]) <|
  .ret
theorem Cd.impl_SplitHolds_rs : Tryz.f17.results.toList = [.tmp 8, .tmp 9] := rfl
theorem Cd.impl_SplitHolds_nt : Tryz.f17.ntmps = 72 := rfl
theorem Cd.impl_SplitHolds_ok : CodeIsR Tryz.prog 17 Tryz.f17 Cd.impl_SplitHolds := ⟨Tryz.func17, by kernel_rfl, by decide +kernel⟩
/-- loop.example/g01012/laws.eqCardS DRAWS -/
def Cd.laws_eqCardS : ACode :=
  .seq (.region [⟨some 4, .mv (.const (.bool false)), none⟩] [0, 1] []) <|
  .seq (.seq (.region [⟨some 6, .mv (.tmp 0), none⟩,
      ⟨some 7, .len (.tmp 6), none⟩,
      ⟨some 8, .mv (.tmp 1), none⟩,
      ⟨some 9, .len (.tmp 8), none⟩,
      ⟨some 10, .bin .neq (.tmp 7) (.tmp 9), none⟩] [0, 1, 10] []) <|
   .cond (.tmp 10)
     (.seq (.region [⟨some 4, .mv (.const (.bool false)), none⟩] [4] []) <|
     .ret)
     (.skip)) <|
  .seq (.seq (.region [⟨some 5, .mv (.const (.int .i64 (0))), none⟩] [0, 1, 5] []) <|
   .block 0 (
     .loop (
       .seq (.seq (.region [⟨some 11, .mv (.tmp 5), none⟩,
           ⟨some 12, .mv (.tmp 0), none⟩,
           ⟨some 13, .len (.tmp 12), none⟩,
           ⟨some 14, .bin .lss (.tmp 11) (.tmp 13), none⟩] [0, 1, 5, 14] []) <|
        .cond (.tmp 14)
          (.skip)
          (.exit 0)) <|
       .seq (.block 1 (
          .seq (.region [⟨some 17, .mv (.tmp 0), none⟩,
             ⟨some 18, .mv (.tmp 5), none⟩,
             ⟨some 19, .idxSl 1 (.tmp 17) (.tmp 18), none⟩,
             ⟨some 20, .load true 1 (.tmp 19), none⟩,
             ⟨some 21, .mv (.tmp 1), none⟩,
             ⟨some 22, .mv (.tmp 5), none⟩,
             ⟨some 23, .idxSl 1 (.tmp 21) (.tmp 22), none⟩,
             ⟨some 24, .load true 1 (.tmp 23), none⟩,
             ⟨some 25, .call (.func F.laws_eqCard) [(.tmp 20), (.tmp 24)] [], none⟩,
             ⟨some 26, .un .not (.tmp 25), none⟩] [0, 1, 5, 26] [17, 18, 20, 21, 19, 22, 23, 24, 25, 26]) <|
          .cond (.tmp 26)
            (.seq (.region [⟨some 4, .mv (.const (.bool false)), none⟩] [4] []) <|
            .ret)
            (.skip))) <|
       .region [⟨some 15, .mv (.tmp 5), none⟩,
         ⟨some 16, .bin .add (.tmp 15) (.const (.int .i64 (1))), none⟩,
         ⟨some 5, .mv (.tmp 16), none⟩] [0, 1, 5] []))) <|
  .seq (.region [⟨some 4, .mv (.const (.bool true)), none⟩] [4] []) <|
  .ret
theorem Cd.laws_eqCardS_rs : Tryz.f18.results.toList = [.tmp 4] := rfl
theorem Cd.laws_eqCardS_nt : Tryz.f18.ntmps = 27 := rfl
theorem Cd.laws_eqCardS_ok : CodeIsR Tryz.prog 18 Tryz.f18 Cd.laws_eqCardS := ⟨Tryz.func18, by kernel_rfl, by decide +kernel⟩
/-- loop.example/g01012/spec.l18Of DRAWS -/
def Cd.spec_l18Of : ACode :=
  .seq (.region [⟨some 3, .box (.tmp 1), none⟩,
     ⟨some 4, .alloc [.v (.int .i64 (0)), .v (.int .i64 (0)), .v (.int .i64 (0))], none⟩,
     ⟨some 5, .mv (.const (.bool false)), none⟩] [0, 3, 4] []) <|
  .seq (.region [⟨some 10, .mv (.tmp 0), none⟩,
     ⟨some 11, .len (.tmp 10), none⟩,
     ⟨some 12, .build [.v (.int .i64 (0)), .v (.int .i64 (0)), .v (.int .i64 (0))] [(0, 1, (.tmp 11))], none⟩,
     ⟨some 6, .alloc [.v (.int .i64 (0)), .v (.int .i64 (0)), .v (.int .i64 (0))], none⟩,
     ⟨none, .store 3 (.tmp 6) (.tmp 12), none⟩] [0, 3, 4, 6] []) <|
  .seq (.seq (.region [⟨some 7, .mv (.const (.int .i64 (0))), none⟩] [0, 3, 4, 6, 7] []) <|
   .block 0 (
     .loop (
       .seq (.seq (.region [⟨some 13, .mv (.tmp 7), none⟩,
           ⟨some 14, .mv (.tmp 0), none⟩,
           ⟨some 15, .len (.tmp 14), none⟩,
           ⟨some 16, .bin .lss (.tmp 13) (.tmp 15), none⟩] [0, 3, 4, 6, 7, 16] []) <|
        .cond (.tmp 16)
          (.skip)
          (.exit 0)) <|
       .seq (.block 1 (
          .seq (.region [⟨some 20, .mv (.tmp 0), none⟩,
             ⟨some 21, .mv (.tmp 7), none⟩,
             ⟨some 22, .idxSl 1 (.tmp 20) (.tmp 21), none⟩,
             ⟨some 23, .load true 2 (.tmp 3), none⟩,
             ⟨some 24, .call (.func F.spec_l02Part) [(.tmp 22), (.tmp 23)] [], none⟩,
             ⟨some 25, .call (.func F.spec_l03Number) [(.tmp 24)] [], none⟩,
             ⟨some 19, .mv (.tmp 25), none⟩,
             ⟨some 26, .extract (.tmp 19) 0, none⟩,
             ⟨some 27, .extract (.tmp 19) 1, none⟩,
             ⟨some 8, .mv (.tmp 26), none⟩,
             ⟨some 9, .mv (.tmp 27), none⟩] [0, 3, 4, 6, 7, 8, 9] [20, 21, 23, 22, 24, 25, 19, 26, 27, 8]) <|
          .seq (.seq (.region [⟨some 28, .mv (.tmp 9), none⟩,
              ⟨some 29, .un .not (.tmp 28), none⟩] [0, 3, 4, 6, 7, 8, 29] []) <|
           .cond (.tmp 29)
             (.seq (.region [⟨some 30, .build [.v (.int .i64 (0)), .v (.int .i64 (0)), .v (.int .i64 (0))] [], none⟩,
                ⟨none, .store 3 (.tmp 4) (.tmp 30), none⟩,
                ⟨some 5, .mv (.const (.bool false)), none⟩] [4, 5] []) <|
             .ret)
             (.skip)) <|
          .seq (.region [⟨some 31, .fieldAddr 1 (.tmp 6), none⟩,
             ⟨some 32, .load false 1 (.tmp 31), none⟩,
             ⟨some 33, .mv (.tmp 8), none⟩,
             ⟨some 34, .bin .add (.tmp 32) (.tmp 33), none⟩,
             ⟨some 35, .fieldAddr 1 (.tmp 6), none⟩,
             ⟨none, .store 1 (.tmp 35) (.tmp 34), none⟩] [0, 3, 4, 6, 7, 8] []) <|
          .region [⟨some 36, .fieldAddr 2 (.tmp 6), none⟩,
            ⟨some 37, .load false 1 (.tmp 36), none⟩,
            ⟨some 38, .mv (.tmp 8), none⟩,
            ⟨some 39, .call (.func F.spec_l18Digits) [(.tmp 38)] [], none⟩,
            ⟨some 40, .bin .add (.tmp 37) (.tmp 39), none⟩,
            ⟨some 41, .fieldAddr 2 (.tmp 6), none⟩,
            ⟨none, .store 1 (.tmp 41) (.tmp 40), none⟩] [0, 3, 4, 6, 7] [36, 38, 37, 39, 40])) <|
       .region [⟨some 17, .mv (.tmp 7), none⟩,
         ⟨some 18, .bin .add (.tmp 17) (.const (.int .i64 (1))), none⟩,
         ⟨some 7, .mv (.tmp 18), none⟩] [0, 3, 4, 6, 7] []))) <|
  .seq (.region [⟨some 42, .load true 3 (.tmp 6), none⟩,
     ⟨none, .store 3 (.tmp 4) (.tmp 42), none⟩,
     ⟨some 5, .mv (.const (.bool true)), none⟩] [4, 5] []) <|
  .ret
theorem Cd.spec_l18Of_rs : Tryz.f25.results.toList = [.cell 4 33, .tmp 5] := rfl
theorem Cd.spec_l18Of_nt : Tryz.f25.ntmps = 43 := rfl
theorem Cd.spec_l18Of_ok : CodeIsR Tryz.prog 25 Tryz.f25 Cd.spec_l18Of := ⟨Tryz.func25, by kernel_rfl, by decide +kernel⟩
/-- loop.example/g01012/impl.controlOf DRAWS -/
def Cd.impl_controlOf : ACode :=
  .seq (.region [⟨some 3, .box (.tmp 1), none⟩,
     ⟨some 4, .alloc [.v (.int .i64 (0)), .v (.int .i64 (0)), .v (.int .i64 (0))], none⟩,
     ⟨some 5, .mv (.const (.bool false)), none⟩] [0, 3, 4] []) <|
  .seq (.region [⟨some 11, .mv (.tmp 0), none⟩,
     ⟨some 12, .call (.func F.impl_size_impl_Card_) [(.tmp 11)] [], none⟩,
     ⟨some 13, .build [.v (.int .i64 (0)), .v (.int .i64 (0)), .v (.int .i64 (0))] [(0, 1, (.tmp 12))], none⟩,
     ⟨some 6, .alloc [.v (.int .i64 (0)), .v (.int .i64 (0)), .v (.int .i64 (0))], none⟩,
     ⟨none, .store 3 (.tmp 6) (.tmp 13), none⟩] [0, 3, 4, 6] []) <|
  .seq (.seq (.region [⟨some 14, .mv (.tmp 0), none⟩,
      ⟨some 15, .len (.tmp 14), none⟩,
      ⟨some 16, .mv (.const (.int .i64 (0))), none⟩] [3, 4, 6, 14, 15, 16] []) <|
   .block 0 (
     .loop (
       .seq (.region [⟨some 17, .bin .lss (.tmp 16) (.tmp 15), none⟩] [3, 4, 6, 14, 15, 16, 17] []) <|
       .seq (.cond (.tmp 17)
          (.skip)
          (.exit 0)) <|
       .seq (.block 1 (
          .seq (.region [⟨some 18, .idxSl 1 (.tmp 14) (.tmp 16), none⟩,
             ⟨some 19, .load true 1 (.tmp 18), none⟩,
             ⟨some 8, .alloc [.v (.slice none 0 0)], none⟩,
             ⟨none, .store 1 (.tmp 8) (.tmp 19), none⟩] [3, 4, 6, 8, 14, 15, 16] []) <|
          .seq (.region [⟨some 21, .load true 1 (.tmp 8), none⟩,
             ⟨some 22, .load true 2 (.tmp 3), none⟩,
             ⟨some 23, .call (.func F.impl_numberIn) [(.tmp 21), (.tmp 22)] [], none⟩,
             ⟨some 20, .mv (.tmp 23), none⟩,
             ⟨some 24, .extract (.tmp 20) 0, none⟩,
             ⟨some 25, .extract (.tmp 20) 1, none⟩,
             ⟨some 9, .mv (.tmp 24), none⟩,
             ⟨some 10, .mv (.tmp 25), none⟩] [3, 4, 6, 9, 10, 14, 15, 16] []) <|
          .seq (.seq (.region [⟨some 26, .mv (.tmp 10), none⟩,
              ⟨some 27, .un .not (.tmp 26), none⟩] [3, 4, 6, 9, 14, 15, 16, 27] []) <|
           .cond (.tmp 27)
             (.seq (.region [⟨some 28, .build [.v (.int .i64 (0)), .v (.int .i64 (0)), .v (.int .i64 (0))] [], none⟩,
                ⟨none, .store 3 (.tmp 4) (.tmp 28), none⟩,
                ⟨some 5, .mv (.const (.bool false)), none⟩] [4, 5] []) <|
             .ret)
             (.skip)) <|
          .seq (.region [⟨some 29, .fieldAddr 1 (.tmp 6), none⟩,
             ⟨some 30, .load false 1 (.tmp 29), none⟩,
             ⟨some 31, .mv (.tmp 9), none⟩,
             ⟨some 32, .bin .add (.tmp 30) (.tmp 31), none⟩,
             ⟨some 33, .fieldAddr 1 (.tmp 6), none⟩,
             ⟨none, .store 1 (.tmp 33) (.tmp 32), none⟩] [3, 4, 6, 9, 14, 15, 16] []) <|
          .region [⟨some 34, .fieldAddr 2 (.tmp 6), none⟩,
            ⟨some 35, .load false 1 (.tmp 34), none⟩,
            ⟨some 36, .mv (.tmp 9), none⟩,
            ⟨some 37, .call (.func F.impl_digitSum) [(.tmp 36)] [], none⟩,
            ⟨some 38, .bin .add (.tmp 35) (.tmp 37), none⟩,
            ⟨some 39, .fieldAddr 2 (.tmp 6), none⟩,
            ⟨none, .store 1 (.tmp 39) (.tmp 38), none⟩] [3, 4, 6, 14, 15, 16] [34, 36, 35, 37, 38])) <|
       .region [⟨some 40, .bin .add (.tmp 16) (.const (.int .i64 (1))), none⟩,
         ⟨some 16, .mv (.tmp 40), none⟩] [3, 4, 6, 14, 15, 16] []))) <|
  .seq (.region [⟨some 41, .load true 3 (.tmp 6), none⟩,
     ⟨none, .store 3 (.tmp 4) (.tmp 41), none⟩,
     ⟨some 5, .mv (.const (.bool true)), none⟩] [4, 5] []) <|
  .ret
theorem Cd.impl_controlOf_rs : Tryz.f33.results.toList = [.cell 4 33, .tmp 5] := rfl
theorem Cd.impl_controlOf_nt : Tryz.f33.ntmps = 42 := rfl
theorem Cd.impl_controlOf_ok : CodeIsR Tryz.prog 33 Tryz.f33 Cd.impl_controlOf := ⟨Tryz.func33, by kernel_rfl, by decide +kernel⟩
/-- (loop.example/g01012/impl.Control).plus -/
def Cd._impl_Control__plus : ACode :=
  .seq (.region [⟨some 3, .box (.tmp 0), none⟩,
     ⟨some 4, .box (.tmp 1), none⟩,
     ⟨some 6, .alloc [.v (.int .i64 (0)), .v (.int .i64 (0)), .v (.int .i64 (0))], none⟩] [2, 3, 4, 6] []) <|
  .seq (.region [⟨some 7, .fieldAddr 0 (.tmp 3), none⟩,
     ⟨some 8, .load false 1 (.tmp 7), none⟩,
     ⟨some 9, .mv (.tmp 2), none⟩,
     ⟨some 10, .fieldAddr 0 (.tmp 4), none⟩,
     ⟨some 11, .load false 1 (.tmp 10), none⟩,
     ⟨some 12, .bin .mul (.tmp 9) (.tmp 11), none⟩,
     ⟨some 13, .bin .add (.tmp 8) (.tmp 12), none⟩,
     ⟨some 14, .fieldAddr 1 (.tmp 3), none⟩,
     ⟨some 15, .load false 1 (.tmp 14), none⟩,
     ⟨some 16, .mv (.tmp 2), none⟩,
     ⟨some 17, .fieldAddr 1 (.tmp 4), none⟩,
     ⟨some 18, .load false 1 (.tmp 17), none⟩,
     ⟨some 19, .bin .mul (.tmp 16) (.tmp 18), none⟩,
     ⟨some 20, .bin .add (.tmp 15) (.tmp 19), none⟩,
     ⟨some 21, .fieldAddr 2 (.tmp 3), none⟩,
     ⟨some 22, .load false 1 (.tmp 21), none⟩,
     ⟨some 23, .mv (.tmp 2), none⟩,
     ⟨some 24, .fieldAddr 2 (.tmp 4), none⟩,
     ⟨some 25, .load false 1 (.tmp 24), none⟩,
     ⟨some 26, .bin .mul (.tmp 23) (.tmp 25), none⟩,
     ⟨some 27, .bin .add (.tmp 22) (.tmp 26), none⟩,
     ⟨some 28, .build [.v (.int .i64 (0)), .v (.int .i64 (0)), .v (.int .i64 (0))] [(0, 1, (.tmp 13)), (1, 1, (.tmp 20)), (2, 1, (.tmp 27))], none⟩,
     ⟨none, .store 3 (.tmp 6) (.tmp 28), none⟩] [6] []) <|
  .ret
theorem Cd._impl_Control__plus_rs : Tryz.f34.results.toList = [.cell 6 33] := rfl
theorem Cd._impl_Control__plus_nt : Tryz.f34.ntmps = 29 := rfl
theorem Cd._impl_Control__plus_ok : CodeIsR Tryz.prog 34 Tryz.f34 Cd._impl_Control__plus := ⟨Tryz.func34, by kernel_rfl, by decide +kernel⟩
/-- loop.example/g01012/laws.szCard -/
def Cd.laws_szCard : ACode :=
  .seq (.region [⟨some 2, .box (.tmp 0), none⟩,
     ⟨some 4, .mv (.const (.int .i64 (0))), none⟩] [1, 2] []) <|
  .seq (.region [⟨some 5, .fieldAddr 0 (.tmp 2), none⟩,
     ⟨some 6, .load false 1 (.tmp 5), none⟩,
     ⟨some 7, .mv (.tmp 1), none⟩,
     ⟨some 8, .call (.func F.laws_szInt64S) [(.tmp 6), (.tmp 7)] [], none⟩,
     ⟨some 1, .mv (.tmp 8), none⟩] [1] []) <|
  .seq (.seq (.region [⟨some 9, .mv (.tmp 1), none⟩,
      ⟨some 10, .bin .lss (.tmp 9) (.const (.int .i64 (0))), none⟩] [1, 10] []) <|
   .cond (.tmp 10)
     (.seq (.region [⟨some 4, .mv (.const (.int .i64 (-1))), none⟩] [4] []) <|
     .ret)
     (.skip)) <|
  .seq (.region [⟨some 11, .mv (.tmp 1), none⟩,
     ⟨some 4, .mv (.tmp 11), none⟩] [4] []) <|
  .ret
theorem Cd.laws_szCard_rs : Tryz.f37.results.toList = [.tmp 4] := rfl
theorem Cd.laws_szCard_nt : Tryz.f37.ntmps = 12 := rfl
theorem Cd.laws_szCard_ok : CodeIsR Tryz.prog 37 Tryz.f37 Cd.laws_szCard := ⟨Tryz.func37, by kernel_rfl, by decide +kernel⟩
/-- loop.example/g01012/spec.l02Deck DRAWS -/
def Cd.spec_l02Deck : ACode :=
  .seq (.region [⟨some 2, .mv (.const (.bool false)), none⟩] [0] []) <|
  .seq (.seq (.region [⟨some 3, .mv (.const (.int .i64 (0))), none⟩] [0, 3] []) <|
   .block 0 (
     .loop (
       .seq (.seq (.region [⟨some 4, .mv (.tmp 3), none⟩,
           ⟨some 5, .mv (.tmp 0), none⟩,
           ⟨some 6, .len (.tmp 5), none⟩,
           ⟨some 7, .bin .lss (.tmp 4) (.tmp 6), none⟩] [0, 3, 7] []) <|
        .cond (.tmp 7)
          (.skip)
          (.exit 0)) <|
       .seq (.block 1 (
          .seq (.region [⟨some 10, .mv (.tmp 0), none⟩,
             ⟨some 11, .mv (.tmp 3), none⟩,
             ⟨some 12, .idxSl 1 (.tmp 10) (.tmp 11), none⟩,
             ⟨some 13, .call (.func F.spec_l02Ok) [(.tmp 12)] [], none⟩,
             ⟨some 14, .un .not (.tmp 13), none⟩,
             ⟨some 15, .mv (.tmp 14), none⟩,
             ⟨some 16, .mv (.tmp 0), some (15, false)⟩,
             ⟨some 17, .mv (.tmp 3), some (15, false)⟩,
             ⟨some 18, .idxSl 1 (.tmp 16) (.tmp 17), some (15, false)⟩,
             ⟨some 19, .fieldAddr 0 (.tmp 18), some (15, false)⟩,
             ⟨some 20, .load false 1 (.tmp 19), some (15, false)⟩,
             ⟨some 21, .len (.tmp 20), some (15, false)⟩,
             ⟨some 22, .mv (.tmp 0), some (15, false)⟩,
             ⟨some 23, .idxSl 1 (.tmp 22) (.const (.int .i64 (0))), some (15, false)⟩,
             ⟨some 24, .fieldAddr 0 (.tmp 23), some (15, false)⟩,
             ⟨some 25, .load false 1 (.tmp 24), some (15, false)⟩,
             ⟨some 26, .len (.tmp 25), some (15, false)⟩,
             ⟨some 27, .bin .neq (.tmp 21) (.tmp 26), some (15, false)⟩,
             ⟨some 28, .pick (.tmp 15) (.const (.bool true)) (.tmp 27), none⟩] [0, 3, 28] [10, 11, 13, 14, 12, 15, 16, 17, 18, 19, 20, 21, 22, 23, 24, 25, 26, 27, 28]) <|
          .cond (.tmp 28)
            (.seq (.region [⟨some 2, .mv (.const (.bool false)), none⟩] [2] []) <|
            .ret)
            (.skip))) <|
       .region [⟨some 8, .mv (.tmp 3), none⟩,
         ⟨some 9, .bin .add (.tmp 8) (.const (.int .i64 (1))), none⟩,
         ⟨some 3, .mv (.tmp 9), none⟩] [0, 3] []))) <|
  .seq (.region [⟨some 29, .mv (.tmp 0), none⟩,
     ⟨some 30, .len (.tmp 29), none⟩,
     ⟨some 31, .bin .leq (.tmp 30) (.const (.int .i64 (40))), none⟩,
     ⟨some 2, .mv (.tmp 31), none⟩] [2] []) <|
  .ret
theorem Cd.spec_l02Deck_rs : Tryz.f38.results.toList = [.tmp 2] := rfl
theorem Cd.spec_l02Deck_nt : Tryz.f38.ntmps = 32 := rfl
theorem Cd.spec_l02Deck_ok : CodeIsR Tryz.prog 38 Tryz.f38 Cd.spec_l02Deck := ⟨Tryz.func38, by kernel_rfl, by decide +kernel⟩
/-- loop.example/g01012/spec.l18Field -/
def Cd.spec_l18Field : ACode :=
  .seq (.region [⟨some 2, .box (.tmp 0), none⟩,
     ⟨some 4, .mv (.const (.bool false)), none⟩] [1, 2] []) <|
  .seq (.region [⟨some 5, .load true 2 (.tmp 2), none⟩,
     ⟨some 6, .mv (.tmp 1), none⟩,
     ⟨some 7, .call (.func F.spec_l02Field) [(.tmp 5), (.tmp 6)] [], none⟩,
     ⟨some 8, .mv (.tmp 7), none⟩,
     ⟨some 9, .fieldAddr 1 (.tmp 2), some (8, true)⟩,
     ⟨some 10, .load false 1 (.tmp 9), some (8, true)⟩,
     ⟨some 11, .fieldAddr 0 (.tmp 2), some (8, true)⟩,
     ⟨some 12, .load false 1 (.tmp 11), some (8, true)⟩,
     ⟨some 13, .bin .sub (.tmp 10) (.tmp 12), some (8, true)⟩,
     ⟨some 14, .bin .leq (.tmp 13) (.const (.int .i64 (12))), some (8, true)⟩,
     ⟨some 15, .pick (.tmp 8) (.tmp 14) (.const (.bool false)), none⟩,
     ⟨some 4, .mv (.tmp 15), none⟩] [4] []) <|
  .ret
theorem Cd.spec_l18Field_rs : Tryz.f39.results.toList = [.tmp 4] := rfl
theorem Cd.spec_l18Field_nt : Tryz.f39.ntmps = 16 := rfl
theorem Cd.spec_l18Field_ok : CodeIsR Tryz.prog 39 Tryz.f39 Cd.spec_l18Field := ⟨Tryz.func39, by kernel_rfl, by decide +kernel⟩
/-- loop.example/g01012/spec.l07Width -/
def Cd.spec_l07Width : ACode :=
  .seq (.region [⟨some 2, .mv (.const (.int .i64 (0))), none⟩] [0] []) <|
  .seq (.seq (.region [⟨some 3, .mv (.tmp 0), none⟩,
      ⟨some 4, .len (.tmp 3), none⟩,
      ⟨some 5, .bin .eql (.tmp 4) (.const (.int .i64 (0))), none⟩] [0, 5] []) <|
   .cond (.tmp 5)
     (.seq (.region [⟨some 2, .mv (.const (.int .i64 (20))), none⟩] [2] []) <|
     .ret)
     (.skip)) <|
  .seq (.region [⟨some 6, .mv (.tmp 0), none⟩,
     ⟨some 7, .idxSl 1 (.tmp 6) (.const (.int .i64 (0))), none⟩,
     ⟨some 8, .fieldAddr 0 (.tmp 7), none⟩,
     ⟨some 9, .load false 1 (.tmp 8), none⟩,
     ⟨some 10, .len (.tmp 9), none⟩,
     ⟨some 2, .mv (.tmp 10), none⟩] [2] []) <|
  .ret
theorem Cd.spec_l07Width_rs : Tryz.f40.results.toList = [.tmp 2] := rfl
theorem Cd.spec_l07Width_nt : Tryz.f40.ntmps = 11 := rfl
theorem Cd.spec_l07Width_ok : CodeIsR Tryz.prog 40 Tryz.f40 Cd.spec_l07Width := ⟨Tryz.func40, by kernel_rfl, by decide +kernel⟩
/-- loop.example/g01012/spec.MatchDecks -/
def Cd.spec_MatchDecks : ACode :=
  .seq (.region [⟨some 5, .box (.tmp 2), none⟩,
     ⟨some 6, .mv (.const (.slice none 0 0)), none⟩,
     ⟨some 7, .mv (.const (.int .i64 (0))), none⟩] [0, 1, 5] []) <|
  .seq (.region [⟨some 16, .mv (.tmp 0), none⟩,
     ⟨some 17, .mv (.tmp 1), none⟩,
     ⟨some 18, .load true 2 (.tmp 5), none⟩,
     ⟨some 19, .call (.func F.spec_l09Two) [(.tmp 16), (.tmp 17), (.tmp 18)] [], none⟩,
     ⟨some 15, .mv (.tmp 19), none⟩,
     ⟨some 20, .extract (.tmp 15) 0, none⟩,
     ⟨some 21, .extract (.tmp 15) 1, none⟩,
     ⟨some 22, .extract (.tmp 15) 2, none⟩,
     ⟨some 8, .mv (.tmp 20), none⟩,
     ⟨some 9, .mv (.tmp 21), none⟩,
     ⟨some 10, .mv (.tmp 22), none⟩] [0, 1, 8, 9, 10] []) <|
  .seq (.seq (.region [⟨some 23, .mv (.tmp 10), none⟩,
      ⟨some 24, .bin .neq (.tmp 23) (.const (.int .i64 (0))), none⟩] [0, 1, 8, 9, 10, 24] []) <|
   .cond (.tmp 24)
     (.seq (.region [⟨some 25, .mv (.tmp 10), none⟩,
        ⟨some 6, .mv (.const (.slice none 0 0)), none⟩,
        ⟨some 7, .mv (.tmp 25), none⟩] [6, 7] []) <|
     .ret)
     (.skip)) <|
  .seq (.seq (.region [⟨some 26, .mv (.tmp 8), none⟩,
      ⟨some 27, .call (.func F.spec_l07Step) [(.tmp 26)] [], none⟩,
      ⟨some 28, .bin .geq (.tmp 27) (.const (.int .i64 (0))), none⟩,
      ⟨some 29, .mv (.tmp 28), none⟩,
      ⟨some 30, .mv (.tmp 9), some (29, false)⟩,
      ⟨some 31, .call (.func F.spec_l07Step) [(.tmp 30)] [], some (29, false)⟩,
      ⟨some 32, .bin .geq (.tmp 31) (.const (.int .i64 (0))), some (29, false)⟩,
      ⟨some 33, .pick (.tmp 29) (.const (.bool true)) (.tmp 32), none⟩] [0, 1, 8, 9, 33] []) <|
   .cond (.tmp 33)
     (.seq (.region [⟨some 6, .mv (.const (.slice none 0 0)), none⟩,
        ⟨some 7, .mv (.const (.int .i64 (6))), none⟩] [6, 7] []) <|
     .ret)
     (.skip)) <|
  .seq (.region [⟨some 35, .mv (.tmp 0), none⟩,
     ⟨some 36, .mv (.tmp 8), none⟩,
     ⟨some 37, .mv (.tmp 9), none⟩,
     ⟨some 38, .call (.func F.spec_l09Match) [(.tmp 35), (.tmp 36), (.tmp 37)] [], none⟩,
     ⟨some 34, .mv (.tmp 38), none⟩,
     ⟨some 39, .extract (.tmp 34) 0, none⟩,
     ⟨some 40, .extract (.tmp 34) 1, none⟩,
     ⟨some 11, .mv (.tmp 39), none⟩,
     ⟨some 12, .mv (.tmp 40), none⟩] [1, 8, 9, 11, 12] []) <|
  .seq (.region [⟨some 42, .mv (.tmp 1), none⟩,
     ⟨some 43, .mv (.tmp 9), none⟩,
     ⟨some 44, .mv (.tmp 8), none⟩,
     ⟨some 45, .call (.func F.spec_l09Match) [(.tmp 42), (.tmp 43), (.tmp 44)] [], none⟩,
     ⟨some 41, .mv (.tmp 45), none⟩,
     ⟨some 46, .extract (.tmp 41) 0, none⟩,
     ⟨some 47, .extract (.tmp 41) 1, none⟩,
     ⟨some 13, .mv (.tmp 46), none⟩,
     ⟨some 14, .mv (.tmp 47), none⟩] [11, 12, 13, 14] []) <|
  .seq (.region [⟨some 48, .mv (.tmp 11), none⟩,
     ⟨some 49, .mv (.tmp 13), none⟩,
     ⟨some 50, .mv (.tmp 12), none⟩,
     ⟨some 51, .mv (.tmp 14), none⟩,
     ⟨some 52, .bslice 1 4 [.v (.slice none 0 0)] [(0, (.tmp 48)), (1, (.tmp 49)), (2, (.tmp 50)), (3, (.tmp 51))], none⟩,
     ⟨some 6, .mv (.tmp 52), none⟩,
     ⟨some 7, .mv (.const (.int .i64 (0))), none⟩] [6, 7] []) <|
  .ret
theorem Cd.spec_MatchDecks_rs : Tryz.f41.results.toList = [.tmp 6, .tmp 7] := rfl
theorem Cd.spec_MatchDecks_nt : Tryz.f41.ntmps = 53 := rfl
theorem Cd.spec_MatchDecks_ok : CodeIsR Tryz.prog 41 Tryz.f41 Cd.spec_MatchDecks := ⟨Tryz.func41, by kernel_rfl, by decide +kernel⟩
/-- loop.example/g01012/laws.toCard -/
def Cd.laws_toCard : ACode :=
  .seq (.region [⟨some 1, .box (.tmp 0), none⟩,
     ⟨some 2, .alloc [.v (.slice none 0 0)], none⟩] [1, 2] []) <|
  .seq (.region [⟨some 3, .alloc [.v (.slice none 0 0)], none⟩] [1, 2, 3] []) <|
  .seq (.region [⟨some 4, .fieldAddr 0 (.tmp 1), none⟩,
     ⟨some 5, .load false 1 (.tmp 4), none⟩,
     ⟨some 6, .call (.func F.laws_toInt64S) [(.tmp 5)] [], none⟩,
     ⟨some 7, .fieldAddr 0 (.tmp 3), none⟩,
     ⟨none, .store 1 (.tmp 7) (.tmp 6), none⟩] [2, 3] []) <|
  .seq (.region [⟨some 8, .load true 1 (.tmp 3), none⟩,
     ⟨none, .store 1 (.tmp 2) (.tmp 8), none⟩] [2] []) <|
  .ret
theorem Cd.laws_toCard_rs : Tryz.f42.results.toList = [.cell 2 85] := rfl
theorem Cd.laws_toCard_nt : Tryz.f42.ntmps = 9 := rfl
theorem Cd.laws_toCard_ok : CodeIsR Tryz.prog 42 Tryz.f42 Cd.laws_toCard := ⟨Tryz.func42, by kernel_rfl, by decide +kernel⟩
/-- loop.example/g01012/impl.ValidDeck DRAWS -/
def Cd.impl_ValidDeck : ACode :=
  .seq (.region [⟨some 2, .mv (.const (.bool false)), none⟩] [0] []) <|
  .seq (.seq (.region [⟨some 5, .mv (.tmp 0), none⟩,
      ⟨some 6, .len (.tmp 5), none⟩,
      ⟨some 7, .mv (.const (.int .i64 (0))), none⟩] [0, 5, 6, 7] []) <|
   .block 0 (
     .loop (
       .seq (.region [⟨some 8, .bin .lss (.tmp 7) (.tmp 6), none⟩] [0, 5, 6, 7, 8] []) <|
       .seq (.cond (.tmp 8)
          (.skip)
          (.exit 0)) <|
       .seq (.block 1 (
          .seq (.region [⟨some 9, .idxSl 1 (.tmp 5) (.tmp 7), none⟩,
             ⟨some 10, .load true 1 (.tmp 9), none⟩,
             ⟨some 4, .alloc [.v (.slice none 0 0)], none⟩,
             ⟨none, .store 1 (.tmp 4) (.tmp 10), none⟩] [0, 4, 5, 6, 7] []) <|
          .seq (.region [⟨some 11, .load true 1 (.tmp 4), none⟩,
             ⟨some 12, .call (.func F.impl_ValidCard) [(.tmp 11)] [], none⟩,
             ⟨some 13, .un .not (.tmp 12), none⟩,
             ⟨some 14, .mv (.tmp 13), none⟩,
             ⟨some 15, .load true 1 (.tmp 4), some (14, false)⟩,
             ⟨some 16, .call (.func F._impl_Card__columns) [(.tmp 15)] [], some (14, false)⟩,
             ⟨some 17, .mv (.tmp 0), some (14, false)⟩,
             ⟨some 18, .idxSl 1 (.tmp 17) (.const (.int .i64 (0))), some (14, false)⟩,
             ⟨some 19, .load true 1 (.tmp 18), some (14, false)⟩,
             ⟨some 20, .call (.func F._impl_Card__columns) [(.tmp 19)] [], some (14, false)⟩,
             ⟨some 21, .bin .neq (.tmp 16) (.tmp 20), some (14, false)⟩,
             ⟨some 22, .pick (.tmp 14) (.const (.bool true)) (.tmp 21), none⟩] [0, 5, 6, 7, 22] [11, 13, 14, 15, 12, 16, 17, 18, 19, 20, 21, 22]) <|
          .cond (.tmp 22)
            (.seq (.region [⟨some 2, .mv (.const (.bool false)), none⟩] [2] []) <|
            .ret)
            (.skip))) <|
       .region [⟨some 23, .bin .add (.tmp 7) (.const (.int .i64 (1))), none⟩,
         ⟨some 7, .mv (.tmp 23), none⟩] [0, 5, 6, 7] []))) <|
  .seq (.region [⟨some 24, .mv (.tmp 0), none⟩,
     ⟨some 25, .len (.tmp 24), none⟩,
     ⟨some 26, .bin .leq (.tmp 25) (.const (.int .i64 (40))), none⟩,
     ⟨some 2, .mv (.tmp 26), none⟩] [2] []) <|
  .ret
theorem Cd.impl_ValidDeck_rs : Tryz.f43.results.toList = [.tmp 2] := rfl
theorem Cd.impl_ValidDeck_nt : Tryz.f43.ntmps = 27 := rfl
theorem Cd.impl_ValidDeck_ok : CodeIsR Tryz.prog 43 Tryz.f43 Cd.impl_ValidDeck := ⟨Tryz.func43, by kernel_rfl, by decide +kernel⟩
/-- loop.example/g01012/impl.isNumberField -/
def Cd.impl_isNumberField : ACode :=
  .seq (.region [⟨some 2, .box (.tmp 0), none⟩,
     ⟨some 4, .mv (.const (.bool false)), none⟩] [1, 2] []) <|
  .seq (.region [⟨some 5, .load true 2 (.tmp 2), none⟩,
     ⟨some 6, .mv (.tmp 1), none⟩,
     ⟨some 7, .call (.func F.impl_isField) [(.tmp 5), (.tmp 6)] [], none⟩,
     ⟨some 8, .mv (.tmp 7), none⟩,
     ⟨some 9, .fieldAddr 1 (.tmp 2), some (8, true)⟩,
     ⟨some 10, .load false 1 (.tmp 9), some (8, true)⟩,
     ⟨some 11, .fieldAddr 0 (.tmp 2), some (8, true)⟩,
     ⟨some 12, .load false 1 (.tmp 11), some (8, true)⟩,
     ⟨some 13, .bin .sub (.tmp 10) (.tmp 12), some (8, true)⟩,
     ⟨some 14, .bin .leq (.tmp 13) (.const (.int .i64 (12))), some (8, true)⟩,
     ⟨some 15, .pick (.tmp 8) (.tmp 14) (.const (.bool false)), none⟩,
     ⟨some 4, .mv (.tmp 15), none⟩] [4] []) <|
  .ret
theorem Cd.impl_isNumberField_rs : Tryz.f44.results.toList = [.tmp 4] := rfl
theorem Cd.impl_isNumberField_nt : Tryz.f44.ntmps = 16 := rfl
theorem Cd.impl_isNumberField_ok : CodeIsR Tryz.prog 44 Tryz.f44 Cd.impl_isNumberField := ⟨Tryz.func44, by kernel_rfl, by decide +kernel⟩
/-- loop.example/g01012/impl.deckColumns -/
def Cd.impl_deckColumns : ACode :=
  .seq (.region [⟨some 2, .mv (.const (.int .i64 (0))), none⟩] [0] []) <|
  .seq (.seq (.region [⟨some 3, .mv (.tmp 0), none⟩,
      ⟨some 4, .len (.tmp 3), none⟩,
      ⟨some 5, .bin .eql (.tmp 4) (.const (.int .i64 (0))), none⟩] [0, 5] []) <|
   .cond (.tmp 5)
     (.seq (.region [⟨some 2, .mv (.const (.int .i64 (20))), none⟩] [2] []) <|
     .ret)
     (.skip)) <|
  .seq (.region [⟨some 6, .mv (.tmp 0), none⟩,
     ⟨some 7, .idxSl 1 (.tmp 6) (.const (.int .i64 (0))), none⟩,
     ⟨some 8, .load true 1 (.tmp 7), none⟩,
     ⟨some 9, .call (.func F._impl_Card__columns) [(.tmp 8)] [], none⟩,
     ⟨some 2, .mv (.tmp 9), none⟩] [2] []) <|
  .ret
theorem Cd.impl_deckColumns_rs : Tryz.f45.results.toList = [.tmp 2] := rfl
theorem Cd.impl_deckColumns_nt : Tryz.f45.ntmps = 10 := rfl
theorem Cd.impl_deckColumns_ok : CodeIsR Tryz.prog 45 Tryz.f45 Cd.impl_deckColumns := ⟨Tryz.func45, by kernel_rfl, by decide +kernel⟩
/-- loop.example/g01012/impl.MatchDecks -/
def Cd.impl_MatchDecks : ACode :=
  .seq (.region [⟨some 5, .box (.tmp 2), none⟩,
     ⟨some 6, .mv (.const (.slice none 0 0)), none⟩,
     ⟨some 7, .mv (.const (.int .i64 (0))), none⟩] [0, 1, 5] []) <|
  .seq (.region [⟨some 10, .load true 2 (.tmp 5), none⟩,
     ⟨some 11, .mv (.tmp 0), none⟩,
     ⟨some 12, .mv (.tmp 1), none⟩,
     ⟨some 13, .bslice 1 2 [.v (.slice none 0 0)] [(0, (.tmp 11)), (1, (.tmp 12))], none⟩,
     ⟨some 14, .call (.func F.impl_collateCode) [(.tmp 10), (.const (.bool true)), (.const (.slice none 0 0)), (.tmp 13)] [], none⟩,
     ⟨some 8, .mv (.tmp 14), none⟩] [0, 1, 5, 8] []) <|
  .seq (.block 0 (
     .seq (.region [⟨some 16, .mv (.tmp 8), none⟩,
        ⟨some 17, .bin .neq (.tmp 16) (.const (.int .i64 (0))), none⟩,
        ⟨some 15, .mv (.tmp 17), none⟩] [0, 1, 5, 8, 15] []) <|
     .cond (.tmp 15)
       (.seq (.region [⟨some 18, .mv (.tmp 8), none⟩,
          ⟨some 6, .mv (.const (.slice none 0 0)), none⟩,
          ⟨some 7, .mv (.tmp 18), none⟩] [6, 7] []) <|
       .ret)
       (.seq (.region [⟨some 20, .mv (.tmp 0), none⟩,
          ⟨some 21, .load true 2 (.tmp 5), none⟩,
          ⟨some 22, .call (.func F.impl_isAscending) [(.tmp 20), (.tmp 21)] [], none⟩,
          ⟨some 23, .un .not (.tmp 22), none⟩,
          ⟨some 24, .mv (.tmp 23), none⟩,
          ⟨some 25, .mv (.tmp 1), some (24, false)⟩,
          ⟨some 26, .load true 2 (.tmp 5), some (24, false)⟩,
          ⟨some 27, .call (.func F.impl_isAscending) [(.tmp 25), (.tmp 26)] [], some (24, false)⟩,
          ⟨some 28, .un .not (.tmp 27), some (24, false)⟩,
          ⟨some 29, .pick (.tmp 24) (.const (.bool true)) (.tmp 28), none⟩,
          ⟨some 19, .mv (.tmp 29), none⟩] [0, 1, 5, 19] []) <|
       .cond (.tmp 19)
         (.seq (.region [⟨some 6, .mv (.const (.slice none 0 0)), none⟩,
            ⟨some 7, .mv (.const (.int .i64 (6))), none⟩] [6, 7] []) <|
         .ret)
         (.skip)))) <|
  .seq (.region [⟨some 30, .mkfn F.impl_MatchDecks_1 [(.tmp 5)], none⟩,
     ⟨some 9, .mv (.tmp 30), none⟩] [0, 1, 9] []) <|
  .seq (.region [⟨some 31, .mv (.tmp 9), none⟩,
     ⟨some 32, .mv (.tmp 0), none⟩,
     ⟨some 33, .mv (.tmp 1), none⟩,
     ⟨some 34, .call (.tmp 31) [(.tmp 32), (.tmp 33), (.const (.bool true))] [], none⟩,
     ⟨some 35, .mv (.tmp 9), none⟩,
     ⟨some 36, .mv (.tmp 1), none⟩,
     ⟨some 37, .mv (.tmp 0), none⟩,
     ⟨some 38, .call (.tmp 35) [(.tmp 36), (.tmp 37), (.const (.bool true))] [], none⟩,
     ⟨some 39, .mv (.tmp 9), none⟩,
     ⟨some 40, .mv (.tmp 0), none⟩,
     ⟨some 41, .mv (.tmp 1), none⟩,
     ⟨some 42, .call (.tmp 39) [(.tmp 40), (.tmp 41), (.const (.bool false))] [], none⟩,
     ⟨some 43, .mv (.tmp 9), none⟩,
     ⟨some 44, .mv (.tmp 1), none⟩,
     ⟨some 45, .mv (.tmp 0), none⟩,
     ⟨some 46, .call (.tmp 43) [(.tmp 44), (.tmp 45), (.const (.bool false))] [], none⟩,
     ⟨some 47, .bslice 1 4 [.v (.slice none 0 0)] [(0, (.tmp 34)), (1, (.tmp 38)), (2, (.tmp 42)), (3, (.tmp 46))], none⟩,
     ⟨some 6, .mv (.tmp 47), none⟩,
     ⟨some 7, .mv (.const (.int .i64 (0))), none⟩] [6, 7] []) <|
  .ret
theorem Cd.impl_MatchDecks_rs : Tryz.f46.results.toList = [.tmp 6, .tmp 7] := rfl
theorem Cd.impl_MatchDecks_nt : Tryz.f46.ntmps = 48 := rfl
theorem Cd.impl_MatchDecks_ok : CodeIsR Tryz.prog 46 Tryz.f46 Cd.impl_MatchDecks := ⟨Tryz.func46, by kernel_rfl, by decide +kernel⟩
/-- loop.example/g01012/laws.eqCard -/
def Cd.laws_eqCard : ACode :=
  .seq (.region [⟨some 2, .box (.tmp 0), none⟩,
     ⟨some 3, .box (.tmp 1), none⟩,
     ⟨some 4, .mv (.const (.bool false)), none⟩] [2, 3] []) <|
  .seq (.seq (.region [⟨some 5, .fieldAddr 0 (.tmp 2), none⟩,
      ⟨some 6, .load false 1 (.tmp 5), none⟩,
      ⟨some 7, .fieldAddr 0 (.tmp 3), none⟩,
      ⟨some 8, .load false 1 (.tmp 7), none⟩,
      ⟨some 9, .call (.func F.laws_eqInt64S) [(.tmp 6), (.tmp 8)] [], none⟩,
      ⟨some 10, .un .not (.tmp 9), none⟩] [10] []) <|
   .cond (.tmp 10)
     (.seq (.region [⟨some 4, .mv (.const (.bool false)), none⟩] [4] []) <|
     .ret)
     (.skip)) <|
  .seq (.region [⟨some 4, .mv (.const (.bool true)), none⟩] [4] []) <|
  .ret
theorem Cd.laws_eqCard_rs : Tryz.f47.results.toList = [.tmp 4] := rfl
theorem Cd.laws_eqCard_nt : Tryz.f47.ntmps = 11 := rfl
theorem Cd.laws_eqCard_ok : CodeIsR Tryz.prog 47 Tryz.f47 Cd.laws_eqCard := ⟨Tryz.func47, by kernel_rfl, by decide +kernel⟩
/-- loop.example/g01012/spec.l00In -/
def Cd.spec_l00In : ACode :=
  .seq (.region [⟨some 6, .mv (.const (.bool false)), none⟩] [0, 1, 2] []) <|
  .seq (.region [⟨some 7, .mv (.tmp 0), none⟩,
     ⟨some 8, .mv (.tmp 1), none⟩,
     ⟨some 9, .bin .geq (.tmp 7) (.tmp 8), none⟩,
     ⟨some 10, .mv (.tmp 9), none⟩,
     ⟨some 11, .mv (.tmp 0), some (10, true)⟩,
     ⟨some 12, .mv (.tmp 2), some (10, true)⟩,
     ⟨some 13, .bin .leq (.tmp 11) (.tmp 12), some (10, true)⟩,
     ⟨some 14, .pick (.tmp 10) (.tmp 13) (.const (.bool false)), none⟩,
     ⟨some 6, .mv (.tmp 14), none⟩] [6] []) <|
  .ret
theorem Cd.spec_l00In_rs : Tryz.f50.results.toList = [.tmp 6] := rfl
theorem Cd.spec_l00In_nt : Tryz.f50.ntmps = 15 := rfl
theorem Cd.spec_l00In_ok : CodeIsR Tryz.prog 50 Tryz.f50 Cd.spec_l00In := ⟨Tryz.func50, by kernel_rfl, by decide +kernel⟩
/-- loop.example/g01012/spec.l02Field -/
def Cd.spec_l02Field : ACode :=
  .seq (.region [⟨some 2, .box (.tmp 0), none⟩,
     ⟨some 4, .mv (.const (.bool false)), none⟩] [1, 2] []) <|
  .seq (.region [⟨some 5, .fieldAddr 0 (.tmp 2), none⟩,
     ⟨some 6, .load false 1 (.tmp 5), none⟩,
     ⟨some 7, .bin .geq (.tmp 6) (.const (.int .i64 (0))), none⟩,
     ⟨some 8, .mv (.tmp 7), none⟩,
     ⟨some 9, .fieldAddr 0 (.tmp 2), some (8, true)⟩,
     ⟨some 10, .load false 1 (.tmp 9), some (8, true)⟩,
     ⟨some 11, .fieldAddr 1 (.tmp 2), some (8, true)⟩,
     ⟨some 12, .load false 1 (.tmp 11), some (8, true)⟩,
     ⟨some 13, .bin .lss (.tmp 10) (.tmp 12), some (8, true)⟩,
     ⟨some 14, .pick (.tmp 8) (.tmp 13) (.const (.bool false)), none⟩,
     ⟨some 15, .mv (.tmp 14), none⟩,
     ⟨some 16, .fieldAddr 1 (.tmp 2), some (15, true)⟩,
     ⟨some 17, .load false 1 (.tmp 16), some (15, true)⟩,
     ⟨some 18, .mv (.tmp 1), some (15, true)⟩,
     ⟨some 19, .bin .leq (.tmp 17) (.tmp 18), some (15, true)⟩,
     ⟨some 20, .pick (.tmp 15) (.tmp 19) (.const (.bool false)), none⟩,
     ⟨some 4, .mv (.tmp 20), none⟩] [4] []) <|
  .ret
theorem Cd.spec_l02Field_rs : Tryz.f52.results.toList = [.tmp 4] := rfl
theorem Cd.spec_l02Field_nt : Tryz.f52.ntmps = 21 := rfl
theorem Cd.spec_l02Field_ok : CodeIsR Tryz.prog 52 Tryz.f52 Cd.spec_l02Field := ⟨Tryz.func52, by kernel_rfl, by decide +kernel⟩
/-- loop.example/g01012/spec.l03Number -/
def Cd.spec_l03Number : ACode :=
  .seq (.region [⟨some 2, .mv (.const (.int .i64 (0))), none⟩,
     ⟨some 3, .mv (.const (.bool false)), none⟩] [0] []) <|
  .seq (.region [⟨some 4, .mv (.const (.int .i64 (0))), none⟩] [0, 4] []) <|
  .seq (.region [⟨some 5, .mv (.const (.bool false)), none⟩] [0, 4, 5] []) <|
  .seq (.region [⟨some 6, .mv (.const (.bool false)), none⟩] [0, 4, 5, 6] []) <|
  .seq (.seq (.region [⟨some 7, .mv (.const (.int .i64 (0))), none⟩] [0, 4, 5, 6, 7] []) <|
   .block 0 (
     .loop (
       .seq (.seq (.region [⟨some 10, .mv (.tmp 7), none⟩,
           ⟨some 11, .mv (.tmp 0), none⟩,
           ⟨some 12, .len (.tmp 11), none⟩,
           ⟨some 13, .bin .lss (.tmp 10) (.tmp 12), none⟩] [0, 4, 5, 6, 7, 13] []) <|
        .cond (.tmp 13)
          (.skip)
          (.exit 0)) <|
       .seq (.block 1 (
          .seq (.region [⟨some 16, .mv (.tmp 0), none⟩,
             ⟨some 17, .mv (.tmp 7), none⟩,
             ⟨some 18, .idxSl 1 (.tmp 16) (.tmp 17), none⟩,
             ⟨some 19, .load false 1 (.tmp 18), none⟩,
             ⟨some 8, .mv (.tmp 19), none⟩] [0, 4, 5, 6, 7, 8] []) <|
          .seq (.seq (.region [⟨some 20, .mv (.tmp 7), none⟩,
              ⟨some 21, .mv (.tmp 0), none⟩,
              ⟨some 22, .len (.tmp 21), none⟩,
              ⟨some 23, .bin .sub (.tmp 22) (.const (.int .i64 (1))), none⟩,
              ⟨some 24, .bin .eql (.tmp 20) (.tmp 23), none⟩,
              ⟨some 25, .mv (.tmp 24), none⟩,
              ⟨some 26, .mv (.tmp 8), some (25, true)⟩,
              ⟨some 27, .bin .and (.tmp 26) (.const (.int .i64 (2))), some (25, true)⟩,
              ⟨some 28, .bin .neq (.tmp 27) (.const (.int .i64 (0))), some (25, true)⟩,
              ⟨some 29, .pick (.tmp 25) (.tmp 28) (.const (.bool false)), none⟩] [0, 4, 5, 6, 7, 8, 29] []) <|
           .cond (.tmp 29)
             (.seq (.region [⟨some 6, .mv (.const (.bool true)), none⟩] [0, 4, 5, 6, 7, 8] []) <|
             .region [⟨some 30, .mv (.tmp 8), none⟩,
               ⟨some 31, .bin .sub (.tmp 30) (.const (.int .i64 (2))), none⟩,
               ⟨some 8, .mv (.tmp 31), none⟩] [0, 4, 5, 6, 7, 8] [])
             (.skip)) <|
          .seq (.seq (.region [⟨some 32, .mv (.tmp 8), none⟩,
              ⟨some 33, .bin .eql (.tmp 32) (.const (.int .i64 (0))), none⟩,
              ⟨some 34, .mv (.tmp 33), none⟩,
              ⟨some 35, .mv (.tmp 5), some (34, true)⟩,
              ⟨some 36, .un .not (.tmp 35), some (34, true)⟩,
              ⟨some 37, .pick (.tmp 34) (.tmp 36) (.const (.bool false)), none⟩,
              ⟨some 38, .mv (.tmp 37), none⟩,
              ⟨some 39, .mv (.tmp 6), some (38, true)⟩,
              ⟨some 40, .un .not (.tmp 39), some (38, true)⟩,
              ⟨some 41, .pick (.tmp 38) (.tmp 40) (.const (.bool false)), none⟩] [0, 4, 5, 6, 7, 8, 41] []) <|
           .cond (.tmp 41)
             (.exit 1)
             (.skip)) <|
          .seq (.region [⟨some 42, .mv (.tmp 8), none⟩,
             ⟨some 43, .call (.func F.spec_l03Digit) [(.tmp 42)] [], none⟩,
             ⟨some 9, .mv (.tmp 43), none⟩] [0, 4, 6, 7, 9] []) <|
          .seq (.seq (.region [⟨some 44, .mv (.tmp 9), none⟩,
              ⟨some 45, .bin .lss (.tmp 44) (.const (.int .i64 (0))), none⟩] [0, 4, 6, 7, 9, 45] []) <|
           .cond (.tmp 45)
             (.seq (.region [⟨some 2, .mv (.const (.int .i64 (0))), none⟩,
                ⟨some 3, .mv (.const (.bool false)), none⟩] [2, 3] []) <|
             .ret)
             (.skip)) <|
          .seq (.region [⟨some 5, .mv (.const (.bool true)), none⟩] [0, 4, 5, 6, 7, 9] []) <|
          .region [⟨some 46, .mv (.tmp 4), none⟩,
            ⟨some 47, .bin .mul (.const (.int .i64 (10))) (.tmp 46), none⟩,
            ⟨some 48, .mv (.tmp 9), none⟩,
            ⟨some 49, .bin .add (.tmp 47) (.tmp 48), none⟩,
            ⟨some 4, .mv (.tmp 49), none⟩] [0, 4, 5, 6, 7] [])) <|
       .region [⟨some 14, .mv (.tmp 7), none⟩,
         ⟨some 15, .bin .add (.tmp 14) (.const (.int .i64 (1))), none⟩,
         ⟨some 7, .mv (.tmp 15), none⟩] [0, 4, 5, 6, 7] []))) <|
  .seq (.seq (.region [⟨some 50, .mv (.tmp 6), none⟩] [4, 50] []) <|
   .cond (.tmp 50)
     (.seq (.region [⟨some 51, .mv (.tmp 4), none⟩,
        ⟨some 52, .un .neg (.tmp 51), none⟩,
        ⟨some 53, .mv (.tmp 4), none⟩,
        ⟨some 54, .bin .neq (.tmp 53) (.const (.int .i64 (0))), none⟩,
        ⟨some 2, .mv (.tmp 52), none⟩,
        ⟨some 3, .mv (.tmp 54), none⟩] [2, 3] []) <|
     .ret)
     (.skip)) <|
  .seq (.region [⟨some 55, .mv (.tmp 4), none⟩,
     ⟨some 2, .mv (.tmp 55), none⟩,
     ⟨some 3, .mv (.const (.bool true)), none⟩] [2, 3] []) <|
  .ret
theorem Cd.spec_l03Number_rs : Tryz.f55.results.toList = [.tmp 2, .tmp 3] := rfl
theorem Cd.spec_l03Number_nt : Tryz.f55.ntmps = 56 := rfl
theorem Cd.spec_l03Number_ok : CodeIsR Tryz.prog 55 Tryz.f55 Cd.spec_l03Number := ⟨Tryz.func55, by kernel_rfl, by decide +kernel⟩
/-- loop.example/g01012/spec.l02Part DRAWS -/
def Cd.spec_l02Part : ACode :=
  .seq (.region [⟨some 3, .box (.tmp 1), none⟩,
     ⟨some 4, .mv (.const (.slice none 0 0)), none⟩] [0, 3] []) <|
  .seq (.region [⟨some 5, .mv (.tmp 0), none⟩,
     ⟨some 6, .nilc (.tmp 5), none⟩,
     ⟨some 7, .fieldAddr 0 (.tmp 6), none⟩,
     ⟨some 8, .load false 1 (.tmp 7), none⟩,
     ⟨some 9, .fieldAddr 0 (.tmp 3), none⟩,
     ⟨some 10, .load false 1 (.tmp 9), none⟩,
     ⟨some 11, .fieldAddr 1 (.tmp 3), none⟩,
     ⟨some 12, .load false 1 (.tmp 11), none⟩,
     ⟨some 13, .slc 1 (.tmp 8) (some (.tmp 10)) (some (.tmp 12)), none⟩,
     ⟨some 4, .mv (.tmp 13), none⟩] [4] [5, 7, 8, 6, 9, 10, 11, 12, 13]) <|
  .ret
theorem Cd.spec_l02Part_rs : Tryz.f56.results.toList = [.tmp 4] := rfl
theorem Cd.spec_l02Part_nt : Tryz.f56.ntmps = 14 := rfl
theorem Cd.spec_l02Part_ok : CodeIsR Tryz.prog 56 Tryz.f56 Cd.spec_l02Part := ⟨Tryz.func56, by kernel_rfl, by decide +kernel⟩
/-- loop.example/g01012/spec.l18Digits -/
def Cd.spec_l18Digits : ACode :=
  .seq (.region [⟨some 2, .mv (.const (.int .i64 (0))), none⟩] [0] []) <|
  .seq (.seq (.region [⟨some 4, .mv (.tmp 0), none⟩,
      ⟨some 5, .bin .lss (.tmp 4) (.const (.int .i64 (0))), none⟩] [0, 5] []) <|
   .cond (.tmp 5)
     (.region [⟨some 6, .mv (.tmp 0), none⟩,
       ⟨some 7, .un .neg (.tmp 6), none⟩,
       ⟨some 0, .mv (.tmp 7), none⟩] [0] [])
     (.skip)) <|
  .seq (.region [⟨some 3, .mv (.const (.int .i64 (0))), none⟩] [0, 3] []) <|
  .seq (.block 0 (
     .loop (
       .seq (.seq (.region [⟨some 8, .mv (.tmp 0), none⟩,
           ⟨some 9, .bin .gtr (.tmp 8) (.const (.int .i64 (0))), none⟩] [0, 3, 9] []) <|
        .cond (.tmp 9)
          (.skip)
          (.exit 0)) <|
       .seq (.block 1 (
          .region [⟨some 12, .mv (.tmp 3), none⟩,
            ⟨some 13, .mv (.tmp 0), none⟩,
            ⟨some 14, .bin .rem (.tmp 13) (.const (.int .i64 (10))), none⟩,
            ⟨some 15, .bin .add (.tmp 12) (.tmp 14), none⟩,
            ⟨some 3, .mv (.tmp 15), none⟩] [0, 3] [])) <|
       .region [⟨some 10, .mv (.tmp 0), none⟩,
         ⟨some 11, .bin .quo (.tmp 10) (.const (.int .i64 (10))), none⟩,
         ⟨some 0, .mv (.tmp 11), none⟩] [0, 3] []))) <|
  .seq (.region [⟨some 16, .mv (.tmp 3), none⟩,
     ⟨some 2, .mv (.tmp 16), none⟩] [2] []) <|
  .ret
theorem Cd.spec_l18Digits_rs : Tryz.f57.results.toList = [.tmp 2] := rfl
theorem Cd.spec_l18Digits_nt : Tryz.f57.ntmps = 17 := rfl
theorem Cd.spec_l18Digits_ok : CodeIsR Tryz.prog 57 Tryz.f57 Cd.spec_l18Digits := ⟨Tryz.func57, by kernel_rfl, by decide +kernel⟩
/-- loop.example/g01012/impl.inside -/
def Cd.impl_inside : ACode :=
  .seq (.region [⟨some 6, .mv (.const (.bool false)), none⟩] [0, 1, 2] []) <|
  .seq (.region [⟨some 7, .mv (.tmp 0), none⟩,
     ⟨some 8, .mv (.tmp 1), none⟩,
     ⟨some 9, .bin .geq (.tmp 7) (.tmp 8), none⟩,
     ⟨some 10, .mv (.tmp 9), none⟩,
     ⟨some 11, .mv (.tmp 0), some (10, true)⟩,
     ⟨some 12, .mv (.tmp 2), some (10, true)⟩,
     ⟨some 13, .bin .leq (.tmp 11) (.tmp 12), some (10, true)⟩,
     ⟨some 14, .pick (.tmp 10) (.tmp 13) (.const (.bool false)), none⟩,
     ⟨some 6, .mv (.tmp 14), none⟩] [6] []) <|
  .ret
theorem Cd.impl_inside_rs : Tryz.f62.results.toList = [.tmp 6] := rfl
theorem Cd.impl_inside_nt : Tryz.f62.ntmps = 15 := rfl
theorem Cd.impl_inside_ok : CodeIsR Tryz.prog 62 Tryz.f62 Cd.impl_inside := ⟨Tryz.func62, by kernel_rfl, by decide +kernel⟩
/-- loop.example/g01012/impl.isField -/
def Cd.impl_isField : ACode :=
  .seq (.region [⟨some 2, .box (.tmp 0), none⟩,
     ⟨some 4, .mv (.const (.bool false)), none⟩] [1, 2] []) <|
  .seq (.region [⟨some 5, .fieldAddr 0 (.tmp 2), none⟩,
     ⟨some 6, .load false 1 (.tmp 5), none⟩,
     ⟨some 7, .bin .leq (.const (.int .i64 (0))) (.tmp 6), none⟩,
     ⟨some 8, .mv (.tmp 7), none⟩,
     ⟨some 9, .fieldAddr 0 (.tmp 2), some (8, true)⟩,
     ⟨some 10, .load false 1 (.tmp 9), some (8, true)⟩,
     ⟨some 11, .fieldAddr 1 (.tmp 2), some (8, true)⟩,
     ⟨some 12, .load false 1 (.tmp 11), some (8, true)⟩,
     ⟨some 13, .bin .lss (.tmp 10) (.tmp 12), some (8, true)⟩,
     ⟨some 14, .pick (.tmp 8) (.tmp 13) (.const (.bool false)), none⟩,
     ⟨some 15, .mv (.tmp 14), none⟩,
     ⟨some 16, .fieldAddr 1 (.tmp 2), some (15, true)⟩,
     ⟨some 17, .load false 1 (.tmp 16), some (15, true)⟩,
     ⟨some 18, .mv (.tmp 1), some (15, true)⟩,
     ⟨some 19, .bin .leq (.tmp 17) (.tmp 18), some (15, true)⟩,
     ⟨some 20, .pick (.tmp 15) (.tmp 19) (.const (.bool false)), none⟩,
     ⟨some 4, .mv (.tmp 20), none⟩] [4] []) <|
  .ret
theorem Cd.impl_isField_rs : Tryz.f65.results.toList = [.tmp 4] := rfl
theorem Cd.impl_isField_nt : Tryz.f65.ntmps = 21 := rfl
theorem Cd.impl_isField_ok : CodeIsR Tryz.prog 65 Tryz.f65 Cd.impl_isField := ⟨Tryz.func65, by kernel_rfl, by decide +kernel⟩
/-- loop.example/g01012/impl.areCharacters -/
def Cd.impl_areCharacters : ACode :=
  .seq (.region [⟨some 2, .mv (.const (.bool false)), none⟩] [0] []) <|
  .seq (.seq (.region [⟨some 3, .mv (.const (.int .i64 (0))), none⟩] [0, 3] []) <|
   .block 0 (
     .loop (
       .seq (.seq (.region [⟨some 4, .mv (.tmp 3), none⟩,
           ⟨some 5, .mv (.tmp 0), none⟩,
           ⟨some 6, .lenS (.tmp 5), none⟩,
           ⟨some 7, .bin .lss (.tmp 4) (.tmp 6), none⟩] [0, 3, 7] []) <|
        .cond (.tmp 7)
          (.skip)
          (.exit 0)) <|
       .seq (.block 1 (
          .seq (.region [⟨some 10, .mv (.tmp 0), none⟩,
             ⟨some 11, .mv (.tmp 3), none⟩,
             ⟨some 12, .idxStr (.tmp 10) (.tmp 11), none⟩,
             ⟨some 13, .call (.func F.impl_isCharacter) [(.tmp 12)] [], none⟩,
             ⟨some 14, .un .not (.tmp 13), none⟩] [0, 3, 14] []) <|
          .cond (.tmp 14)
            (.seq (.region [⟨some 2, .mv (.const (.bool false)), none⟩] [2] []) <|
            .ret)
            (.skip))) <|
       .region [⟨some 8, .mv (.tmp 3), none⟩,
         ⟨some 9, .bin .add (.tmp 8) (.const (.int .i64 (1))), none⟩,
         ⟨some 3, .mv (.tmp 9), none⟩] [0, 3] []))) <|
  .seq (.region [⟨some 2, .mv (.const (.bool true)), none⟩] [2] []) <|
  .ret
theorem Cd.impl_areCharacters_rs : Tryz.f66.results.toList = [.tmp 2] := rfl
theorem Cd.impl_areCharacters_nt : Tryz.f66.ntmps = 15 := rfl
theorem Cd.impl_areCharacters_ok : CodeIsR Tryz.prog 66 Tryz.f66 Cd.impl_areCharacters := ⟨Tryz.func66, by kernel_rfl, by decide +kernel⟩
/-- (loop.example/g01012/impl.Card).columns -/
def Cd._impl_Card__columns : ACode :=
  .seq (.region [⟨some 1, .box (.tmp 0), none⟩,
     ⟨some 2, .mv (.const (.int .i64 (0))), none⟩] [1] []) <|
  .seq (.region [⟨some 3, .fieldAddr 0 (.tmp 1), none⟩,
     ⟨some 4, .load false 1 (.tmp 3), none⟩,
     ⟨some 5, .call (.func F.impl_size_int64_) [(.tmp 4)] [], none⟩,
     ⟨some 2, .mv (.tmp 5), none⟩] [2] []) <|
  .ret
theorem Cd._impl_Card__columns_rs : Tryz.f67.results.toList = [.tmp 2] := rfl
theorem Cd._impl_Card__columns_nt : Tryz.f67.ntmps = 6 := rfl
theorem Cd._impl_Card__columns_ok : CodeIsR Tryz.prog 67 Tryz.f67 Cd._impl_Card__columns := ⟨Tryz.func67, by kernel_rfl, by decide +kernel⟩
/-- loop.example/g01012/impl.size[loop.example/g01012/impl.Card] -/
def Cd.impl_size_impl_Card_ : ACode :=
  .seq (.region [⟨some 2, .mv (.const (.int .i64 (0))), none⟩] [0] []) <|
  .seq (.region [⟨some 3, .mv (.tmp 0), none⟩,
     ⟨some 4, .len (.tmp 3), none⟩,
     ⟨some 2, .mv (.tmp 4), none⟩] [2] []) <|
  .ret
theorem Cd.impl_size_impl_Card__rs : Tryz.f68.results.toList = [.tmp 2] := rfl
theorem Cd.impl_size_impl_Card__nt : Tryz.f68.ntmps = 5 := rfl
theorem Cd.impl_size_impl_Card__ok : CodeIsR Tryz.prog 68 Tryz.f68 Cd.impl_size_impl_Card_ := ⟨Tryz.func68, by kernel_rfl, by decide +kernel⟩
/-- loop.example/g01012/impl.numberIn DRAWS -/
def Cd.impl_numberIn : ACode :=
  .seq (.region [⟨some 2, .box (.tmp 0), none⟩,
     ⟨some 3, .box (.tmp 1), none⟩,
     ⟨some 4, .mv (.const (.int .i64 (0))), none⟩,
     ⟨some 5, .mv (.const (.bool false)), none⟩] [2, 3] []) <|
  .seq (.region [⟨some 14, .fieldAddr 0 (.tmp 2), none⟩,
     ⟨some 15, .load false 1 (.tmp 14), none⟩,
     ⟨some 16, .fieldAddr 0 (.tmp 3), none⟩,
     ⟨some 17, .load false 1 (.tmp 16), none⟩,
     ⟨some 18, .fieldAddr 1 (.tmp 3), none⟩,
     ⟨some 19, .load false 1 (.tmp 18), none⟩,
     ⟨some 20, .slc 1 (.tmp 15) (some (.tmp 17)) (some (.tmp 19)), none⟩,
     ⟨some 21, .call (.func F.impl_copyInts) [(.tmp 20)] [], none⟩,
     ⟨some 6, .mv (.tmp 21), none⟩] [6] []) <|
  .seq (.seq (.region [⟨some 22, .mv (.tmp 6), none⟩,
      ⟨some 23, .call (.func F.slices_ContainsFunc___int64_int64_) [(.tmp 22), (.func F.impl_numberIn_1)] [], none⟩,
      ⟨some 24, .un .not (.tmp 23), none⟩] [6, 24] []) <|
   .cond (.tmp 24)
     (.seq (.region [⟨some 4, .mv (.const (.int .i64 (0))), none⟩,
        ⟨some 5, .mv (.const (.bool true)), none⟩] [4, 5] []) <|
     .ret)
     (.skip)) <|
  .seq (.region [⟨some 25, .mv (.tmp 6), none⟩,
     ⟨some 26, .len (.tmp 25), none⟩,
     ⟨some 27, .bin .sub (.tmp 26) (.const (.int .i64 (1))), none⟩,
     ⟨some 7, .mv (.tmp 27), none⟩] [6, 7] []) <|
  .seq (.region [⟨some 28, .mv (.tmp 6), none⟩,
     ⟨some 29, .mv (.tmp 7), none⟩,
     ⟨some 30, .idxSl 1 (.tmp 28) (.tmp 29), none⟩,
     ⟨some 31, .load false 1 (.tmp 30), none⟩,
     ⟨some 32, .call (.func F.impl_bitOf) [(.const (.int .i64 (11)))] [], none⟩,
     ⟨some 33, .bin .and (.tmp 31) (.tmp 32), none⟩,
     ⟨some 34, .bin .neq (.tmp 33) (.const (.int .i64 (0))), none⟩,
     ⟨some 8, .mv (.tmp 34), none⟩] [6, 7, 8] [28, 29, 31, 32, 30, 33, 34]) <|
  .seq (.region [⟨some 35, .mv (.tmp 6), none⟩,
     ⟨some 36, .mv (.tmp 7), none⟩,
     ⟨some 37, .idxSl 1 (.tmp 35) (.tmp 36), none⟩,
     ⟨some 38, .load false 1 (.tmp 37), none⟩,
     ⟨some 39, .call (.func F.impl_bitOf) [(.const (.int .i64 (11)))] [], none⟩,
     ⟨some 40, .bin .andNot (.tmp 38) (.tmp 39), none⟩,
     ⟨some 41, .idxSl 1 (.tmp 35) (.tmp 36), none⟩,
     ⟨none, .store 1 (.tmp 41) (.tmp 40), none⟩] [6, 7, 8] [35, 36, 38, 39, 37, 40]) <|
  .seq (.region [⟨some 9, .mv (.const (.int .i64 (0))), none⟩,
     ⟨some 10, .mv (.const (.bool false)), none⟩] [6, 7, 8, 9, 10] []) <|
  .seq (.seq (.region [⟨some 42, .mv (.tmp 6), none⟩,
      ⟨some 43, .len (.tmp 42), none⟩,
      ⟨some 44, .mv (.const (.int .i64 (0))), none⟩] [6, 7, 8, 9, 10, 42, 43, 44] []) <|
   .block 0 (
     .loop (
       .seq (.region [⟨some 45, .bin .lss (.tmp 44) (.tmp 43), none⟩] [6, 7, 8, 9, 10, 42, 43, 44, 45] []) <|
       .seq (.cond (.tmp 45)
          (.skip)
          (.exit 0)) <|
       .seq (.block 1 (
          .seq (.region [⟨some 46, .idxSl 1 (.tmp 42) (.tmp 44), none⟩,
             ⟨some 47, .load false 1 (.tmp 46), none⟩,
             ⟨some 12, .mv (.tmp 47), none⟩] [6, 7, 8, 9, 10, 12, 42, 43, 44] []) <|
          .seq (.region [⟨some 48, .mv (.tmp 12), none⟩,
             ⟨some 49, .call (.func F.impl_digitOf) [(.tmp 48)] [], none⟩,
             ⟨some 13, .mv (.tmp 49), none⟩] [6, 7, 8, 9, 10, 12, 13, 42, 43, 44] []) <|
          .seq (.block 2 (
             .seq (.region [⟨some 51, .mv (.tmp 12), none⟩,
                ⟨some 52, .bin .eql (.tmp 51) (.const (.int .i64 (0))), none⟩,
                ⟨some 53, .mv (.tmp 52), none⟩,
                ⟨some 54, .mv (.tmp 10), some (53, true)⟩,
                ⟨some 55, .un .not (.tmp 54), some (53, true)⟩,
                ⟨some 56, .pick (.tmp 53) (.tmp 55) (.const (.bool false)), none⟩,
                ⟨some 50, .mv (.tmp 56), none⟩] [6, 7, 8, 9, 10, 13, 42, 43, 44, 50] []) <|
             .cond (.tmp 50)
               (.exit 1)
               (.seq (.region [⟨some 58, .mv (.tmp 13), none⟩,
                  ⟨some 59, .bin .lss (.tmp 58) (.const (.int .i64 (0))), none⟩,
                  ⟨some 57, .mv (.tmp 59), none⟩] [6, 7, 8, 9, 13, 42, 43, 44, 57] []) <|
               .cond (.tmp 57)
                 (.seq (.region [⟨some 4, .mv (.const (.int .i64 (0))), none⟩,
                    ⟨some 5, .mv (.const (.bool false)), none⟩] [4, 5] []) <|
                 .ret)
                 (.skip)))) <|
          .seq (.region [⟨some 10, .mv (.const (.bool true)), none⟩] [6, 7, 8, 9, 10, 13, 42, 43, 44] []) <|
          .region [⟨some 60, .mv (.tmp 9), none⟩,
            ⟨some 61, .bin .mul (.const (.int .i64 (10))) (.tmp 60), none⟩,
            ⟨some 62, .mv (.tmp 13), none⟩,
            ⟨some 63, .bin .add (.tmp 61) (.tmp 62), none⟩,
            ⟨some 9, .mv (.tmp 63), none⟩] [6, 7, 8, 9, 10, 42, 43, 44] [])) <|
       .region [⟨some 64, .bin .add (.tmp 44) (.const (.int .i64 (1))), none⟩,
         ⟨some 44, .mv (.tmp 64), none⟩] [6, 7, 8, 9, 10, 42, 43, 44] []))) <|
  .seq (.seq (.region [⟨some 65, .mv (.tmp 10), none⟩,
      ⟨some 66, .un .not (.tmp 65), none⟩,
      ⟨some 67, .mv (.tmp 66), none⟩,
      ⟨some 68, .mv (.tmp 6), some (67, false)⟩,
      ⟨some 69, .mv (.tmp 7), some (67, false)⟩,
      ⟨some 70, .idxSl 1 (.tmp 68) (.tmp 69), some (67, false)⟩,
      ⟨some 71, .load false 1 (.tmp 70), some (67, false)⟩,
      ⟨some 72, .bin .eql (.tmp 71) (.const (.int .i64 (0))), some (67, false)⟩,
      ⟨some 73, .pick (.tmp 67) (.const (.bool true)) (.tmp 72), none⟩,
      ⟨some 74, .mv (.tmp 73), none⟩,
      ⟨some 75, .mv (.tmp 8), some (74, false)⟩,
      ⟨some 76, .mv (.tmp 75), some (74, false)⟩,
      ⟨some 77, .mv (.tmp 9), some (76, true)⟩,
      ⟨some 78, .bin .eql (.tmp 77) (.const (.int .i64 (0))), some (76, true)⟩,
      ⟨some 79, .pick (.tmp 76) (.tmp 78) (.const (.bool false)), some (74, false)⟩,
      ⟨some 80, .pick (.tmp 74) (.const (.bool true)) (.tmp 79), none⟩] [8, 9, 80] []) <|
   .cond (.tmp 80)
     (.seq (.region [⟨some 4, .mv (.const (.int .i64 (0))), none⟩,
        ⟨some 5, .mv (.const (.bool false)), none⟩] [4, 5] []) <|
     .ret)
     (.skip)) <|
  .seq (.seq (.region [⟨some 81, .mv (.tmp 8), none⟩] [9, 81] []) <|
   .cond (.tmp 81)
     (.region [⟨some 82, .mv (.tmp 9), none⟩,
       ⟨some 83, .un .neg (.tmp 82), none⟩,
       ⟨some 9, .mv (.tmp 83), none⟩] [9] [])
     (.skip)) <|
  .seq (.region [⟨some 84, .mv (.tmp 9), none⟩,
     ⟨some 4, .mv (.tmp 84), none⟩,
     ⟨some 5, .mv (.const (.bool true)), none⟩] [4, 5] []) <|
  .ret
theorem Cd.impl_numberIn_rs : Tryz.f69.results.toList = [.tmp 4, .tmp 5] := rfl
theorem Cd.impl_numberIn_nt : Tryz.f69.ntmps = 85 := rfl
theorem Cd.impl_numberIn_ok : CodeIsR Tryz.prog 69 Tryz.f69 Cd.impl_numberIn := ⟨Tryz.func69, by kernel_rfl, by decide +kernel⟩
/-- loop.example/g01012/impl.digitSum -/
def Cd.impl_digitSum : ACode :=
  .seq (.region [⟨some 2, .mv (.const (.int .i64 (0))), none⟩] [0] []) <|
  .seq (.region [⟨some 3, .mv (.const (.int .i64 (0))), none⟩] [0, 3] []) <|
  .seq (.seq (.region [⟨some 6, .mv (.tmp 0), none⟩,
      ⟨some 7, .call (.func F.impl_digitList) [(.tmp 6)] [], none⟩,
      ⟨some 8, .len (.tmp 7), none⟩,
      ⟨some 9, .mv (.const (.int .i64 (0))), none⟩] [3, 7, 8, 9] []) <|
   .block 0 (
     .loop (
       .seq (.region [⟨some 10, .bin .lss (.tmp 9) (.tmp 8), none⟩] [3, 7, 8, 9, 10] []) <|
       .seq (.cond (.tmp 10)
          (.skip)
          (.exit 0)) <|
       .seq (.block 1 (
          .seq (.region [⟨some 11, .idxSl 1 (.tmp 7) (.tmp 9), none⟩,
             ⟨some 12, .load false 1 (.tmp 11), none⟩,
             ⟨some 5, .mv (.tmp 12), none⟩] [3, 5, 7, 8, 9] []) <|
          .region [⟨some 13, .mv (.tmp 3), none⟩,
            ⟨some 14, .mv (.tmp 5), none⟩,
            ⟨some 15, .bin .add (.tmp 13) (.tmp 14), none⟩,
            ⟨some 3, .mv (.tmp 15), none⟩] [3, 7, 8, 9] [])) <|
       .region [⟨some 16, .bin .add (.tmp 9) (.const (.int .i64 (1))), none⟩,
         ⟨some 9, .mv (.tmp 16), none⟩] [3, 7, 8, 9] []))) <|
  .seq (.region [⟨some 17, .mv (.tmp 3), none⟩,
     ⟨some 2, .mv (.tmp 17), none⟩] [2] []) <|
  .ret
theorem Cd.impl_digitSum_rs : Tryz.f70.results.toList = [.tmp 2] := rfl
theorem Cd.impl_digitSum_nt : Tryz.f70.ntmps = 18 := rfl
theorem Cd.impl_digitSum_ok : CodeIsR Tryz.prog 70 Tryz.f70 Cd.impl_digitSum := ⟨Tryz.func70, by kernel_rfl, by decide +kernel⟩
/-- loop.example/g01012/laws.szInt64S -/
def Cd.laws_szInt64S : ACode :=
  .seq (.region [⟨some 4, .mv (.const (.int .i64 (0))), none⟩] [0, 1] []) <|
  .seq (.region [⟨some 5, .mv (.tmp 1), none⟩,
     ⟨some 6, .mv (.tmp 0), none⟩,
     ⟨some 7, .len (.tmp 6), none⟩,
     ⟨some 8, .bin .sub (.tmp 5) (.tmp 7), none⟩,
     ⟨some 1, .mv (.tmp 8), none⟩] [1] []) <|
  .seq (.seq (.region [⟨some 9, .mv (.tmp 1), none⟩,
      ⟨some 10, .bin .lss (.tmp 9) (.const (.int .i64 (0))), none⟩] [1, 10] []) <|
   .cond (.tmp 10)
     (.seq (.region [⟨some 4, .mv (.const (.int .i64 (-1))), none⟩] [4] []) <|
     .ret)
     (.skip)) <|
  .seq (.region [⟨some 11, .mv (.tmp 1), none⟩,
     ⟨some 4, .mv (.tmp 11), none⟩] [4] []) <|
  .ret
theorem Cd.laws_szInt64S_rs : Tryz.f72.results.toList = [.tmp 4] := rfl
theorem Cd.laws_szInt64S_nt : Tryz.f72.ntmps = 12 := rfl
theorem Cd.laws_szInt64S_ok : CodeIsR Tryz.prog 72 Tryz.f72 Cd.laws_szInt64S := ⟨Tryz.func72, by kernel_rfl, by decide +kernel⟩
/-- loop.example/g01012/spec.l02Ok -/
def Cd.spec_l02Ok : ACode :=
  .seq (.region [⟨some 2, .mv (.const (.bool false)), none⟩] [0] []) <|
  .seq (.seq (.region [⟨some 3, .mv (.const (.int .i64 (0))), none⟩] [0, 3] []) <|
   .block 0 (
     .loop (
       .seq (.seq (.region [⟨some 4, .mv (.tmp 3), none⟩,
           ⟨some 5, .mv (.tmp 0), none⟩,
           ⟨some 6, .nilc (.tmp 5), none⟩,
           ⟨some 7, .fieldAddr 0 (.tmp 6), none⟩,
           ⟨some 8, .load false 1 (.tmp 7), none⟩,
           ⟨some 9, .len (.tmp 8), none⟩,
           ⟨some 10, .bin .lss (.tmp 4) (.tmp 9), none⟩] [0, 3, 10] []) <|
        .cond (.tmp 10)
          (.skip)
          (.exit 0)) <|
       .seq (.block 1 (
          .seq (.region [⟨some 13, .mv (.tmp 0), none⟩,
             ⟨some 14, .nilc (.tmp 13), none⟩,
             ⟨some 15, .fieldAddr 0 (.tmp 14), none⟩,
             ⟨some 16, .load false 1 (.tmp 15), none⟩,
             ⟨some 17, .mv (.tmp 3), none⟩,
             ⟨some 18, .idxSl 1 (.tmp 16) (.tmp 17), none⟩,
             ⟨some 19, .load false 1 (.tmp 18), none⟩,
             ⟨some 20, .call (.func F.spec_l00In) [(.tmp 19), (.const (.int .i64 (0))), (.const (.int .i64 (4095)))] [], none⟩,
             ⟨some 21, .un .not (.tmp 20), none⟩] [0, 3, 21] []) <|
          .cond (.tmp 21)
            (.seq (.region [⟨some 2, .mv (.const (.bool false)), none⟩] [2] []) <|
            .ret)
            (.skip))) <|
       .region [⟨some 11, .mv (.tmp 3), none⟩,
         ⟨some 12, .bin .add (.tmp 11) (.const (.int .i64 (1))), none⟩,
         ⟨some 3, .mv (.tmp 12), none⟩] [0, 3] []))) <|
  .seq (.region [⟨some 22, .mv (.tmp 0), none⟩,
     ⟨some 23, .nilc (.tmp 22), none⟩,
     ⟨some 24, .fieldAddr 0 (.tmp 23), none⟩,
     ⟨some 25, .load false 1 (.tmp 24), none⟩,
     ⟨some 26, .len (.tmp 25), none⟩,
     ⟨some 27, .call (.func F.spec_l00In) [(.tmp 26), (.const (.int .i64 (1))), (.const (.int .i64 (20)))] [], none⟩,
     ⟨some 2, .mv (.tmp 27), none⟩] [2] []) <|
  .ret
theorem Cd.spec_l02Ok_rs : Tryz.f73.results.toList = [.tmp 2] := rfl
theorem Cd.spec_l02Ok_nt : Tryz.f73.ntmps = 28 := rfl
theorem Cd.spec_l02Ok_ok : CodeIsR Tryz.prog 73 Tryz.f73 Cd.spec_l02Ok := ⟨Tryz.func73, by kernel_rfl, by decide +kernel⟩
/-- loop.example/g01012/spec.l09Two DRAWS -/
def Cd.spec_l09Two : ACode :=
  .seq (.region [⟨some 5, .box (.tmp 2), none⟩,
     ⟨some 6, .mv (.const (.slice none 0 0)), none⟩,
     ⟨some 7, .mv (.const (.slice none 0 0)), none⟩,
     ⟨some 8, .mv (.const (.int .i64 (0))), none⟩] [0, 1, 5] []) <|
  .seq (.seq (.region [⟨some 13, .mv (.tmp 0), none⟩,
      ⟨some 14, .call (.func F.spec_l02Deck) [(.tmp 13)] [], none⟩,
      ⟨some 15, .un .not (.tmp 14), none⟩,
      ⟨some 16, .mv (.tmp 15), none⟩,
      ⟨some 17, .mv (.tmp 1), some (16, false)⟩,
      ⟨some 18, .call (.func F.spec_l02Deck) [(.tmp 17)] [], some (16, false)⟩,
      ⟨some 19, .un .not (.tmp 18), some (16, false)⟩,
      ⟨some 20, .pick (.tmp 16) (.const (.bool true)) (.tmp 19), none⟩] [0, 1, 5, 20] []) <|
   .cond (.tmp 20)
     (.seq (.region [⟨some 6, .mv (.const (.slice none 0 0)), none⟩,
        ⟨some 7, .mv (.const (.slice none 0 0)), none⟩,
        ⟨some 8, .mv (.const (.int .i64 (1))), none⟩] [6, 7, 8] []) <|
     .ret)
     (.skip)) <|
  .seq (.seq (.region [⟨some 21, .load true 2 (.tmp 5), none⟩,
      ⟨some 22, .mv (.tmp 0), none⟩,
      ⟨some 23, .call (.func F.spec_l07Width) [(.tmp 22)] [], none⟩,
      ⟨some 24, .call (.func F.spec_l02Field) [(.tmp 21), (.tmp 23)] [], none⟩,
      ⟨some 25, .un .not (.tmp 24), none⟩,
      ⟨some 26, .mv (.tmp 25), none⟩,
      ⟨some 27, .load true 2 (.tmp 5), some (26, false)⟩,
      ⟨some 28, .mv (.tmp 1), some (26, false)⟩,
      ⟨some 29, .call (.func F.spec_l07Width) [(.tmp 28)] [], some (26, false)⟩,
      ⟨some 30, .call (.func F.spec_l02Field) [(.tmp 27), (.tmp 29)] [], some (26, false)⟩,
      ⟨some 31, .un .not (.tmp 30), some (26, false)⟩,
      ⟨some 32, .pick (.tmp 26) (.const (.bool true)) (.tmp 31), none⟩] [0, 1, 5, 32] [21, 22, 23, 24, 25, 26, 27, 28, 29, 30, 31, 32]) <|
   .cond (.tmp 32)
     (.seq (.region [⟨some 6, .mv (.const (.slice none 0 0)), none⟩,
        ⟨some 7, .mv (.const (.slice none 0 0)), none⟩,
        ⟨some 8, .mv (.const (.int .i64 (2))), none⟩] [6, 7, 8] []) <|
     .ret)
     (.skip)) <|
  .seq (.region [⟨some 34, .mv (.tmp 0), none⟩,
     ⟨some 35, .load true 2 (.tmp 5), none⟩,
     ⟨some 36, .call (.func F.spec_l07Keys) [(.tmp 34), (.tmp 35)] [], none⟩,
     ⟨some 33, .mv (.tmp 36), none⟩,
     ⟨some 37, .extract (.tmp 33) 0, none⟩,
     ⟨some 38, .extract (.tmp 33) 1, none⟩,
     ⟨some 9, .mv (.tmp 37), none⟩,
     ⟨some 10, .mv (.tmp 38), none⟩] [1, 5, 9, 10] []) <|
  .seq (.region [⟨some 40, .mv (.tmp 1), none⟩,
     ⟨some 41, .load true 2 (.tmp 5), none⟩,
     ⟨some 42, .call (.func F.spec_l07Keys) [(.tmp 40), (.tmp 41)] [], none⟩,
     ⟨some 39, .mv (.tmp 42), none⟩,
     ⟨some 43, .extract (.tmp 39) 0, none⟩,
     ⟨some 44, .extract (.tmp 39) 1, none⟩,
     ⟨some 11, .mv (.tmp 43), none⟩,
     ⟨some 12, .mv (.tmp 44), none⟩] [9, 10, 11, 12] []) <|
  .seq (.seq (.region [⟨some 45, .mv (.tmp 10), none⟩,
      ⟨some 46, .bin .neq (.tmp 45) (.const (.int .i64 (0))), none⟩,
      ⟨some 47, .mv (.tmp 46), none⟩,
      ⟨some 48, .mv (.tmp 12), some (47, false)⟩,
      ⟨some 49, .bin .neq (.tmp 48) (.const (.int .i64 (0))), some (47, false)⟩,
      ⟨some 50, .pick (.tmp 47) (.const (.bool true)) (.tmp 49), none⟩] [9, 11, 50] []) <|
   .cond (.tmp 50)
     (.seq (.region [⟨some 6, .mv (.const (.slice none 0 0)), none⟩,
        ⟨some 7, .mv (.const (.slice none 0 0)), none⟩,
        ⟨some 8, .mv (.const (.int .i64 (8))), none⟩] [6, 7, 8] []) <|
     .ret)
     (.skip)) <|
  .seq (.region [⟨some 51, .mv (.tmp 9), none⟩,
     ⟨some 52, .mv (.tmp 11), none⟩,
     ⟨some 6, .mv (.tmp 51), none⟩,
     ⟨some 7, .mv (.tmp 52), none⟩,
     ⟨some 8, .mv (.const (.int .i64 (0))), none⟩] [6, 7, 8] []) <|
  .ret
theorem Cd.spec_l09Two_rs : Tryz.f74.results.toList = [.tmp 6, .tmp 7, .tmp 8] := rfl
theorem Cd.spec_l09Two_nt : Tryz.f74.ntmps = 53 := rfl
theorem Cd.spec_l09Two_ok : CodeIsR Tryz.prog 74 Tryz.f74 Cd.spec_l09Two := ⟨Tryz.func74, by kernel_rfl, by decide +kernel⟩
/-- loop.example/g01012/spec.l07Step DRAWS -/
def Cd.spec_l07Step : ACode :=
  .seq (.region [⟨some 2, .mv (.const (.int .i64 (0))), none⟩] [0] []) <|
  .seq (.seq (.region [⟨some 3, .mv (.const (.int .i64 (1))), none⟩] [0, 3] []) <|
   .block 0 (
     .loop (
       .seq (.seq (.region [⟨some 4, .mv (.tmp 3), none⟩,
           ⟨some 5, .mv (.tmp 0), none⟩,
           ⟨some 6, .len (.tmp 5), none⟩,
           ⟨some 7, .bin .lss (.tmp 4) (.tmp 6), none⟩] [0, 3, 7] []) <|
        .cond (.tmp 7)
          (.skip)
          (.exit 0)) <|
       .seq (.block 1 (
          .seq (.region [⟨some 10, .mv (.tmp 0), none⟩,
             ⟨some 11, .mv (.tmp 3), none⟩,
             ⟨some 12, .idxSl 1 (.tmp 10) (.tmp 11), none⟩,
             ⟨some 13, .load false 1 (.tmp 12), none⟩,
             ⟨some 14, .mv (.tmp 0), none⟩,
             ⟨some 15, .mv (.tmp 3), none⟩,
             ⟨some 16, .bin .sub (.tmp 15) (.const (.int .i64 (1))), none⟩,
             ⟨some 17, .idxSl 1 (.tmp 14) (.tmp 16), none⟩,
             ⟨some 18, .load false 1 (.tmp 17), none⟩,
             ⟨some 19, .call (.func F.spec_l03Compare) [(.tmp 13), (.tmp 18)] [], none⟩,
             ⟨some 20, .bin .lss (.tmp 19) (.const (.int .i64 (0))), none⟩] [0, 3, 20] [10, 11, 13, 14, 12, 15, 16, 17, 18, 19, 20]) <|
          .cond (.tmp 20)
            (.seq (.region [⟨some 21, .mv (.tmp 3), none⟩,
               ⟨some 2, .mv (.tmp 21), none⟩] [2] []) <|
            .ret)
            (.skip))) <|
       .region [⟨some 8, .mv (.tmp 3), none⟩,
         ⟨some 9, .bin .add (.tmp 8) (.const (.int .i64 (1))), none⟩,
         ⟨some 3, .mv (.tmp 9), none⟩] [0, 3] []))) <|
  .seq (.region [⟨some 2, .mv (.const (.int .i64 (-1))), none⟩] [2] []) <|
  .ret
theorem Cd.spec_l07Step_rs : Tryz.f75.results.toList = [.tmp 2] := rfl
theorem Cd.spec_l07Step_nt : Tryz.f75.ntmps = 22 := rfl
theorem Cd.spec_l07Step_ok : CodeIsR Tryz.prog 75 Tryz.f75 Cd.spec_l07Step := ⟨Tryz.func75, by kernel_rfl, by decide +kernel⟩
/-- loop.example/g01012/spec.l09Match -/
def Cd.spec_l09Match : ACode :=
  .seq (.region [⟨some 6, .mv (.const (.slice none 0 0)), none⟩,
     ⟨some 7, .mv (.const (.slice none 0 0)), none⟩] [0, 1, 2] []) <|
  .seq (.naming 8 (
     .region [⟨some 11, .bslice 1 0 [.v (.slice none 0 0)] [], none⟩,
       ⟨some 8, .mv (.tmp 11), none⟩] [0, 1, 2, 8] [])) <|
  .seq (.naming 9 (
     .region [⟨some 12, .bslice 1 0 [.v (.slice none 0 0)] [], none⟩,
       ⟨some 9, .mv (.tmp 12), none⟩] [0, 1, 2, 8, 9] [])) <|
  .seq (.seq (.region [⟨some 10, .mv (.const (.int .i64 (0))), none⟩] [0, 1, 2, 8, 9, 10] []) <|
   .block 0 (
     .loop (
       .seq (.seq (.region [⟨some 13, .mv (.tmp 10), none⟩,
           ⟨some 14, .mv (.tmp 0), none⟩,
           ⟨some 15, .len (.tmp 14), none⟩,
           ⟨some 16, .bin .lss (.tmp 13) (.tmp 15), none⟩] [0, 1, 2, 8, 9, 10, 16] []) <|
        .cond (.tmp 16)
          (.skip)
          (.exit 0)) <|
       .seq (.block 1 (
          .seq (.region [⟨some 19, .mv (.tmp 2), none⟩,
             ⟨some 20, .mv (.tmp 1), none⟩,
             ⟨some 21, .mv (.tmp 10), none⟩,
             ⟨some 22, .idxSl 1 (.tmp 20) (.tmp 21), none⟩,
             ⟨some 23, .load false 1 (.tmp 22), none⟩,
             ⟨some 24, .call (.func F.spec_l09Has) [(.tmp 19), (.tmp 23)] [], none⟩] [0, 1, 2, 8, 9, 10, 24] []) <|
          .cond (.tmp 24)
            (.naming 8 (
              .region [⟨some 25, .mv (.tmp 8), none⟩,
                ⟨some 26, .mv (.tmp 0), none⟩,
                ⟨some 27, .mv (.tmp 10), none⟩,
                ⟨some 28, .idxSl 1 (.tmp 26) (.tmp 27), none⟩,
                ⟨some 29, .call (.func F.spec_l02Own) [(.tmp 28)] [], none⟩,
                ⟨some 30, .bslice 1 1 [.v (.slice none 0 0)] [(0, (.tmp 29))], none⟩,
                ⟨some 31, .append 1 24 (.tmp 25) (.tmp 30), none⟩,
                ⟨some 8, .mv (.tmp 31), none⟩] [0, 1, 2, 8, 9, 10] []))
            (.naming 9 (
              .region [⟨some 32, .mv (.tmp 9), none⟩,
                ⟨some 33, .mv (.tmp 0), none⟩,
                ⟨some 34, .mv (.tmp 10), none⟩,
                ⟨some 35, .idxSl 1 (.tmp 33) (.tmp 34), none⟩,
                ⟨some 36, .call (.func F.spec_l02Own) [(.tmp 35)] [], none⟩,
                ⟨some 37, .bslice 1 1 [.v (.slice none 0 0)] [(0, (.tmp 36))], none⟩,
                ⟨some 38, .append 1 24 (.tmp 32) (.tmp 37), none⟩,
                ⟨some 9, .mv (.tmp 38), none⟩] [0, 1, 2, 8, 9, 10] [])))) <|
       .region [⟨some 17, .mv (.tmp 10), none⟩,
         ⟨some 18, .bin .add (.tmp 17) (.const (.int .i64 (1))), none⟩,
         ⟨some 10, .mv (.tmp 18), none⟩] [0, 1, 2, 8, 9, 10] []))) <|
  .seq (.region [⟨some 39, .mv (.tmp 8), none⟩,
     ⟨some 40, .mv (.tmp 9), none⟩,
     ⟨some 6, .mv (.tmp 39), none⟩,
     ⟨some 7, .mv (.tmp 40), none⟩] [6, 7] []) <|
  .ret
theorem Cd.spec_l09Match_rs : Tryz.f76.results.toList = [.tmp 6, .tmp 7] := rfl
theorem Cd.spec_l09Match_nt : Tryz.f76.ntmps = 41 := rfl
theorem Cd.spec_l09Match_ok : CodeIsR Tryz.prog 76 Tryz.f76 Cd.spec_l09Match := ⟨Tryz.func76, by kernel_rfl, by decide +kernel⟩
/-- loop.example/g01012/laws.toInt64S -/
def Cd.laws_toInt64S : ACode :=
  .seq (.region [⟨some 2, .mv (.const (.slice none 0 0)), none⟩] [0] []) <|
  .seq (.region [⟨some 5, .mv (.tmp 0), none⟩,
     ⟨some 6, .len (.tmp 5), none⟩,
     ⟨some 7, .mk 1 8 [.v (.int .i64 (0))] (.tmp 6), none⟩,
     ⟨some 3, .mv (.tmp 7), none⟩] [0, 3] []) <|
  .seq (.seq (.region [⟨some 4, .mv (.const (.int .i64 (0))), none⟩] [0, 3, 4] []) <|
   .block 0 (
     .loop (
       .seq (.seq (.region [⟨some 8, .mv (.tmp 4), none⟩,
           ⟨some 9, .mv (.tmp 0), none⟩,
           ⟨some 10, .len (.tmp 9), none⟩,
           ⟨some 11, .bin .lss (.tmp 8) (.tmp 10), none⟩] [0, 3, 4, 11] []) <|
        .cond (.tmp 11)
          (.skip)
          (.exit 0)) <|
       .seq (.block 1 (
          .region [⟨some 14, .mv (.tmp 3), none⟩,
            ⟨some 15, .mv (.tmp 4), none⟩,
            ⟨some 16, .mv (.tmp 0), none⟩,
            ⟨some 17, .mv (.tmp 4), none⟩,
            ⟨some 18, .idxSl 1 (.tmp 16) (.tmp 17), none⟩,
            ⟨some 19, .load false 1 (.tmp 18), none⟩,
            ⟨some 20, .idxSl 1 (.tmp 14) (.tmp 15), none⟩,
            ⟨none, .store 1 (.tmp 20) (.tmp 19), none⟩] [0, 3, 4] [])) <|
       .region [⟨some 12, .mv (.tmp 4), none⟩,
         ⟨some 13, .bin .add (.tmp 12) (.const (.int .i64 (1))), none⟩,
         ⟨some 4, .mv (.tmp 13), none⟩] [0, 3, 4] []))) <|
  .seq (.region [⟨some 21, .mv (.tmp 3), none⟩,
     ⟨some 2, .mv (.tmp 21), none⟩] [2] []) <|
  .ret
theorem Cd.laws_toInt64S_rs : Tryz.f77.results.toList = [.tmp 2] := rfl
theorem Cd.laws_toInt64S_nt : Tryz.f77.ntmps = 22 := rfl
theorem Cd.laws_toInt64S_ok : CodeIsR Tryz.prog 77 Tryz.f77 Cd.laws_toInt64S := ⟨Tryz.func77, by kernel_rfl, by decide +kernel⟩
/-- loop.example/g01012/impl.ValidCard -/
def Cd.impl_ValidCard : ACode :=
  .seq (.region [⟨some 1, .box (.tmp 0), none⟩,
     ⟨some 2, .mv (.const (.bool false)), none⟩] [1] []) <|
  .seq (.region [⟨some 3, .load true 1 (.tmp 1), none⟩,
     ⟨some 4, .call (.func F._impl_Card__columns) [(.tmp 3)] [], none⟩,
     ⟨some 5, .call (.func F.impl_inside) [(.tmp 4), (.const (.int .i64 (1))), (.const (.int .i64 (20)))] [], none⟩,
     ⟨some 6, .mv (.tmp 5), none⟩,
     ⟨some 7, .fieldAddr 0 (.tmp 1), some (6, true)⟩,
     ⟨some 8, .load false 1 (.tmp 7), some (6, true)⟩,
     ⟨some 9, .call (.func F.slices_ContainsFunc___int64_int64_) [(.tmp 8), (.func F.impl_ValidCard_1)] [], some (6, true)⟩,
     ⟨some 10, .un .not (.tmp 9), some (6, true)⟩,
     ⟨some 11, .pick (.tmp 6) (.tmp 10) (.const (.bool false)), none⟩,
     ⟨some 2, .mv (.tmp 11), none⟩] [2] []) <|
  .ret
theorem Cd.impl_ValidCard_rs : Tryz.f78.results.toList = [.tmp 2] := rfl
theorem Cd.impl_ValidCard_nt : Tryz.f78.ntmps = 12 := rfl
theorem Cd.impl_ValidCard_ok : CodeIsR Tryz.prog 78 Tryz.f78 Cd.impl_ValidCard := ⟨Tryz.func78, by kernel_rfl, by decide +kernel⟩
/-- loop.example/g01012/impl.collateCode DRAWS -/
def Cd.impl_collateCode : ACode :=
  .seq (.region [⟨some 4, .box (.tmp 0), none⟩,
     ⟨some 8, .mv (.const (.int .i64 (0))), none⟩] [1, 2, 3, 4] []) <|
  .seq (.seq (.region [⟨some 19, .mv (.tmp 3), none⟩,
      ⟨some 20, .len (.tmp 19), none⟩,
      ⟨some 21, .mv (.const (.int .i64 (0))), none⟩] [1, 2, 3, 4, 19, 20, 21] []) <|
   .block 0 (
     .loop (
       .seq (.region [⟨some 22, .bin .lss (.tmp 21) (.tmp 20), none⟩] [1, 2, 3, 4, 19, 20, 21, 22] []) <|
       .seq (.cond (.tmp 22)
          (.skip)
          (.exit 0)) <|
       .seq (.block 1 (
          .seq (.region [⟨some 23, .idxSl 1 (.tmp 19) (.tmp 21), none⟩,
             ⟨some 24, .load false 1 (.tmp 23), none⟩,
             ⟨some 10, .mv (.tmp 24), none⟩] [1, 2, 3, 4, 10, 19, 20, 21] []) <|
          .seq (.region [⟨some 25, .mv (.tmp 10), none⟩,
             ⟨some 26, .call (.func F.impl_ValidDeck) [(.tmp 25)] [], none⟩,
             ⟨some 27, .un .not (.tmp 26), none⟩] [1, 2, 3, 4, 19, 20, 21, 27] []) <|
          .cond (.tmp 27)
            (.seq (.region [⟨some 8, .mv (.const (.int .i64 (1))), none⟩] [8] []) <|
            .ret)
            (.skip))) <|
       .region [⟨some 28, .bin .add (.tmp 21) (.const (.int .i64 (1))), none⟩,
         ⟨some 21, .mv (.tmp 28), none⟩] [1, 2, 3, 4, 19, 20, 21] []))) <|
  .seq (.seq (.region [⟨some 29, .mv (.tmp 1), none⟩,
      ⟨some 30, .un .not (.tmp 29), none⟩] [2, 3, 4, 30] []) <|
   .cond (.tmp 30)
     (.seq (.region [⟨some 8, .mv (.const (.int .i64 (1))), none⟩] [8] []) <|
     .ret)
     (.skip)) <|
  .seq (.seq (.region [⟨some 31, .mv (.tmp 3), none⟩,
      ⟨some 32, .len (.tmp 31), none⟩,
      ⟨some 33, .mv (.const (.int .i64 (0))), none⟩] [2, 3, 4, 31, 32, 33] []) <|
   .block 2 (
     .loop (
       .seq (.region [⟨some 34, .bin .lss (.tmp 33) (.tmp 32), none⟩] [2, 3, 4, 31, 32, 33, 34] []) <|
       .seq (.cond (.tmp 34)
          (.skip)
          (.exit 2)) <|
       .seq (.block 3 (
          .seq (.region [⟨some 35, .idxSl 1 (.tmp 31) (.tmp 33), none⟩,
             ⟨some 36, .load false 1 (.tmp 35), none⟩,
             ⟨some 12, .mv (.tmp 36), none⟩] [2, 3, 4, 12, 31, 32, 33] []) <|
          .seq (.region [⟨some 37, .load true 2 (.tmp 4), none⟩,
             ⟨some 38, .mv (.tmp 12), none⟩,
             ⟨some 39, .call (.func F.impl_deckColumns) [(.tmp 38)] [], none⟩,
             ⟨some 40, .call (.func F.impl_isField) [(.tmp 37), (.tmp 39)] [], none⟩,
             ⟨some 41, .un .not (.tmp 40), none⟩] [2, 3, 4, 31, 32, 33, 41] [37, 38, 39, 40, 41]) <|
          .cond (.tmp 41)
            (.seq (.region [⟨some 8, .mv (.const (.int .i64 (2))), none⟩] [8] []) <|
            .ret)
            (.skip))) <|
       .region [⟨some 42, .bin .add (.tmp 33) (.const (.int .i64 (1))), none⟩,
         ⟨some 33, .mv (.tmp 42), none⟩] [2, 3, 4, 31, 32, 33] []))) <|
  .seq (.seq (.region [⟨some 43, .mv (.tmp 2), none⟩,
      ⟨some 44, .len (.tmp 43), none⟩,
      ⟨some 45, .mv (.const (.int .i64 (0))), none⟩] [2, 3, 4, 43, 44, 45] []) <|
   .block 4 (
     .loop (
       .seq (.region [⟨some 46, .bin .lss (.tmp 45) (.tmp 44), none⟩] [2, 3, 4, 43, 44, 45, 46] []) <|
       .seq (.cond (.tmp 46)
          (.skip)
          (.exit 4)) <|
       .seq (.block 5 (
          .seq (.region [⟨some 47, .idxSl 1 (.tmp 43) (.tmp 45), none⟩,
             ⟨some 48, .load false 1 (.tmp 47), none⟩,
             ⟨some 14, .mv (.tmp 48), none⟩] [2, 3, 4, 14, 43, 44, 45] []) <|
          .seq (.region [⟨some 49, .mv (.tmp 14), none⟩,
             ⟨some 50, .lenS (.tmp 49), none⟩,
             ⟨some 51, .fieldAddr 1 (.tmp 4), none⟩,
             ⟨some 52, .load false 1 (.tmp 51), none⟩,
             ⟨some 53, .fieldAddr 0 (.tmp 4), none⟩,
             ⟨some 54, .load false 1 (.tmp 53), none⟩,
             ⟨some 55, .bin .sub (.tmp 52) (.tmp 54), none⟩,
             ⟨some 56, .bin .neq (.tmp 50) (.tmp 55), none⟩] [2, 3, 4, 43, 44, 45, 56] []) <|
          .cond (.tmp 56)
            (.seq (.region [⟨some 8, .mv (.const (.int .i64 (2))), none⟩] [8] []) <|
            .ret)
            (.skip))) <|
       .region [⟨some 57, .bin .add (.tmp 45) (.const (.int .i64 (1))), none⟩,
         ⟨some 45, .mv (.tmp 57), none⟩] [2, 3, 4, 43, 44, 45] []))) <|
  .seq (.seq (.region [⟨some 58, .mv (.tmp 2), none⟩,
      ⟨some 59, .len (.tmp 58), none⟩,
      ⟨some 60, .mv (.const (.int .i64 (0))), none⟩] [3, 4, 58, 59, 60] []) <|
   .block 6 (
     .loop (
       .seq (.region [⟨some 61, .bin .lss (.tmp 60) (.tmp 59), none⟩] [3, 4, 58, 59, 60, 61] []) <|
       .seq (.cond (.tmp 61)
          (.skip)
          (.exit 6)) <|
       .seq (.block 7 (
          .seq (.region [⟨some 62, .idxSl 1 (.tmp 58) (.tmp 60), none⟩,
             ⟨some 63, .load false 1 (.tmp 62), none⟩,
             ⟨some 16, .mv (.tmp 63), none⟩] [3, 4, 16, 58, 59, 60] []) <|
          .seq (.region [⟨some 64, .mv (.tmp 16), none⟩,
             ⟨some 65, .call (.func F.impl_areCharacters) [(.tmp 64)] [], none⟩,
             ⟨some 66, .un .not (.tmp 65), none⟩] [3, 4, 58, 59, 60, 66] []) <|
          .cond (.tmp 66)
            (.seq (.region [⟨some 8, .mv (.const (.int .i64 (7))), none⟩] [8] []) <|
            .ret)
            (.skip))) <|
       .region [⟨some 67, .bin .add (.tmp 60) (.const (.int .i64 (1))), none⟩,
         ⟨some 60, .mv (.tmp 67), none⟩] [3, 4, 58, 59, 60] []))) <|
  .seq (.seq (.region [⟨some 68, .mv (.tmp 3), none⟩,
      ⟨some 69, .len (.tmp 68), none⟩,
      ⟨some 70, .mv (.const (.int .i64 (0))), none⟩] [4, 68, 69, 70] []) <|
   .block 8 (
     .loop (
       .seq (.region [⟨some 71, .bin .lss (.tmp 70) (.tmp 69), none⟩] [4, 68, 69, 70, 71] []) <|
       .seq (.cond (.tmp 71)
          (.skip)
          (.exit 8)) <|
       .seq (.block 9 (
          .seq (.region [⟨some 72, .idxSl 1 (.tmp 68) (.tmp 70), none⟩,
             ⟨some 73, .load false 1 (.tmp 72), none⟩,
             ⟨some 18, .mv (.tmp 73), none⟩] [4, 18, 68, 69, 70] []) <|
          .seq (.region [⟨some 74, .mv (.tmp 18), none⟩,
             ⟨some 75, .load true 2 (.tmp 4), none⟩,
             ⟨some 76, .call (.func F.impl_haveField) [(.tmp 74), (.tmp 75)] [], none⟩,
             ⟨some 77, .un .not (.tmp 76), none⟩] [4, 68, 69, 70, 77] []) <|
          .cond (.tmp 77)
            (.seq (.region [⟨some 8, .mv (.const (.int .i64 (8))), none⟩] [8] []) <|
            .ret)
            (.skip))) <|
       .region [⟨some 78, .bin .add (.tmp 70) (.const (.int .i64 (1))), none⟩,
         ⟨some 70, .mv (.tmp 78), none⟩] [4, 68, 69, 70] []))) <|
  .seq (.region [⟨some 8, .mv (.const (.int .i64 (0))), none⟩] [8] []) <|
  .ret
theorem Cd.impl_collateCode_rs : Tryz.f79.results.toList = [.tmp 8] := rfl
theorem Cd.impl_collateCode_nt : Tryz.f79.ntmps = 79 := rfl
theorem Cd.impl_collateCode_ok : CodeIsR Tryz.prog 79 Tryz.f79 Cd.impl_collateCode := ⟨Tryz.func79, by kernel_rfl, by decide +kernel⟩
/-- loop.example/g01012/impl.isAscending -/
def Cd.impl_isAscending : ACode :=
  .seq (.region [⟨some 3, .box (.tmp 1), none⟩,
     ⟨some 4, .mv (.const (.bool false)), none⟩] [0, 3] []) <|
  .seq (.region [⟨some 5, .mv (.tmp 0), none⟩,
     ⟨some 6, .load true 2 (.tmp 3), none⟩,
     ⟨some 7, .call (.func F.impl_steps) [(.tmp 5), (.tmp 6)] [], none⟩,
     ⟨some 8, .len (.tmp 7), none⟩,
     ⟨some 9, .bin .eql (.tmp 8) (.const (.int .i64 (0))), none⟩,
     ⟨some 4, .mv (.tmp 9), none⟩] [4] []) <|
  .ret
theorem Cd.impl_isAscending_rs : Tryz.f80.results.toList = [.tmp 4] := rfl
theorem Cd.impl_isAscending_nt : Tryz.f80.ntmps = 10 := rfl
theorem Cd.impl_isAscending_ok : CodeIsR Tryz.prog 80 Tryz.f80 Cd.impl_isAscending := ⟨Tryz.func80, by kernel_rfl, by decide +kernel⟩
/-- loop.example/g01012/impl.MatchDecks$1 -/
def Cd.impl_MatchDecks_1 : ACode :=
  .seq (.region [⟨some 5, .box (.tmp 1), none⟩,
     ⟨some 6, .box (.tmp 2), none⟩,
     ⟨some 7, .mv (.const (.slice none 0 0)), none⟩] [0, 3, 5, 6] []) <|
  .seq (.region [⟨some 8, .mv (.tmp 0), none⟩,
     ⟨some 9, .call (.func F.impl_newDeck) [(.tmp 8)] [], none⟩,
     ⟨some 10, .mkfn F.impl_MatchDecks_1_1 [(.tmp 5), (.tmp 3), (.tmp 6)], none⟩,
     ⟨some 11, .call (.func F.slices_DeleteFunc___impl_Card_impl_Card_) [(.tmp 9), (.tmp 10)] [0], none⟩,
     ⟨some 7, .mv (.tmp 11), none⟩] [7] []) <|
  .ret
theorem Cd.impl_MatchDecks_1_rs : Tryz.f81.results.toList = [.tmp 7] := rfl
theorem Cd.impl_MatchDecks_1_nt : Tryz.f81.ntmps = 12 := rfl
theorem Cd.impl_MatchDecks_1_ok : CodeIsR Tryz.prog 81 Tryz.f81 Cd.impl_MatchDecks_1 := ⟨Tryz.func81, by kernel_rfl, by decide +kernel⟩
/-- slices.DeleteFunc[[]loop.example/g01012/impl.Card,loop.example/g01012/impl.Card] -/
def Cd.slices_DeleteFunc___impl_Card_impl_Card_ : ACode :=
  .seq (.region [⟨some 4, .mv (.const (.slice none 0 0)), none⟩] [0, 1] []) <|
  .seq (.region [⟨some 8, .mv (.tmp 0), none⟩,
     ⟨some 9, .mv (.tmp 1), none⟩,
     ⟨some 10, .call (.func F.slices_IndexFunc___impl_Card_impl_Card_) [(.tmp 8), (.tmp 9)] [], none⟩,
     ⟨some 5, .mv (.tmp 10), none⟩] [0, 1, 5] []) <|
  .seq (.seq (.region [⟨some 11, .mv (.tmp 5), none⟩,
      ⟨some 12, .bin .eql (.tmp 11) (.const (.int .i64 (-1))), none⟩] [0, 1, 5, 12] []) <|
   .cond (.tmp 12)
     (.seq (.region [⟨some 13, .mv (.tmp 0), none⟩,
        ⟨some 4, .mv (.tmp 13), none⟩] [4] []) <|
     .ret)
     (.skip)) <|
  .seq (.seq (.region [⟨some 14, .mv (.tmp 5), none⟩,
      ⟨some 15, .bin .add (.tmp 14) (.const (.int .i64 (1))), none⟩,
      ⟨some 6, .mv (.tmp 15), none⟩] [0, 1, 5, 6] []) <|
   .block 0 (
     .loop (
       .seq (.seq (.region [⟨some 16, .mv (.tmp 6), none⟩,
           ⟨some 17, .mv (.tmp 0), none⟩,
           ⟨some 18, .len (.tmp 17), none⟩,
           ⟨some 19, .bin .lss (.tmp 16) (.tmp 18), none⟩] [0, 1, 5, 6, 19] []) <|
        .cond (.tmp 19)
          (.skip)
          (.exit 0)) <|
       .seq (.block 1 (
          .seq (.region [⟨some 22, .mv (.tmp 0), none⟩,
             ⟨some 23, .mv (.tmp 6), none⟩,
             ⟨some 24, .idxSl 1 (.tmp 22) (.tmp 23), none⟩,
             ⟨some 25, .load true 1 (.tmp 24), none⟩,
             ⟨some 7, .alloc [.v (.slice none 0 0)], none⟩,
             ⟨none, .store 1 (.tmp 7) (.tmp 25), none⟩] [0, 1, 5, 6, 7] []) <|
          .seq (.region [⟨some 26, .mv (.tmp 1), none⟩,
             ⟨some 27, .load true 1 (.tmp 7), none⟩,
             ⟨some 28, .call (.tmp 26) [(.tmp 27)] [], none⟩,
             ⟨some 29, .un .not (.tmp 28), none⟩] [0, 1, 5, 6, 7, 29] []) <|
          .cond (.tmp 29)
            (.seq (.region [⟨some 30, .mv (.tmp 0), none⟩,
               ⟨some 31, .mv (.tmp 5), none⟩,
               ⟨some 32, .load true 1 (.tmp 7), none⟩,
               ⟨some 33, .idxSl 1 (.tmp 30) (.tmp 31), none⟩,
               ⟨none, .store 1 (.tmp 33) (.tmp 32), none⟩] [0, 1, 5, 6] []) <|
            .region [⟨some 34, .mv (.tmp 5), none⟩,
              ⟨some 35, .bin .add (.tmp 34) (.const (.int .i64 (1))), none⟩,
              ⟨some 5, .mv (.tmp 35), none⟩] [0, 1, 5, 6] [])
            (.skip))) <|
       .region [⟨some 20, .mv (.tmp 6), none⟩,
         ⟨some 21, .bin .add (.tmp 20) (.const (.int .i64 (1))), none⟩,
         ⟨some 6, .mv (.tmp 21), none⟩] [0, 1, 5, 6] []))) <|
  .seq (.region [⟨some 36, .mv (.tmp 0), none⟩,
     ⟨some 37, .mv (.tmp 5), none⟩,
     ⟨some 38, .slc 1 (.tmp 36) (some (.tmp 37)) none, none⟩,
     ⟨none, .clr 1 [.v (.slice none 0 0)] (.tmp 38), none⟩] [0, 5] []) <|
  .seq (.region [⟨some 39, .mv (.tmp 0), none⟩,
     ⟨some 40, .mv (.tmp 5), none⟩,
     ⟨some 41, .slc 1 (.tmp 39) none (some (.tmp 40)), none⟩,
     ⟨some 4, .mv (.tmp 41), none⟩] [4] []) <|
  .ret
theorem Cd.slices_DeleteFunc___impl_Card_impl_Card__rs : Tryz.f82.results.toList = [.tmp 4] := rfl
theorem Cd.slices_DeleteFunc___impl_Card_impl_Card__nt : Tryz.f82.ntmps = 42 := rfl
theorem Cd.slices_DeleteFunc___impl_Card_impl_Card__ok : CodeIsR Tryz.prog 82 Tryz.f82 Cd.slices_DeleteFunc___impl_Card_impl_Card_ := ⟨Tryz.func82, by kernel_rfl, by decide +kernel⟩
/-- loop.example/g01012/impl.newDeck -/
def Cd.impl_newDeck : ACode :=
  .seq (.region [⟨some 2, .mv (.const (.slice none 0 0)), none⟩] [0] []) <|
  .seq (.naming 3 (
     .region [⟨some 6, .bslice 1 0 [.v (.slice none 0 0)] [], none⟩,
       ⟨some 3, .mv (.tmp 6), none⟩] [0, 3] [])) <|
  .seq (.seq (.region [⟨some 7, .mv (.tmp 0), none⟩,
      ⟨some 8, .len (.tmp 7), none⟩,
      ⟨some 9, .mv (.const (.int .i64 (0))), none⟩] [3, 7, 8, 9] []) <|
   .block 0 (
     .loop (
       .seq (.region [⟨some 10, .bin .lss (.tmp 9) (.tmp 8), none⟩] [3, 7, 8, 9, 10] []) <|
       .seq (.cond (.tmp 10)
          (.skip)
          (.exit 0)) <|
       .seq (.block 1 (
          .seq (.region [⟨some 11, .idxSl 1 (.tmp 7) (.tmp 9), none⟩,
             ⟨some 12, .load true 1 (.tmp 11), none⟩,
             ⟨some 5, .alloc [.v (.slice none 0 0)], none⟩,
             ⟨none, .store 1 (.tmp 5) (.tmp 12), none⟩] [3, 5, 7, 8, 9] []) <|
          .naming 3 (
            .region [⟨some 13, .mv (.tmp 3), none⟩,
              ⟨some 14, .load true 1 (.tmp 5), none⟩,
              ⟨some 15, .call (.func F.impl_newCard) [(.tmp 14)] [], none⟩,
              ⟨some 16, .bslice 1 1 [.v (.slice none 0 0)] [(0, (.tmp 15))], none⟩,
              ⟨some 17, .append 1 24 (.tmp 13) (.tmp 16), none⟩,
              ⟨some 3, .mv (.tmp 17), none⟩] [3, 7, 8, 9] []))) <|
       .region [⟨some 18, .bin .add (.tmp 9) (.const (.int .i64 (1))), none⟩,
         ⟨some 9, .mv (.tmp 18), none⟩] [3, 7, 8, 9] []))) <|
  .seq (.region [⟨some 19, .mv (.tmp 3), none⟩,
     ⟨some 2, .mv (.tmp 19), none⟩] [2] []) <|
  .ret
theorem Cd.impl_newDeck_rs : Tryz.f83.results.toList = [.tmp 2] := rfl
theorem Cd.impl_newDeck_nt : Tryz.f83.ntmps = 20 := rfl
theorem Cd.impl_newDeck_ok : CodeIsR Tryz.prog 83 Tryz.f83 Cd.impl_newDeck := ⟨Tryz.func83, by kernel_rfl, by decide +kernel⟩
/-- loop.example/g01012/impl.MatchDecks$1$1 DRAWS -/
def Cd.impl_MatchDecks_1_1 : ACode :=
  .seq (.region [⟨some 4, .box (.tmp 0), none⟩,
     ⟨some 5, .mv (.const (.bool false)), none⟩] [1, 2, 3, 4] []) <|
  .seq (.region [⟨some 6, .load false 1 (.tmp 1), none⟩,
     ⟨some 7, .load true 1 (.tmp 4), none⟩,
     ⟨some 8, .load true 2 (.tmp 2), none⟩,
     ⟨some 9, .call (.func F.impl_hasEqual) [(.tmp 6), (.tmp 7), (.tmp 8)] [], none⟩,
     ⟨some 10, .load false 1 (.tmp 3), none⟩,
     ⟨some 11, .binB .neq (.tmp 9) (.tmp 10), none⟩,
     ⟨some 5, .mv (.tmp 11), none⟩] [5] [6, 7, 8, 10, 9, 11]) <|
  .ret
theorem Cd.impl_MatchDecks_1_1_rs : Tryz.f84.results.toList = [.tmp 5] := rfl
theorem Cd.impl_MatchDecks_1_1_nt : Tryz.f84.ntmps = 12 := rfl
theorem Cd.impl_MatchDecks_1_1_ok : CodeIsR Tryz.prog 84 Tryz.f84 Cd.impl_MatchDecks_1_1 := ⟨Tryz.func84, by kernel_rfl, by decide +kernel⟩
/-- loop.example/g01012/impl.hasEqual -/
def Cd.impl_hasEqual : ACode :=
  .seq (.region [⟨some 4, .box (.tmp 1), none⟩,
     ⟨some 5, .box (.tmp 2), none⟩,
     ⟨some 6, .mv (.const (.bool false)), none⟩] [0, 4, 5] []) <|
  .seq (.region [⟨some 7, .mv (.tmp 0), none⟩,
     ⟨some 8, .mkfn F.impl_hasEqual_1 [(.tmp 4), (.tmp 5)], none⟩,
     ⟨some 9, .call (.func F.slices_ContainsFunc___impl_Card_impl_Card_) [(.tmp 7), (.tmp 8)] [], none⟩,
     ⟨some 6, .mv (.tmp 9), none⟩] [6] []) <|
  .ret
theorem Cd.impl_hasEqual_rs : Tryz.f85.results.toList = [.tmp 6] := rfl
theorem Cd.impl_hasEqual_nt : Tryz.f85.ntmps = 10 := rfl
theorem Cd.impl_hasEqual_ok : CodeIsR Tryz.prog 85 Tryz.f85 Cd.impl_hasEqual := ⟨Tryz.func85, by kernel_rfl, by decide +kernel⟩
/-- loop.example/g01012/laws.eqInt64S DRAWS -/
def Cd.laws_eqInt64S : ACode :=
  .seq (.region [⟨some 4, .mv (.const (.bool false)), none⟩] [0, 1] []) <|
  .seq (.seq (.region [⟨some 6, .mv (.tmp 0), none⟩,
      ⟨some 7, .len (.tmp 6), none⟩,
      ⟨some 8, .mv (.tmp 1), none⟩,
      ⟨some 9, .len (.tmp 8), none⟩,
      ⟨some 10, .bin .neq (.tmp 7) (.tmp 9), none⟩] [0, 1, 10] []) <|
   .cond (.tmp 10)
     (.seq (.region [⟨some 4, .mv (.const (.bool false)), none⟩] [4] []) <|
     .ret)
     (.skip)) <|
  .seq (.seq (.region [⟨some 5, .mv (.const (.int .i64 (0))), none⟩] [0, 1, 5] []) <|
   .block 0 (
     .loop (
       .seq (.seq (.region [⟨some 11, .mv (.tmp 5), none⟩,
           ⟨some 12, .mv (.tmp 0), none⟩,
           ⟨some 13, .len (.tmp 12), none⟩,
           ⟨some 14, .bin .lss (.tmp 11) (.tmp 13), none⟩] [0, 1, 5, 14] []) <|
        .cond (.tmp 14)
          (.skip)
          (.exit 0)) <|
       .seq (.block 1 (
          .seq (.region [⟨some 17, .mv (.tmp 0), none⟩,
             ⟨some 18, .mv (.tmp 5), none⟩,
             ⟨some 19, .idxSl 1 (.tmp 17) (.tmp 18), none⟩,
             ⟨some 20, .load false 1 (.tmp 19), none⟩,
             ⟨some 21, .mv (.tmp 1), none⟩,
             ⟨some 22, .mv (.tmp 5), none⟩,
             ⟨some 23, .idxSl 1 (.tmp 21) (.tmp 22), none⟩,
             ⟨some 24, .load false 1 (.tmp 23), none⟩,
             ⟨some 25, .bin .neq (.tmp 20) (.tmp 24), none⟩] [0, 1, 5, 25] [17, 18, 20, 21, 19, 22, 23, 24, 25]) <|
          .cond (.tmp 25)
            (.seq (.region [⟨some 4, .mv (.const (.bool false)), none⟩] [4] []) <|
            .ret)
            (.skip))) <|
       .region [⟨some 15, .mv (.tmp 5), none⟩,
         ⟨some 16, .bin .add (.tmp 15) (.const (.int .i64 (1))), none⟩,
         ⟨some 5, .mv (.tmp 16), none⟩] [0, 1, 5] []))) <|
  .seq (.region [⟨some 4, .mv (.const (.bool true)), none⟩] [4] []) <|
  .ret
theorem Cd.laws_eqInt64S_rs : Tryz.f86.results.toList = [.tmp 4] := rfl
theorem Cd.laws_eqInt64S_nt : Tryz.f86.ntmps = 26 := rfl
theorem Cd.laws_eqInt64S_ok : CodeIsR Tryz.prog 86 Tryz.f86 Cd.laws_eqInt64S := ⟨Tryz.func86, by kernel_rfl, by decide +kernel⟩
/-- loop.example/g01012/spec.l03Code -/
def Cd.spec_l03Code : ACode :=
  .seq (.region [⟨some 2, .mv (.const (.int .i64 (0))), none⟩] [0] []) <|
  .seq (.region [⟨some 4, .mv (.tmp 0), none⟩,
     ⟨some 5, .conv .i64 (.tmp 4), none⟩,
     ⟨some 3, .mv (.tmp 5), none⟩] [0, 3] []) <|
  .seq (.block 0 (
     .seq (.region [⟨some 7, .mv (.tmp 0), none⟩,
        ⟨some 8, .bin .eql (.tmp 7) (.const (.int .u8 (32))), none⟩,
        ⟨some 6, .mv (.tmp 8), none⟩] [0, 3, 6] []) <|
     .cond (.tmp 6)
       (.seq (.region [⟨some 2, .mv (.const (.int .i64 (0))), none⟩] [2] []) <|
       .ret)
       (.seq (.region [⟨some 10, .mv (.tmp 0), none⟩,
          ⟨some 11, .bin .eql (.tmp 10) (.const (.int .u8 (38))), none⟩,
          ⟨some 9, .mv (.tmp 11), none⟩] [0, 3, 9] []) <|
       .cond (.tmp 9)
         (.seq (.region [⟨some 2, .mv (.const (.int .i64 (1))), none⟩] [2] []) <|
         .ret)
         (.seq (.region [⟨some 13, .mv (.tmp 0), none⟩,
            ⟨some 14, .bin .eql (.tmp 13) (.const (.int .u8 (45))), none⟩,
            ⟨some 12, .mv (.tmp 14), none⟩] [0, 3, 12] []) <|
         .cond (.tmp 12)
           (.seq (.region [⟨some 2, .mv (.const (.int .i64 (2))), none⟩] [2] []) <|
           .ret)
           (.seq (.region [⟨some 16, .mv (.tmp 0), none⟩,
              ⟨some 17, .bin .eql (.tmp 16) (.const (.int .u8 (47))), none⟩,
              ⟨some 15, .mv (.tmp 17), none⟩] [0, 3, 15] []) <|
           .cond (.tmp 15)
             (.seq (.region [⟨some 18, .call (.func F.spec_l02Bit) [(.const (.int .i64 (1)))] [], none⟩,
                ⟨some 19, .bin .or (.const (.int .i64 (4))) (.tmp 18), none⟩,
                ⟨some 2, .mv (.tmp 19), none⟩] [2] []) <|
             .ret)
             (.seq (.region [⟨some 21, .mv (.tmp 0), none⟩,
                ⟨some 22, .call (.func F.spec_l01Digit) [(.tmp 21)] [], none⟩,
                ⟨some 20, .mv (.tmp 22), none⟩] [0, 3, 20] []) <|
             .cond (.tmp 20)
               (.seq (.region [⟨some 23, .mv (.tmp 3), none⟩,
                  ⟨some 24, .bin .sub (.tmp 23) (.const (.int .i64 (48))), none⟩,
                  ⟨some 25, .call (.func F.spec_l02Bit) [(.tmp 24)] [], none⟩,
                  ⟨some 2, .mv (.tmp 25), none⟩] [2] []) <|
               .ret)
               (.seq (.region [⟨some 27, .mv (.tmp 0), none⟩,
                  ⟨some 28, .bin .geq (.tmp 27) (.const (.int .u8 (65))), none⟩,
                  ⟨some 29, .mv (.tmp 28), none⟩,
                  ⟨some 30, .mv (.tmp 0), some (29, true)⟩,
                  ⟨some 31, .bin .leq (.tmp 30) (.const (.int .u8 (73))), some (29, true)⟩,
                  ⟨some 32, .pick (.tmp 29) (.tmp 31) (.const (.bool false)), none⟩,
                  ⟨some 26, .mv (.tmp 32), none⟩] [0, 3, 26] []) <|
               .cond (.tmp 26)
                 (.seq (.region [⟨some 33, .mv (.tmp 3), none⟩,
                    ⟨some 34, .bin .sub (.tmp 33) (.const (.int .i64 (65))), none⟩,
                    ⟨some 35, .bin .add (.tmp 34) (.const (.int .i64 (1))), none⟩,
                    ⟨some 36, .call (.func F.spec_l02Bit) [(.tmp 35)] [], none⟩,
                    ⟨some 37, .bin .or (.const (.int .i64 (1))) (.tmp 36), none⟩,
                    ⟨some 2, .mv (.tmp 37), none⟩] [2] []) <|
                 .ret)
                 (.seq (.region [⟨some 39, .mv (.tmp 0), none⟩,
                    ⟨some 40, .bin .geq (.tmp 39) (.const (.int .u8 (74))), none⟩,
                    ⟨some 41, .mv (.tmp 40), none⟩,
                    ⟨some 42, .mv (.tmp 0), some (41, true)⟩,
                    ⟨some 43, .bin .leq (.tmp 42) (.const (.int .u8 (82))), some (41, true)⟩,
                    ⟨some 44, .pick (.tmp 41) (.tmp 43) (.const (.bool false)), none⟩,
                    ⟨some 38, .mv (.tmp 44), none⟩] [0, 3, 38] []) <|
                 .cond (.tmp 38)
                   (.seq (.region [⟨some 45, .mv (.tmp 3), none⟩,
                      ⟨some 46, .bin .sub (.tmp 45) (.const (.int .i64 (74))), none⟩,
                      ⟨some 47, .bin .add (.tmp 46) (.const (.int .i64 (1))), none⟩,
                      ⟨some 48, .call (.func F.spec_l02Bit) [(.tmp 47)] [], none⟩,
                      ⟨some 49, .bin .or (.const (.int .i64 (2))) (.tmp 48), none⟩,
                      ⟨some 2, .mv (.tmp 49), none⟩] [2] []) <|
                   .ret)
                   (.seq (.region [⟨some 51, .mv (.tmp 0), none⟩,
                      ⟨some 52, .bin .geq (.tmp 51) (.const (.int .u8 (83))), none⟩,
                      ⟨some 53, .mv (.tmp 52), none⟩,
                      ⟨some 54, .mv (.tmp 0), some (53, true)⟩,
                      ⟨some 55, .bin .leq (.tmp 54) (.const (.int .u8 (90))), some (53, true)⟩,
                      ⟨some 56, .pick (.tmp 53) (.tmp 55) (.const (.bool false)), none⟩,
                      ⟨some 50, .mv (.tmp 56), none⟩] [3, 50] []) <|
                   .cond (.tmp 50)
                     (.seq (.region [⟨some 57, .mv (.tmp 3), none⟩,
                        ⟨some 58, .bin .sub (.tmp 57) (.const (.int .i64 (83))), none⟩,
                        ⟨some 59, .bin .add (.tmp 58) (.const (.int .i64 (2))), none⟩,
                        ⟨some 60, .call (.func F.spec_l02Bit) [(.tmp 59)] [], none⟩,
                        ⟨some 61, .bin .or (.const (.int .i64 (4))) (.tmp 60), none⟩,
                        ⟨some 2, .mv (.tmp 61), none⟩] [2] []) <|
                     .ret)
                     (.skip)))))))))) <|
  .seq (.region [⟨some 2, .mv (.const (.int .i64 (-1))), none⟩] [2] []) <|
  .ret
theorem Cd.spec_l03Code_rs : Tryz.f88.results.toList = [.tmp 2] := rfl
theorem Cd.spec_l03Code_nt : Tryz.f88.ntmps = 62 := rfl
theorem Cd.spec_l03Code_ok : CodeIsR Tryz.prog 88 Tryz.f88 Cd.spec_l03Code := ⟨Tryz.func88, by kernel_rfl, by decide +kernel⟩
/-- loop.example/g01012/spec.l03Digit -/
def Cd.spec_l03Digit : ACode :=
  .seq (.region [⟨some 2, .mv (.const (.int .i64 (0))), none⟩] [0] []) <|
  .seq (.seq (.region [⟨some 3, .mv (.const (.int .i64 (0))), none⟩] [0, 3] []) <|
   .block 0 (
     .loop (
       .seq (.seq (.region [⟨some 4, .mv (.tmp 3), none⟩,
           ⟨some 5, .bin .leq (.tmp 4) (.const (.int .i64 (9))), none⟩] [0, 3, 5] []) <|
        .cond (.tmp 5)
          (.skip)
          (.exit 0)) <|
       .seq (.block 1 (
          .seq (.region [⟨some 8, .mv (.tmp 0), none⟩,
             ⟨some 9, .mv (.tmp 3), none⟩,
             ⟨some 10, .call (.func F.spec_l02Bit) [(.tmp 9)] [], none⟩,
             ⟨some 11, .bin .eql (.tmp 8) (.tmp 10), none⟩] [0, 3, 11] []) <|
          .cond (.tmp 11)
            (.seq (.region [⟨some 12, .mv (.tmp 3), none⟩,
               ⟨some 2, .mv (.tmp 12), none⟩] [2] []) <|
            .ret)
            (.skip))) <|
       .region [⟨some 6, .mv (.tmp 3), none⟩,
         ⟨some 7, .bin .add (.tmp 6) (.const (.int .i64 (1))), none⟩,
         ⟨some 3, .mv (.tmp 7), none⟩] [0, 3] []))) <|
  .seq (.region [⟨some 2, .mv (.const (.int .i64 (-1))), none⟩] [2] []) <|
  .ret
theorem Cd.spec_l03Digit_rs : Tryz.f89.results.toList = [.tmp 2] := rfl
theorem Cd.spec_l03Digit_nt : Tryz.f89.ntmps = 13 := rfl
theorem Cd.spec_l03Digit_ok : CodeIsR Tryz.prog 89 Tryz.f89 Cd.spec_l03Digit := ⟨Tryz.func89, by kernel_rfl, by decide +kernel⟩
/-- loop.example/g01012/impl.isCharacter -/
def Cd.impl_isCharacter : ACode :=
  .seq (.region [⟨some 2, .mv (.const (.bool false)), none⟩] [0] []) <|
  .seq (.region [⟨some 3, .mv (.tmp 0), none⟩,
     ⟨some 4, .call (.func F.strings_IndexByte) [(.const (.string ⟨#[32, 38, 65, 66, 67, 68, 69, 70, 71, 72, 73, 45, 74, 75, 76, 77, 78, 79, 80, 81, 82, 47, 83, 84, 85, 86, 87, 88, 89, 90, 48, 49, 50, 51, 52, 53, 54, 55, 56, 57]⟩)), (.tmp 3)] [], none⟩,
     ⟨some 5, .bin .geq (.tmp 4) (.const (.int .i64 (0))), none⟩,
     ⟨some 2, .mv (.tmp 5), none⟩] [2] []) <|
  .ret
theorem Cd.impl_isCharacter_rs : Tryz.f91.results.toList = [.tmp 2] := rfl
theorem Cd.impl_isCharacter_nt : Tryz.f91.ntmps = 6 := rfl
theorem Cd.impl_isCharacter_ok : CodeIsR Tryz.prog 91 Tryz.f91 Cd.impl_isCharacter := ⟨Tryz.func91, by kernel_rfl, by decide +kernel⟩
/-- loop.example/g01012/impl.size[int64] -/
def Cd.impl_size_int64_ : ACode :=
  .seq (.region [⟨some 2, .mv (.const (.int .i64 (0))), none⟩] [0] []) <|
  .seq (.region [⟨some 3, .mv (.tmp 0), none⟩,
     ⟨some 4, .len (.tmp 3), none⟩,
     ⟨some 2, .mv (.tmp 4), none⟩] [2] []) <|
  .ret
theorem Cd.impl_size_int64__rs : Tryz.f92.results.toList = [.tmp 2] := rfl
theorem Cd.impl_size_int64__nt : Tryz.f92.ntmps = 5 := rfl
theorem Cd.impl_size_int64__ok : CodeIsR Tryz.prog 92 Tryz.f92 Cd.impl_size_int64_ := ⟨Tryz.func92, by kernel_rfl, by decide +kernel⟩
/-- loop.example/g01012/impl.copyInts -/
def Cd.impl_copyInts : ACode :=
  .seq (.region [⟨some 2, .mv (.const (.slice none 0 0)), none⟩] [0] []) <|
  .seq (.region [⟨some 3, .bslice 1 0 [.v (.int .i64 (0))] [], none⟩,
     ⟨some 4, .mv (.tmp 0), none⟩,
     ⟨some 5, .append 1 8 (.tmp 3) (.tmp 4), none⟩,
     ⟨some 2, .mv (.tmp 5), none⟩] [2] []) <|
  .ret
theorem Cd.impl_copyInts_rs : Tryz.f93.results.toList = [.tmp 2] := rfl
theorem Cd.impl_copyInts_nt : Tryz.f93.ntmps = 6 := rfl
theorem Cd.impl_copyInts_ok : CodeIsR Tryz.prog 93 Tryz.f93 Cd.impl_copyInts := ⟨Tryz.func93, by kernel_rfl, by decide +kernel⟩
/-- slices.ContainsFunc[[]int64,int64] -/
def Cd.slices_ContainsFunc___int64_int64_ : ACode :=
  .seq (.region [⟨some 4, .mv (.const (.bool false)), none⟩] [0, 1] []) <|
  .seq (.region [⟨some 5, .mv (.tmp 0), none⟩,
     ⟨some 6, .mv (.tmp 1), none⟩,
     ⟨some 7, .call (.func F.slices_IndexFunc___int64_int64_) [(.tmp 5), (.tmp 6)] [], none⟩,
     ⟨some 8, .bin .geq (.tmp 7) (.const (.int .i64 (0))), none⟩,
     ⟨some 4, .mv (.tmp 8), none⟩] [4] []) <|
  .ret
theorem Cd.slices_ContainsFunc___int64_int64__rs : Tryz.f94.results.toList = [.tmp 4] := rfl
theorem Cd.slices_ContainsFunc___int64_int64__nt : Tryz.f94.ntmps = 9 := rfl
theorem Cd.slices_ContainsFunc___int64_int64__ok : CodeIsR Tryz.prog 94 Tryz.f94 Cd.slices_ContainsFunc___int64_int64_ := ⟨Tryz.func94, by kernel_rfl, by decide +kernel⟩
/-- loop.example/g01012/impl.numberIn$1 -/
def Cd.impl_numberIn_1 : ACode :=
  .seq (.region [⟨some 2, .mv (.const (.bool false)), none⟩] [0] []) <|
  .seq (.region [⟨some 3, .mv (.tmp 0), none⟩,
     ⟨some 4, .bin .neq (.tmp 3) (.const (.int .i64 (0))), none⟩,
     ⟨some 2, .mv (.tmp 4), none⟩] [2] []) <|
  .ret
theorem Cd.impl_numberIn_1_rs : Tryz.f95.results.toList = [.tmp 2] := rfl
theorem Cd.impl_numberIn_1_nt : Tryz.f95.ntmps = 5 := rfl
theorem Cd.impl_numberIn_1_ok : CodeIsR Tryz.prog 95 Tryz.f95 Cd.impl_numberIn_1 := ⟨Tryz.func95, by kernel_rfl, by decide +kernel⟩
/-- loop.example/g01012/impl.bitOf -/
def Cd.impl_bitOf : ACode :=
  .seq (.region [⟨some 2, .mv (.const (.int .i64 (0))), none⟩] [0] []) <|
  .seq (.block 0 (
     .seq (.region [⟨some 4, .mv (.tmp 0), none⟩,
        ⟨some 5, .bin .eql (.tmp 4) (.const (.int .i64 (12))), none⟩,
        ⟨some 3, .mv (.tmp 5), none⟩] [0, 3] []) <|
     .cond (.tmp 3)
       (.seq (.region [⟨some 2, .mv (.const (.int .i64 (1))), none⟩] [2] []) <|
       .ret)
       (.seq (.region [⟨some 7, .mv (.tmp 0), none⟩,
          ⟨some 8, .bin .eql (.tmp 7) (.const (.int .i64 (11))), none⟩,
          ⟨some 6, .mv (.tmp 8), none⟩] [0, 6] []) <|
       .cond (.tmp 6)
         (.seq (.region [⟨some 2, .mv (.const (.int .i64 (2))), none⟩] [2] []) <|
         .ret)
         (.seq (.region [⟨some 10, .mv (.tmp 0), none⟩,
            ⟨some 11, .call (.func F.impl_inside) [(.tmp 10), (.const (.int .i64 (0))), (.const (.int .i64 (9)))] [], none⟩,
            ⟨some 9, .mv (.tmp 11), none⟩] [0, 9] []) <|
         .cond (.tmp 9)
           (.seq (.region [⟨some 12, .mv (.tmp 0), none⟩,
              ⟨some 13, .bin .shl (.const (.int .i64 (4))) (.tmp 12), none⟩,
              ⟨some 2, .mv (.tmp 13), none⟩] [2] []) <|
           .ret)
           (.skip))))) <|
  .seq (.region [⟨some 2, .mv (.const (.int .i64 (0))), none⟩] [2] []) <|
  .ret
theorem Cd.impl_bitOf_rs : Tryz.f96.results.toList = [.tmp 2] := rfl
theorem Cd.impl_bitOf_nt : Tryz.f96.ntmps = 14 := rfl
theorem Cd.impl_bitOf_ok : CodeIsR Tryz.prog 96 Tryz.f96 Cd.impl_bitOf := ⟨Tryz.func96, by kernel_rfl, by decide +kernel⟩
/-- loop.example/g01012/impl.digitOf -/
def Cd.impl_digitOf : ACode :=
  .seq (.region [⟨some 2, .mv (.const (.int .i64 (0))), none⟩] [0] []) <|
  .seq (.seq (.region [⟨some 4, .mv (.const (.int .i64 (0))), none⟩] [0, 4] []) <|
   .block 0 (
     .loop (
       .seq (.region [⟨some 5, .bin .lss (.tmp 4) (.const (.int .i64 (10))), none⟩] [0, 4, 5] []) <|
       .seq (.cond (.tmp 5)
          (.skip)
          (.exit 0)) <|
       .seq (.block 1 (
          .seq (.region [⟨some 6, .mv (.tmp 4), none⟩,
             ⟨some 3, .mv (.tmp 6), none⟩] [0, 3, 4] []) <|
          .seq (.region [⟨some 7, .mv (.tmp 3), none⟩,
             ⟨some 8, .call (.func F.impl_bitOf) [(.tmp 7)] [], none⟩,
             ⟨some 9, .mv (.tmp 0), none⟩,
             ⟨some 10, .bin .eql (.tmp 8) (.tmp 9), none⟩] [0, 3, 4, 10] []) <|
          .cond (.tmp 10)
            (.seq (.region [⟨some 11, .mv (.tmp 3), none⟩,
               ⟨some 2, .mv (.tmp 11), none⟩] [2] []) <|
            .ret)
            (.skip))) <|
       .region [⟨some 12, .bin .add (.tmp 4) (.const (.int .i64 (1))), none⟩,
         ⟨some 4, .mv (.tmp 12), none⟩] [0, 4] []))) <|
  .seq (.region [⟨some 2, .mv (.const (.int .i64 (-1))), none⟩] [2] []) <|
  .ret
theorem Cd.impl_digitOf_rs : Tryz.f97.results.toList = [.tmp 2] := rfl
theorem Cd.impl_digitOf_nt : Tryz.f97.ntmps = 13 := rfl
theorem Cd.impl_digitOf_ok : CodeIsR Tryz.prog 97 Tryz.f97 Cd.impl_digitOf := ⟨Tryz.func97, by kernel_rfl, by decide +kernel⟩
/-- loop.example/g01012/impl.digitList -/
def Cd.impl_digitList : ACode :=
  .seq (.region [⟨some 2, .mv (.const (.slice none 0 0)), none⟩] [0] []) <|
  .seq (.region [⟨some 3, .mv (.tmp 0), none⟩,
     ⟨some 4, .call (.func F.impl_absOf) [(.tmp 3)] [], none⟩,
     ⟨some 5, .call (.func F.impl_digitsOf) [(.tmp 4)] [], none⟩,
     ⟨some 6, .mv (.tmp 0), none⟩,
     ⟨some 7, .call (.func F.impl_absOf) [(.tmp 6)] [], none⟩,
     ⟨some 8, .call (.func F.impl_wheelsShow) [(.tmp 5), (.tmp 7)] [], none⟩,
     ⟨some 9, .field false 0 1 (.tmp 8), none⟩,
     ⟨some 2, .mv (.tmp 9), none⟩] [2] []) <|
  .ret
theorem Cd.impl_digitList_rs : Tryz.f98.results.toList = [.tmp 2] := rfl
theorem Cd.impl_digitList_nt : Tryz.f98.ntmps = 10 := rfl
theorem Cd.impl_digitList_ok : CodeIsR Tryz.prog 98 Tryz.f98 Cd.impl_digitList := ⟨Tryz.func98, by kernel_rfl, by decide +kernel⟩
/-- loop.example/g01012/spec.l07Keys DRAWS -/
def Cd.spec_l07Keys : ACode :=
  .seq (.region [⟨some 3, .box (.tmp 1), none⟩,
     ⟨some 4, .mv (.const (.slice none 0 0)), none⟩,
     ⟨some 5, .mv (.const (.int .i64 (0))), none⟩] [0, 3] []) <|
  .seq (.seq (.region [⟨some 10, .mv (.tmp 0), none⟩,
      ⟨some 11, .call (.func F.spec_l02Deck) [(.tmp 10)] [], none⟩,
      ⟨some 12, .un .not (.tmp 11), none⟩] [0, 3, 12] []) <|
   .cond (.tmp 12)
     (.seq (.region [⟨some 4, .mv (.const (.slice none 0 0)), none⟩,
        ⟨some 5, .mv (.const (.int .i64 (1))), none⟩] [4, 5] []) <|
     .ret)
     (.skip)) <|
  .seq (.seq (.region [⟨some 13, .load true 2 (.tmp 3), none⟩,
      ⟨some 14, .mv (.tmp 0), none⟩,
      ⟨some 15, .call (.func F.spec_l07Width) [(.tmp 14)] [], none⟩,
      ⟨some 16, .call (.func F.spec_l02Field) [(.tmp 13), (.tmp 15)] [], none⟩,
      ⟨some 17, .un .not (.tmp 16), none⟩] [0, 3, 17] [13, 14, 15, 16, 17]) <|
   .cond (.tmp 17)
     (.seq (.region [⟨some 4, .mv (.const (.slice none 0 0)), none⟩,
        ⟨some 5, .mv (.const (.int .i64 (2))), none⟩] [4, 5] []) <|
     .ret)
     (.skip)) <|
  .seq (.naming 6 (
     .region [⟨some 18, .bslice 1 0 [.v (.string ⟨#[]⟩)] [], none⟩,
       ⟨some 6, .mv (.tmp 18), none⟩] [0, 3, 6] [])) <|
  .seq (.seq (.region [⟨some 7, .mv (.const (.int .i64 (0))), none⟩] [0, 3, 6, 7] []) <|
   .block 0 (
     .loop (
       .seq (.seq (.region [⟨some 19, .mv (.tmp 7), none⟩,
           ⟨some 20, .mv (.tmp 0), none⟩,
           ⟨some 21, .len (.tmp 20), none⟩,
           ⟨some 22, .bin .lss (.tmp 19) (.tmp 21), none⟩] [0, 3, 6, 7, 22] []) <|
        .cond (.tmp 22)
          (.skip)
          (.exit 0)) <|
       .seq (.block 1 (
          .seq (.region [⟨some 26, .mv (.tmp 0), none⟩,
             ⟨some 27, .mv (.tmp 7), none⟩,
             ⟨some 28, .idxSl 1 (.tmp 26) (.tmp 27), none⟩,
             ⟨some 29, .load true 2 (.tmp 3), none⟩,
             ⟨some 30, .call (.func F.spec_l03Key) [(.tmp 28), (.tmp 29)] [], none⟩,
             ⟨some 25, .mv (.tmp 30), none⟩,
             ⟨some 31, .extract (.tmp 25) 0, none⟩,
             ⟨some 32, .extract (.tmp 25) 1, none⟩,
             ⟨some 8, .mv (.tmp 31), none⟩,
             ⟨some 9, .mv (.tmp 32), none⟩] [0, 3, 6, 7, 8, 9] [26, 27, 29, 28, 30, 25, 31, 32, 8]) <|
          .seq (.seq (.region [⟨some 33, .mv (.tmp 9), none⟩,
              ⟨some 34, .un .not (.tmp 33), none⟩] [0, 3, 6, 7, 8, 34] []) <|
           .cond (.tmp 34)
             (.seq (.region [⟨some 4, .mv (.const (.slice none 0 0)), none⟩,
                ⟨some 5, .mv (.const (.int .i64 (8))), none⟩] [4, 5] []) <|
             .ret)
             (.skip)) <|
          .naming 6 (
            .region [⟨some 35, .mv (.tmp 6), none⟩,
              ⟨some 36, .mv (.tmp 8), none⟩,
              ⟨some 37, .bslice 1 1 [.v (.string ⟨#[]⟩)] [(0, (.tmp 36))], none⟩,
              ⟨some 38, .append 1 16 (.tmp 35) (.tmp 37), none⟩,
              ⟨some 6, .mv (.tmp 38), none⟩] [0, 3, 6, 7] []))) <|
       .region [⟨some 23, .mv (.tmp 7), none⟩,
         ⟨some 24, .bin .add (.tmp 23) (.const (.int .i64 (1))), none⟩,
         ⟨some 7, .mv (.tmp 24), none⟩] [0, 3, 6, 7] []))) <|
  .seq (.region [⟨some 39, .mv (.tmp 6), none⟩,
     ⟨some 4, .mv (.tmp 39), none⟩,
     ⟨some 5, .mv (.const (.int .i64 (0))), none⟩] [4, 5] []) <|
  .ret
theorem Cd.spec_l07Keys_rs : Tryz.f100.results.toList = [.tmp 4, .tmp 5] := rfl
theorem Cd.spec_l07Keys_nt : Tryz.f100.ntmps = 40 := rfl
theorem Cd.spec_l07Keys_ok : CodeIsR Tryz.prog 100 Tryz.f100 Cd.spec_l07Keys := ⟨Tryz.func100, by kernel_rfl, by decide +kernel⟩
/-- loop.example/g01012/spec.l03Compare -/
def Cd.spec_l03Compare : ACode :=
  .seq (.region [⟨some 4, .mv (.const (.int .i64 (0))), none⟩] [0, 1] []) <|
  .seq (.seq (.region [⟨some 5, .mv (.const (.int .i64 (0))), none⟩] [0, 1, 5] []) <|
   .block 0 (
     .loop (
       .seq (.seq (.region [⟨some 8, .mv (.tmp 5), none⟩,
           ⟨some 9, .mv (.tmp 0), none⟩,
           ⟨some 10, .lenS (.tmp 9), none⟩,
           ⟨some 11, .bin .lss (.tmp 8) (.tmp 10), none⟩] [0, 1, 5, 11] []) <|
        .cond (.tmp 11)
          (.skip)
          (.exit 0)) <|
       .seq (.block 1 (
          .seq (.region [⟨some 14, .mv (.tmp 0), none⟩,
             ⟨some 15, .mv (.tmp 5), none⟩,
             ⟨some 16, .idxStr (.tmp 14) (.tmp 15), none⟩,
             ⟨some 17, .call (.func F.spec_l03Rank) [(.tmp 16)] [], none⟩,
             ⟨some 6, .mv (.tmp 17), none⟩] [0, 1, 5, 6] []) <|
          .seq (.region [⟨some 18, .mv (.tmp 1), none⟩,
             ⟨some 19, .mv (.tmp 5), none⟩,
             ⟨some 20, .idxStr (.tmp 18) (.tmp 19), none⟩,
             ⟨some 21, .call (.func F.spec_l03Rank) [(.tmp 20)] [], none⟩,
             ⟨some 7, .mv (.tmp 21), none⟩] [0, 1, 5, 6, 7] []) <|
          .block 2 (
            .seq (.region [⟨some 23, .mv (.tmp 6), none⟩,
               ⟨some 24, .mv (.tmp 7), none⟩,
               ⟨some 25, .bin .lss (.tmp 23) (.tmp 24), none⟩,
               ⟨some 22, .mv (.tmp 25), none⟩] [0, 1, 5, 6, 7, 22] []) <|
            .cond (.tmp 22)
              (.seq (.region [⟨some 4, .mv (.const (.int .i64 (-1))), none⟩] [4] []) <|
              .ret)
              (.seq (.region [⟨some 27, .mv (.tmp 6), none⟩,
                 ⟨some 28, .mv (.tmp 7), none⟩,
                 ⟨some 29, .bin .gtr (.tmp 27) (.tmp 28), none⟩,
                 ⟨some 26, .mv (.tmp 29), none⟩] [0, 1, 5, 26] []) <|
              .cond (.tmp 26)
                (.seq (.region [⟨some 4, .mv (.const (.int .i64 (1))), none⟩] [4] []) <|
                .ret)
                (.skip))))) <|
       .region [⟨some 12, .mv (.tmp 5), none⟩,
         ⟨some 13, .bin .add (.tmp 12) (.const (.int .i64 (1))), none⟩,
         ⟨some 5, .mv (.tmp 13), none⟩] [0, 1, 5] []))) <|
  .seq (.region [⟨some 4, .mv (.const (.int .i64 (0))), none⟩] [4] []) <|
  .ret
theorem Cd.spec_l03Compare_rs : Tryz.f101.results.toList = [.tmp 4] := rfl
theorem Cd.spec_l03Compare_nt : Tryz.f101.ntmps = 30 := rfl
theorem Cd.spec_l03Compare_ok : CodeIsR Tryz.prog 101 Tryz.f101 Cd.spec_l03Compare := ⟨Tryz.func101, by kernel_rfl, by decide +kernel⟩
/-- loop.example/g01012/spec.l09Has -/
def Cd.spec_l09Has : ACode :=
  .seq (.region [⟨some 4, .mv (.const (.bool false)), none⟩] [0, 1] []) <|
  .seq (.seq (.region [⟨some 5, .mv (.const (.int .i64 (0))), none⟩] [0, 1, 5] []) <|
   .block 0 (
     .loop (
       .seq (.seq (.region [⟨some 6, .mv (.tmp 5), none⟩,
           ⟨some 7, .mv (.tmp 0), none⟩,
           ⟨some 8, .len (.tmp 7), none⟩,
           ⟨some 9, .bin .lss (.tmp 6) (.tmp 8), none⟩] [0, 1, 5, 9] []) <|
        .cond (.tmp 9)
          (.skip)
          (.exit 0)) <|
       .seq (.block 1 (
          .seq (.region [⟨some 12, .mv (.tmp 0), none⟩,
             ⟨some 13, .mv (.tmp 5), none⟩,
             ⟨some 14, .idxSl 1 (.tmp 12) (.tmp 13), none⟩,
             ⟨some 15, .load false 1 (.tmp 14), none⟩,
             ⟨some 16, .mv (.tmp 1), none⟩,
             ⟨some 17, .binS .eql (.tmp 15) (.tmp 16), none⟩] [0, 1, 5, 17] []) <|
          .cond (.tmp 17)
            (.seq (.region [⟨some 4, .mv (.const (.bool true)), none⟩] [4] []) <|
            .ret)
            (.skip))) <|
       .region [⟨some 10, .mv (.tmp 5), none⟩,
         ⟨some 11, .bin .add (.tmp 10) (.const (.int .i64 (1))), none⟩,
         ⟨some 5, .mv (.tmp 11), none⟩] [0, 1, 5] []))) <|
  .seq (.region [⟨some 4, .mv (.const (.bool false)), none⟩] [4] []) <|
  .ret
theorem Cd.spec_l09Has_rs : Tryz.f102.results.toList = [.tmp 4] := rfl
theorem Cd.spec_l09Has_nt : Tryz.f102.ntmps = 18 := rfl
theorem Cd.spec_l09Has_ok : CodeIsR Tryz.prog 102 Tryz.f102 Cd.spec_l09Has := ⟨Tryz.func102, by kernel_rfl, by decide +kernel⟩
/-- loop.example/g01012/spec.l02Own -/
def Cd.spec_l02Own : ACode :=
  .seq (.region [⟨some 2, .alloc [.v (.slice none 0 0)], none⟩] [0, 2] []) <|
  .seq (.region [⟨some 3, .mv (.tmp 0), none⟩,
     ⟨some 4, .nilc (.tmp 3), none⟩,
     ⟨some 5, .fieldAddr 0 (.tmp 4), none⟩,
     ⟨some 6, .load false 1 (.tmp 5), none⟩,
     ⟨some 7, .call (.func F.spec_l00Own) [(.tmp 6)] [], none⟩,
     ⟨some 8, .build [.v (.slice none 0 0)] [(0, 1, (.tmp 7))], none⟩,
     ⟨none, .store 1 (.tmp 2) (.tmp 8), none⟩] [2] []) <|
  .ret
theorem Cd.spec_l02Own_rs : Tryz.f103.results.toList = [.cell 2 85] := rfl
theorem Cd.spec_l02Own_nt : Tryz.f103.ntmps = 9 := rfl
theorem Cd.spec_l02Own_ok : CodeIsR Tryz.prog 103 Tryz.f103 Cd.spec_l02Own := ⟨Tryz.func103, by kernel_rfl, by decide +kernel⟩
/-- loop.example/g01012/impl.ValidCard$1 -/
def Cd.impl_ValidCard_1 : ACode :=
  .seq (.region [⟨some 2, .mv (.const (.bool false)), none⟩] [0] []) <|
  .seq (.region [⟨some 3, .mv (.tmp 0), none⟩,
     ⟨some 4, .call (.func F.impl_inside) [(.tmp 3), (.const (.int .i64 (0))), (.const (.int .i64 (4095)))] [], none⟩,
     ⟨some 5, .un .not (.tmp 4), none⟩,
     ⟨some 2, .mv (.tmp 5), none⟩] [2] []) <|
  .ret
theorem Cd.impl_ValidCard_1_rs : Tryz.f104.results.toList = [.tmp 2] := rfl
theorem Cd.impl_ValidCard_1_nt : Tryz.f104.ntmps = 6 := rfl
theorem Cd.impl_ValidCard_1_ok : CodeIsR Tryz.prog 104 Tryz.f104 Cd.impl_ValidCard_1 := ⟨Tryz.func104, by kernel_rfl, by decide +kernel⟩
/-- loop.example/g01012/impl.haveField -/
def Cd.impl_haveField : ACode :=
  .seq (.region [⟨some 3, .box (.tmp 1), none⟩,
     ⟨some 4, .mv (.const (.bool false)), none⟩] [0, 3] []) <|
  .seq (.region [⟨some 5, .mv (.tmp 0), none⟩,
     ⟨some 6, .mkfn F.impl_haveField_1 [(.tmp 3)], none⟩,
     ⟨some 7, .call (.func F.slices_ContainsFunc___impl_Card_impl_Card_) [(.tmp 5), (.tmp 6)] [], none⟩,
     ⟨some 8, .un .not (.tmp 7), none⟩,
     ⟨some 4, .mv (.tmp 8), none⟩] [4] []) <|
  .ret
theorem Cd.impl_haveField_rs : Tryz.f105.results.toList = [.tmp 4] := rfl
theorem Cd.impl_haveField_nt : Tryz.f105.ntmps = 9 := rfl
theorem Cd.impl_haveField_ok : CodeIsR Tryz.prog 105 Tryz.f105 Cd.impl_haveField := ⟨Tryz.func105, by kernel_rfl, by decide +kernel⟩
/-- loop.example/g01012/impl.steps DRAWS -/
def Cd.impl_steps : ACode :=
  .seq (.region [⟨some 3, .box (.tmp 1), none⟩,
     ⟨some 4, .mv (.const (.slice none 0 0)), none⟩] [0, 3] []) <|
  .seq (.naming 5 (
     .region [⟨some 7, .bslice 1 0 [.v (.int .i64 (0))] [], none⟩,
       ⟨some 5, .mv (.tmp 7), none⟩] [0, 3, 5] [])) <|
  .seq (.seq (.region [⟨some 6, .mv (.const (.int .i64 (1))), none⟩] [0, 3, 5, 6] []) <|
   .block 0 (
     .loop (
       .seq (.seq (.region [⟨some 8, .mv (.tmp 6), none⟩,
           ⟨some 9, .mv (.tmp 0), none⟩,
           ⟨some 10, .len (.tmp 9), none⟩,
           ⟨some 11, .bin .lss (.tmp 8) (.tmp 10), none⟩] [0, 3, 5, 6, 11] []) <|
        .cond (.tmp 11)
          (.skip)
          (.exit 0)) <|
       .seq (.block 1 (
          .seq (.region [⟨some 14, .mv (.tmp 0), none⟩,
             ⟨some 15, .mv (.tmp 6), none⟩,
             ⟨some 16, .idxSl 1 (.tmp 14) (.tmp 15), none⟩,
             ⟨some 17, .load true 1 (.tmp 16), none⟩,
             ⟨some 18, .mv (.tmp 0), none⟩,
             ⟨some 19, .mv (.tmp 6), none⟩,
             ⟨some 20, .bin .sub (.tmp 19) (.const (.int .i64 (1))), none⟩,
             ⟨some 21, .idxSl 1 (.tmp 18) (.tmp 20), none⟩,
             ⟨some 22, .load true 1 (.tmp 21), none⟩,
             ⟨some 23, .load true 2 (.tmp 3), none⟩,
             ⟨some 24, .call (.func F.impl_compareFields) [(.tmp 17), (.tmp 22), (.tmp 23)] [], none⟩,
             ⟨some 25, .bin .lss (.tmp 24) (.const (.int .i64 (0))), none⟩] [0, 3, 5, 6, 25] [14, 15, 17, 18, 16, 19, 20, 21, 22, 23, 24, 25]) <|
          .cond (.tmp 25)
            (.naming 5 (
              .region [⟨some 26, .mv (.tmp 5), none⟩,
                ⟨some 27, .mv (.tmp 6), none⟩,
                ⟨some 28, .bslice 1 1 [.v (.int .i64 (0))] [(0, (.tmp 27))], none⟩,
                ⟨some 29, .append 1 8 (.tmp 26) (.tmp 28), none⟩,
                ⟨some 5, .mv (.tmp 29), none⟩] [0, 3, 5, 6] []))
            (.skip))) <|
       .region [⟨some 12, .mv (.tmp 6), none⟩,
         ⟨some 13, .bin .add (.tmp 12) (.const (.int .i64 (1))), none⟩,
         ⟨some 6, .mv (.tmp 13), none⟩] [0, 3, 5, 6] []))) <|
  .seq (.region [⟨some 30, .mv (.tmp 5), none⟩,
     ⟨some 4, .mv (.tmp 30), none⟩] [4] []) <|
  .ret
theorem Cd.impl_steps_rs : Tryz.f106.results.toList = [.tmp 4] := rfl
theorem Cd.impl_steps_nt : Tryz.f106.ntmps = 31 := rfl
theorem Cd.impl_steps_ok : CodeIsR Tryz.prog 106 Tryz.f106 Cd.impl_steps := ⟨Tryz.func106, by kernel_rfl, by decide +kernel⟩
/-- slices.IndexFunc[[]loop.example/g01012/impl.Card,loop.example/g01012/impl.Card] -/
def Cd.slices_IndexFunc___impl_Card_impl_Card_ : ACode :=
  .seq (.region [⟨some 4, .mv (.const (.int .i64 (0))), none⟩] [0, 1] []) <|
  .seq (.seq (.region [⟨some 6, .mv (.tmp 0), none⟩,
      ⟨some 7, .len (.tmp 6), none⟩,
      ⟨some 8, .mv (.const (.int .i64 (0))), none⟩] [0, 1, 7, 8] []) <|
   .block 0 (
     .loop (
       .seq (.region [⟨some 9, .bin .lss (.tmp 8) (.tmp 7), none⟩] [0, 1, 7, 8, 9] []) <|
       .seq (.cond (.tmp 9)
          (.skip)
          (.exit 0)) <|
       .seq (.block 1 (
          .seq (.region [⟨some 10, .mv (.tmp 8), none⟩,
             ⟨some 5, .mv (.tmp 10), none⟩] [0, 1, 5, 7, 8] []) <|
          .seq (.region [⟨some 11, .mv (.tmp 1), none⟩,
             ⟨some 12, .mv (.tmp 0), none⟩,
             ⟨some 13, .mv (.tmp 5), none⟩,
             ⟨some 14, .idxSl 1 (.tmp 12) (.tmp 13), none⟩,
             ⟨some 15, .load true 1 (.tmp 14), none⟩,
             ⟨some 16, .call (.tmp 11) [(.tmp 15)] [], none⟩] [0, 1, 5, 7, 8, 16] []) <|
          .cond (.tmp 16)
            (.seq (.region [⟨some 17, .mv (.tmp 5), none⟩,
               ⟨some 4, .mv (.tmp 17), none⟩] [4] []) <|
            .ret)
            (.skip))) <|
       .region [⟨some 18, .bin .add (.tmp 8) (.const (.int .i64 (1))), none⟩,
         ⟨some 8, .mv (.tmp 18), none⟩] [0, 1, 7, 8] []))) <|
  .seq (.region [⟨some 4, .mv (.const (.int .i64 (-1))), none⟩] [4] []) <|
  .ret
theorem Cd.slices_IndexFunc___impl_Card_impl_Card__rs : Tryz.f107.results.toList = [.tmp 4] := rfl
theorem Cd.slices_IndexFunc___impl_Card_impl_Card__nt : Tryz.f107.ntmps = 19 := rfl
theorem Cd.slices_IndexFunc___impl_Card_impl_Card__ok : CodeIsR Tryz.prog 107 Tryz.f107 Cd.slices_IndexFunc___impl_Card_impl_Card_ := ⟨Tryz.func107, by kernel_rfl, by decide +kernel⟩
/-- loop.example/g01012/impl.newCard -/
def Cd.impl_newCard : ACode :=
  .seq (.region [⟨some 1, .box (.tmp 0), none⟩,
     ⟨some 2, .alloc [.v (.slice none 0 0)], none⟩] [1, 2] []) <|
  .seq (.region [⟨some 3, .fieldAddr 0 (.tmp 1), none⟩,
     ⟨some 4, .load false 1 (.tmp 3), none⟩,
     ⟨some 5, .call (.func F.impl_copyInts) [(.tmp 4)] [], none⟩,
     ⟨some 6, .build [.v (.slice none 0 0)] [(0, 1, (.tmp 5))], none⟩,
     ⟨none, .store 1 (.tmp 2) (.tmp 6), none⟩] [2] []) <|
  .ret
theorem Cd.impl_newCard_rs : Tryz.f108.results.toList = [.cell 2 85] := rfl
theorem Cd.impl_newCard_nt : Tryz.f108.ntmps = 7 := rfl
theorem Cd.impl_newCard_ok : CodeIsR Tryz.prog 108 Tryz.f108 Cd.impl_newCard := ⟨Tryz.func108, by kernel_rfl, by decide +kernel⟩
/-- slices.ContainsFunc[[]loop.example/g01012/impl.Card,loop.example/g01012/impl.Card] -/
def Cd.slices_ContainsFunc___impl_Card_impl_Card_ : ACode :=
  .seq (.region [⟨some 4, .mv (.const (.bool false)), none⟩] [0, 1] []) <|
  .seq (.region [⟨some 5, .mv (.tmp 0), none⟩,
     ⟨some 6, .mv (.tmp 1), none⟩,
     ⟨some 7, .call (.func F.slices_IndexFunc___impl_Card_impl_Card_) [(.tmp 5), (.tmp 6)] [], none⟩,
     ⟨some 8, .bin .geq (.tmp 7) (.const (.int .i64 (0))), none⟩,
     ⟨some 4, .mv (.tmp 8), none⟩] [4] []) <|
  .ret
theorem Cd.slices_ContainsFunc___impl_Card_impl_Card__rs : Tryz.f109.results.toList = [.tmp 4] := rfl
theorem Cd.slices_ContainsFunc___impl_Card_impl_Card__nt : Tryz.f109.ntmps = 9 := rfl
theorem Cd.slices_ContainsFunc___impl_Card_impl_Card__ok : CodeIsR Tryz.prog 109 Tryz.f109 Cd.slices_ContainsFunc___impl_Card_impl_Card_ := ⟨Tryz.func109, by kernel_rfl, by decide +kernel⟩
/-- loop.example/g01012/impl.hasEqual$1 -/
def Cd.impl_hasEqual_1 : ACode :=
  .seq (.region [⟨some 3, .box (.tmp 0), none⟩,
     ⟨some 4, .mv (.const (.bool false)), none⟩] [1, 2, 3] []) <|
  .seq (.region [⟨some 5, .load true 1 (.tmp 3), none⟩,
     ⟨some 6, .load true 1 (.tmp 1), none⟩,
     ⟨some 7, .load true 2 (.tmp 2), none⟩,
     ⟨some 8, .call (.func F.impl_compareFields) [(.tmp 5), (.tmp 6), (.tmp 7)] [], none⟩,
     ⟨some 9, .bin .eql (.tmp 8) (.const (.int .i64 (0))), none⟩,
     ⟨some 4, .mv (.tmp 9), none⟩] [4] []) <|
  .ret
theorem Cd.impl_hasEqual_1_rs : Tryz.f110.results.toList = [.tmp 4] := rfl
theorem Cd.impl_hasEqual_1_nt : Tryz.f110.ntmps = 10 := rfl
theorem Cd.impl_hasEqual_1_ok : CodeIsR Tryz.prog 110 Tryz.f110 Cd.impl_hasEqual_1 := ⟨Tryz.func110, by kernel_rfl, by decide +kernel⟩
/-- loop.example/g01012/impl.compareFields DRAWS -/
def Cd.impl_compareFields : ACode :=
  .seq (.region [⟨some 3, .box (.tmp 0), none⟩,
     ⟨some 4, .box (.tmp 1), none⟩,
     ⟨some 5, .box (.tmp 2), none⟩,
     ⟨some 6, .mv (.const (.int .i64 (0))), none⟩] [3, 4, 5] []) <|
  .seq (.region [⟨some 7, .fieldAddr 0 (.tmp 3), none⟩,
     ⟨some 8, .load false 1 (.tmp 7), none⟩,
     ⟨some 9, .fieldAddr 0 (.tmp 5), none⟩,
     ⟨some 10, .load false 1 (.tmp 9), none⟩,
     ⟨some 11, .fieldAddr 1 (.tmp 5), none⟩,
     ⟨some 12, .load false 1 (.tmp 11), none⟩,
     ⟨some 13, .slc 1 (.tmp 8) (some (.tmp 10)) (some (.tmp 12)), none⟩,
     ⟨some 14, .fieldAddr 0 (.tmp 4), none⟩,
     ⟨some 15, .load false 1 (.tmp 14), none⟩,
     ⟨some 16, .fieldAddr 0 (.tmp 5), none⟩,
     ⟨some 17, .load false 1 (.tmp 16), none⟩,
     ⟨some 18, .fieldAddr 1 (.tmp 5), none⟩,
     ⟨some 19, .load false 1 (.tmp 18), none⟩,
     ⟨some 20, .slc 1 (.tmp 15) (some (.tmp 17)) (some (.tmp 19)), none⟩,
     ⟨some 21, .call (.func F.impl_compareHoles) [(.tmp 13), (.tmp 20)] [], none⟩,
     ⟨some 6, .mv (.tmp 21), none⟩] [6] [7, 9, 8, 10, 11, 12, 13, 14, 15, 16, 17, 18, 19, 20, 21]) <|
  .ret
theorem Cd.impl_compareFields_rs : Tryz.f111.results.toList = [.tmp 6] := rfl
theorem Cd.impl_compareFields_nt : Tryz.f111.ntmps = 22 := rfl
theorem Cd.impl_compareFields_ok : CodeIsR Tryz.prog 111 Tryz.f111 Cd.impl_compareFields := ⟨Tryz.func111, by kernel_rfl, by decide +kernel⟩
/-- loop.example/g01012/spec.l02Bit -/
def Cd.spec_l02Bit : ACode :=
  .seq (.region [⟨some 2, .mv (.const (.int .i64 (0))), none⟩] [0] []) <|
  .seq (.block 0 (
     .seq (.region [⟨some 4, .mv (.tmp 0), none⟩,
        ⟨some 5, .bin .eql (.tmp 4) (.const (.int .i64 (12))), none⟩,
        ⟨some 3, .mv (.tmp 5), none⟩] [0, 3] []) <|
     .cond (.tmp 3)
       (.seq (.region [⟨some 2, .mv (.const (.int .i64 (1))), none⟩] [2] []) <|
       .ret)
       (.seq (.region [⟨some 7, .mv (.tmp 0), none⟩,
          ⟨some 8, .bin .eql (.tmp 7) (.const (.int .i64 (11))), none⟩,
          ⟨some 6, .mv (.tmp 8), none⟩] [0, 6] []) <|
       .cond (.tmp 6)
         (.seq (.region [⟨some 2, .mv (.const (.int .i64 (2))), none⟩] [2] []) <|
         .ret)
         (.seq (.region [⟨some 10, .mv (.tmp 0), none⟩,
            ⟨some 11, .call (.func F.spec_l00In) [(.tmp 10), (.const (.int .i64 (0))), (.const (.int .i64 (9)))] [], none⟩,
            ⟨some 9, .mv (.tmp 11), none⟩] [0, 9] []) <|
         .cond (.tmp 9)
           (.seq (.region [⟨some 12, .mv (.tmp 0), none⟩,
              ⟨some 13, .conv .u64 (.tmp 12), none⟩,
              ⟨some 14, .bin .shl (.const (.int .i64 (4))) (.tmp 13), none⟩,
              ⟨some 2, .mv (.tmp 14), none⟩] [2] []) <|
           .ret)
           (.skip))))) <|
  .seq (.region [⟨some 2, .mv (.const (.int .i64 (0))), none⟩] [2] []) <|
  .ret
theorem Cd.spec_l02Bit_rs : Tryz.f112.results.toList = [.tmp 2] := rfl
theorem Cd.spec_l02Bit_nt : Tryz.f112.ntmps = 15 := rfl
theorem Cd.spec_l02Bit_ok : CodeIsR Tryz.prog 112 Tryz.f112 Cd.spec_l02Bit := ⟨Tryz.func112, by kernel_rfl, by decide +kernel⟩
/-- loop.example/g01012/spec.l01Digit -/
def Cd.spec_l01Digit : ACode :=
  .seq (.region [⟨some 2, .mv (.const (.bool false)), none⟩] [0] []) <|
  .seq (.region [⟨some 3, .mv (.tmp 0), none⟩,
     ⟨some 4, .bin .geq (.tmp 3) (.const (.int .u8 (48))), none⟩,
     ⟨some 5, .mv (.tmp 4), none⟩,
     ⟨some 6, .mv (.tmp 0), some (5, true)⟩,
     ⟨some 7, .bin .leq (.tmp 6) (.const (.int .u8 (57))), some (5, true)⟩,
     ⟨some 8, .pick (.tmp 5) (.tmp 7) (.const (.bool false)), none⟩,
     ⟨some 2, .mv (.tmp 8), none⟩] [2] []) <|
  .ret
theorem Cd.spec_l01Digit_rs : Tryz.f113.results.toList = [.tmp 2] := rfl
theorem Cd.spec_l01Digit_nt : Tryz.f113.ntmps = 9 := rfl
theorem Cd.spec_l01Digit_ok : CodeIsR Tryz.prog 113 Tryz.f113 Cd.spec_l01Digit := ⟨Tryz.func113, by kernel_rfl, by decide +kernel⟩
/-- strings.IndexByte -/
def Cd.strings_IndexByte : ACode :=
  .seq (.region [⟨some 4, .mv (.const (.int .i64 (0))), none⟩] [0, 1] []) <|
  .seq (.region [⟨some 5, .mv (.tmp 0), none⟩,
     ⟨some 6, .mv (.tmp 1), none⟩,
     ⟨some 7, .call (.func F.internal_stringslite_IndexByte) [(.tmp 5), (.tmp 6)] [], none⟩,
     ⟨some 4, .mv (.tmp 7), none⟩] [4] []) <|
  .ret
theorem Cd.strings_IndexByte_rs : Tryz.f114.results.toList = [.tmp 4] := rfl
theorem Cd.strings_IndexByte_nt : Tryz.f114.ntmps = 8 := rfl
theorem Cd.strings_IndexByte_ok : CodeIsR Tryz.prog 114 Tryz.f114 Cd.strings_IndexByte := ⟨Tryz.func114, by kernel_rfl, by decide +kernel⟩
/-- slices.IndexFunc[[]int64,int64] -/
def Cd.slices_IndexFunc___int64_int64_ : ACode :=
  .seq (.region [⟨some 4, .mv (.const (.int .i64 (0))), none⟩] [0, 1] []) <|
  .seq (.seq (.region [⟨some 6, .mv (.tmp 0), none⟩,
      ⟨some 7, .len (.tmp 6), none⟩,
      ⟨some 8, .mv (.const (.int .i64 (0))), none⟩] [0, 1, 7, 8] []) <|
   .block 0 (
     .loop (
       .seq (.region [⟨some 9, .bin .lss (.tmp 8) (.tmp 7), none⟩] [0, 1, 7, 8, 9] []) <|
       .seq (.cond (.tmp 9)
          (.skip)
          (.exit 0)) <|
       .seq (.block 1 (
          .seq (.region [⟨some 10, .mv (.tmp 8), none⟩,
             ⟨some 5, .mv (.tmp 10), none⟩] [0, 1, 5, 7, 8] []) <|
          .seq (.region [⟨some 11, .mv (.tmp 1), none⟩,
             ⟨some 12, .mv (.tmp 0), none⟩,
             ⟨some 13, .mv (.tmp 5), none⟩,
             ⟨some 14, .idxSl 1 (.tmp 12) (.tmp 13), none⟩,
             ⟨some 15, .load false 1 (.tmp 14), none⟩,
             ⟨some 16, .call (.tmp 11) [(.tmp 15)] [], none⟩] [0, 1, 5, 7, 8, 16] []) <|
          .cond (.tmp 16)
            (.seq (.region [⟨some 17, .mv (.tmp 5), none⟩,
               ⟨some 4, .mv (.tmp 17), none⟩] [4] []) <|
            .ret)
            (.skip))) <|
       .region [⟨some 18, .bin .add (.tmp 8) (.const (.int .i64 (1))), none⟩,
         ⟨some 8, .mv (.tmp 18), none⟩] [0, 1, 7, 8] []))) <|
  .seq (.region [⟨some 4, .mv (.const (.int .i64 (-1))), none⟩] [4] []) <|
  .ret
theorem Cd.slices_IndexFunc___int64_int64__rs : Tryz.f115.results.toList = [.tmp 4] := rfl
theorem Cd.slices_IndexFunc___int64_int64__nt : Tryz.f115.ntmps = 19 := rfl
theorem Cd.slices_IndexFunc___int64_int64__ok : CodeIsR Tryz.prog 115 Tryz.f115 Cd.slices_IndexFunc___int64_int64_ := ⟨Tryz.func115, by kernel_rfl, by decide +kernel⟩
/-- loop.example/g01012/impl.wheelsShow -/
def Cd.impl_wheelsShow : ACode :=
  .seq (.region [⟨some 4, .alloc [.v (.slice none 0 0)], none⟩] [0, 1, 4] []) <|
  .seq (.region [⟨some 6, .bslice 1 0 [.v (.int .i64 (0))] [], none⟩,
     ⟨some 7, .build [.v (.slice none 0 0)] [(0, 1, (.tmp 6))], none⟩,
     ⟨some 5, .alloc [.v (.slice none 0 0)], none⟩,
     ⟨none, .store 1 (.tmp 5) (.tmp 7), none⟩] [0, 1, 4, 5] []) <|
  .seq (.seq (.region [⟨some 8, .mv (.tmp 0), none⟩,
      ⟨some 9, .mv (.const (.int .i64 (0))), none⟩] [1, 4, 5, 8, 9] []) <|
   .block 0 (
     .loop (
       .seq (.region [⟨some 10, .bin .lss (.tmp 9) (.tmp 8), none⟩] [1, 4, 5, 8, 9, 10] []) <|
       .seq (.cond (.tmp 10)
          (.skip)
          (.exit 0)) <|
       .seq (.block 1 (
          .seq (.region [⟨some 11, .fieldAddr 0 (.tmp 5), none⟩,
             ⟨some 12, .load false 1 (.tmp 11), none⟩,
             ⟨some 13, .mv (.tmp 1), none⟩,
             ⟨some 14, .bin .rem (.tmp 13) (.const (.int .i64 (10))), none⟩,
             ⟨some 15, .bslice 1 1 [.v (.int .i64 (0))] [(0, (.tmp 14))], none⟩,
             ⟨some 16, .append 1 8 (.tmp 12) (.tmp 15), none⟩,
             ⟨some 17, .fieldAddr 0 (.tmp 5), none⟩,
             ⟨none, .store 1 (.tmp 17) (.tmp 16), none⟩] [1, 4, 5, 8, 9] []) <|
          .region [⟨some 18, .mv (.tmp 1), none⟩,
            ⟨some 19, .bin .quo (.tmp 18) (.const (.int .i64 (10))), none⟩,
            ⟨some 1, .mv (.tmp 19), none⟩] [1, 4, 5, 8, 9] [])) <|
       .region [⟨some 20, .bin .add (.tmp 9) (.const (.int .i64 (1))), none⟩,
         ⟨some 9, .mv (.tmp 20), none⟩] [1, 4, 5, 8, 9] []))) <|
  .seq (.region [⟨some 21, .load true 1 (.tmp 5), none⟩,
     ⟨none, .store 1 (.tmp 4) (.tmp 21), none⟩] [4] []) <|
  .ret
theorem Cd.impl_wheelsShow_rs : Tryz.f116.results.toList = [.cell 4 151] := rfl
theorem Cd.impl_wheelsShow_nt : Tryz.f116.ntmps = 22 := rfl
theorem Cd.impl_wheelsShow_ok : CodeIsR Tryz.prog 116 Tryz.f116 Cd.impl_wheelsShow := ⟨Tryz.func116, by kernel_rfl, by decide +kernel⟩
/-- loop.example/g01012/impl.digitsOf -/
def Cd.impl_digitsOf : ACode :=
  .seq (.region [⟨some 2, .mv (.const (.int .i64 (0))), none⟩] [0] []) <|
  .seq (.region [⟨some 3, .mv (.tmp 0), none⟩,
     ⟨some 4, .call (.func F.impl_Decimal) [(.tmp 3)] [], none⟩,
     ⟨some 5, .lenS (.tmp 4), none⟩,
     ⟨some 2, .mv (.tmp 5), none⟩] [2] []) <|
  .ret
theorem Cd.impl_digitsOf_rs : Tryz.f117.results.toList = [.tmp 2] := rfl
theorem Cd.impl_digitsOf_nt : Tryz.f117.ntmps = 6 := rfl
theorem Cd.impl_digitsOf_ok : CodeIsR Tryz.prog 117 Tryz.f117 Cd.impl_digitsOf := ⟨Tryz.func117, by kernel_rfl, by decide +kernel⟩
/-- loop.example/g01012/impl.absOf -/
def Cd.impl_absOf : ACode :=
  .seq (.region [⟨some 2, .mv (.const (.int .i64 (0))), none⟩] [0] []) <|
  .seq (.region [⟨some 3, .mv (.tmp 0), none⟩,
     ⟨some 4, .mv (.tmp 0), none⟩,
     ⟨some 5, .un .neg (.tmp 4), none⟩,
     ⟨some 6, .mm true (.tmp 3) (.tmp 5), none⟩,
     ⟨some 2, .mv (.tmp 6), none⟩] [2] []) <|
  .ret
theorem Cd.impl_absOf_rs : Tryz.f118.results.toList = [.tmp 2] := rfl
theorem Cd.impl_absOf_nt : Tryz.f118.ntmps = 7 := rfl
theorem Cd.impl_absOf_ok : CodeIsR Tryz.prog 118 Tryz.f118 Cd.impl_absOf := ⟨Tryz.func118, by kernel_rfl, by decide +kernel⟩
/-- loop.example/g01012/spec.l03Key -/
def Cd.spec_l03Key : ACode :=
  .seq (.region [⟨some 3, .box (.tmp 1), none⟩,
     ⟨some 4, .mv (.const (.string ⟨#[]⟩)), none⟩,
     ⟨some 5, .mv (.const (.bool false)), none⟩] [0, 3] []) <|
  .seq (.region [⟨some 6, .mv (.tmp 0), none⟩,
     ⟨some 7, .load true 2 (.tmp 3), none⟩,
     ⟨some 8, .call (.func F.spec_l02Part) [(.tmp 6), (.tmp 7)] [], none⟩,
     ⟨some 9, .call (.func F.spec_l03Text) [(.tmp 8)] [], none⟩,
     ⟨some 10, .extract (.tmp 9) 0, none⟩,
     ⟨some 11, .extract (.tmp 9) 1, none⟩,
     ⟨some 4, .mv (.tmp 10), none⟩,
     ⟨some 5, .mv (.tmp 11), none⟩] [4, 5] []) <|
  .ret
theorem Cd.spec_l03Key_rs : Tryz.f119.results.toList = [.tmp 4, .tmp 5] := rfl
theorem Cd.spec_l03Key_nt : Tryz.f119.ntmps = 12 := rfl
theorem Cd.spec_l03Key_ok : CodeIsR Tryz.prog 119 Tryz.f119 Cd.spec_l03Key := ⟨Tryz.func119, by kernel_rfl, by decide +kernel⟩
/-- loop.example/g01012/spec.l03Rank -/
def Cd.spec_l03Rank : ACode :=
  .seq (.region [⟨some 2, .mv (.const (.int .i64 (0))), none⟩] [0] []) <|
  .seq (.region [⟨some 5, .call (.func F.spec_l03Order) [] [], none⟩,
     ⟨some 3, .mv (.tmp 5), none⟩] [0, 3] []) <|
  .seq (.seq (.region [⟨some 4, .mv (.const (.int .i64 (0))), none⟩] [0, 3, 4] []) <|
   .block 0 (
     .loop (
       .seq (.seq (.region [⟨some 6, .mv (.tmp 4), none⟩,
           ⟨some 7, .mv (.tmp 3), none⟩,
           ⟨some 8, .lenS (.tmp 7), none⟩,
           ⟨some 9, .bin .lss (.tmp 6) (.tmp 8), none⟩] [0, 3, 4, 9] []) <|
        .cond (.tmp 9)
          (.skip)
          (.exit 0)) <|
       .seq (.block 1 (
          .seq (.region [⟨some 12, .mv (.tmp 3), none⟩,
             ⟨some 13, .mv (.tmp 4), none⟩,
             ⟨some 14, .idxStr (.tmp 12) (.tmp 13), none⟩,
             ⟨some 15, .mv (.tmp 0), none⟩,
             ⟨some 16, .bin .eql (.tmp 14) (.tmp 15), none⟩] [0, 3, 4, 16] []) <|
          .cond (.tmp 16)
            (.seq (.region [⟨some 17, .mv (.tmp 4), none⟩,
               ⟨some 2, .mv (.tmp 17), none⟩] [2] []) <|
            .ret)
            (.skip))) <|
       .region [⟨some 10, .mv (.tmp 4), none⟩,
         ⟨some 11, .bin .add (.tmp 10) (.const (.int .i64 (1))), none⟩,
         ⟨some 4, .mv (.tmp 11), none⟩] [0, 3, 4] []))) <|
  .seq (.region [⟨some 2, .mv (.const (.int .i64 (-1))), none⟩] [2] []) <|
  .ret
theorem Cd.spec_l03Rank_rs : Tryz.f120.results.toList = [.tmp 2] := rfl
theorem Cd.spec_l03Rank_nt : Tryz.f120.ntmps = 18 := rfl
theorem Cd.spec_l03Rank_ok : CodeIsR Tryz.prog 120 Tryz.f120 Cd.spec_l03Rank := ⟨Tryz.func120, by kernel_rfl, by decide +kernel⟩
/-- loop.example/g01012/spec.l00Own -/
def Cd.spec_l00Own : ACode :=
  .seq (.region [⟨some 2, .mv (.const (.slice none 0 0)), none⟩] [0] []) <|
  .seq (.region [⟨some 3, .bslice 1 0 [.v (.int .i64 (0))] [], none⟩,
     ⟨some 4, .mv (.tmp 0), none⟩,
     ⟨some 5, .append 1 8 (.tmp 3) (.tmp 4), none⟩,
     ⟨some 2, .mv (.tmp 5), none⟩] [2] []) <|
  .ret
theorem Cd.spec_l00Own_rs : Tryz.f121.results.toList = [.tmp 2] := rfl
theorem Cd.spec_l00Own_nt : Tryz.f121.ntmps = 6 := rfl
theorem Cd.spec_l00Own_ok : CodeIsR Tryz.prog 121 Tryz.f121 Cd.spec_l00Own := ⟨Tryz.func121, by kernel_rfl, by decide +kernel⟩
/-- loop.example/g01012/impl.haveField$1 -/
def Cd.impl_haveField_1 : ACode :=
  .seq (.region [⟨some 2, .box (.tmp 0), none⟩,
     ⟨some 3, .mv (.const (.bool false)), none⟩] [1, 2] []) <|
  .seq (.region [⟨some 4, .load true 1 (.tmp 2), none⟩,
     ⟨some 5, .load true 2 (.tmp 1), none⟩,
     ⟨some 6, .call (.func F.impl_hasField) [(.tmp 4), (.tmp 5)] [], none⟩,
     ⟨some 7, .un .not (.tmp 6), none⟩,
     ⟨some 3, .mv (.tmp 7), none⟩] [3] []) <|
  .ret
theorem Cd.impl_haveField_1_rs : Tryz.f122.results.toList = [.tmp 3] := rfl
theorem Cd.impl_haveField_1_nt : Tryz.f122.ntmps = 8 := rfl
theorem Cd.impl_haveField_1_ok : CodeIsR Tryz.prog 122 Tryz.f122 Cd.impl_haveField_1 := ⟨Tryz.func122, by kernel_rfl, by decide +kernel⟩
/-- loop.example/g01012/impl.hasField -/
def Cd.impl_hasField : ACode :=
  .seq (.region [⟨some 2, .box (.tmp 0), none⟩,
     ⟨some 3, .box (.tmp 1), none⟩,
     ⟨some 4, .mv (.const (.bool false)), none⟩] [2, 3] []) <|
  .seq (.region [⟨some 5, .fieldAddr 0 (.tmp 2), none⟩,
     ⟨some 6, .load false 1 (.tmp 5), none⟩,
     ⟨some 7, .fieldAddr 0 (.tmp 3), none⟩,
     ⟨some 8, .load false 1 (.tmp 7), none⟩,
     ⟨some 9, .fieldAddr 1 (.tmp 3), none⟩,
     ⟨some 10, .load false 1 (.tmp 9), none⟩,
     ⟨some 11, .slc 1 (.tmp 6) (some (.tmp 8)) (some (.tmp 10)), none⟩,
     ⟨some 12, .call (.func F.impl_hasCharacters) [(.tmp 11)] [], none⟩,
     ⟨some 4, .mv (.tmp 12), none⟩] [4] []) <|
  .ret
theorem Cd.impl_hasField_rs : Tryz.f123.results.toList = [.tmp 4] := rfl
theorem Cd.impl_hasField_nt : Tryz.f123.ntmps = 13 := rfl
theorem Cd.impl_hasField_ok : CodeIsR Tryz.prog 123 Tryz.f123 Cd.impl_hasField := ⟨Tryz.func123, by kernel_rfl, by decide +kernel⟩
/-- loop.example/g01012/impl.compareHoles DRAWS -/
def Cd.impl_compareHoles : ACode :=
  .seq (.region [⟨some 4, .mv (.const (.int .i64 (0))), none⟩] [0, 1] []) <|
  .seq (.seq (.region [⟨some 8, .mv (.tmp 0), none⟩,
      ⟨some 9, .len (.tmp 8), none⟩,
      ⟨some 10, .mv (.const (.int .i64 (0))), none⟩] [0, 1, 9, 10] []) <|
   .block 0 (
     .loop (
       .seq (.region [⟨some 11, .bin .lss (.tmp 10) (.tmp 9), none⟩] [0, 1, 9, 10, 11] []) <|
       .seq (.cond (.tmp 11)
          (.skip)
          (.exit 0)) <|
       .seq (.block 1 (
          .seq (.region [⟨some 12, .mv (.tmp 10), none⟩,
             ⟨some 5, .mv (.tmp 12), none⟩] [0, 1, 5, 9, 10] []) <|
          .seq (.region [⟨some 13, .mv (.tmp 0), none⟩,
             ⟨some 14, .mv (.tmp 5), none⟩,
             ⟨some 15, .idxSl 1 (.tmp 13) (.tmp 14), none⟩,
             ⟨some 16, .load false 1 (.tmp 15), none⟩,
             ⟨some 17, .call (.func F.impl_rankOf) [(.tmp 16)] [], none⟩,
             ⟨some 18, .mv (.tmp 1), none⟩,
             ⟨some 19, .mv (.tmp 5), none⟩,
             ⟨some 20, .idxSl 1 (.tmp 18) (.tmp 19), none⟩,
             ⟨some 21, .load false 1 (.tmp 20), none⟩,
             ⟨some 22, .call (.func F.impl_rankOf) [(.tmp 21)] [], none⟩,
             ⟨some 6, .mv (.tmp 17), none⟩,
             ⟨some 7, .mv (.tmp 22), none⟩] [0, 1, 6, 7, 9, 10] [13, 14, 16, 17, 15, 18, 19, 20, 21, 22, 6]) <|
          .block 2 (
            .seq (.region [⟨some 24, .mv (.tmp 6), none⟩,
               ⟨some 25, .mv (.tmp 7), none⟩,
               ⟨some 26, .bin .lss (.tmp 24) (.tmp 25), none⟩,
               ⟨some 23, .mv (.tmp 26), none⟩] [0, 1, 6, 7, 9, 10, 23] []) <|
            .cond (.tmp 23)
              (.seq (.region [⟨some 4, .mv (.const (.int .i64 (-1))), none⟩] [4] []) <|
              .ret)
              (.seq (.region [⟨some 28, .mv (.tmp 6), none⟩,
                 ⟨some 29, .mv (.tmp 7), none⟩,
                 ⟨some 30, .bin .gtr (.tmp 28) (.tmp 29), none⟩,
                 ⟨some 27, .mv (.tmp 30), none⟩] [0, 1, 9, 10, 27] []) <|
              .cond (.tmp 27)
                (.seq (.region [⟨some 4, .mv (.const (.int .i64 (1))), none⟩] [4] []) <|
                .ret)
                (.skip))))) <|
       .region [⟨some 31, .bin .add (.tmp 10) (.const (.int .i64 (1))), none⟩,
         ⟨some 10, .mv (.tmp 31), none⟩] [0, 1, 9, 10] []))) <|
  .seq (.region [⟨some 4, .mv (.const (.int .i64 (0))), none⟩] [4] []) <|
  .ret
theorem Cd.impl_compareHoles_rs : Tryz.f124.results.toList = [.tmp 4] := rfl
theorem Cd.impl_compareHoles_nt : Tryz.f124.ntmps = 32 := rfl
theorem Cd.impl_compareHoles_ok : CodeIsR Tryz.prog 124 Tryz.f124 Cd.impl_compareHoles := ⟨Tryz.func124, by kernel_rfl, by decide +kernel⟩
/-- internal/stringslite.IndexByte -/
def Cd.internal_stringslite_IndexByte : ACode :=
  .seq (.region [⟨some 4, .mv (.const (.int .i64 (0))), none⟩] [0, 1] []) <|
  .seq (.region [⟨some 5, .mv (.tmp 0), none⟩,
     ⟨some 6, .mv (.tmp 1), none⟩,
     ⟨some 7, .idxB (.tmp 5) (.tmp 6), none⟩,
     ⟨some 4, .mv (.tmp 7), none⟩] [4] []) <|
  .ret
theorem Cd.internal_stringslite_IndexByte_rs : Tryz.f125.results.toList = [.tmp 4] := rfl
theorem Cd.internal_stringslite_IndexByte_nt : Tryz.f125.ntmps = 8 := rfl
theorem Cd.internal_stringslite_IndexByte_ok : CodeIsR Tryz.prog 125 Tryz.f125 Cd.internal_stringslite_IndexByte := ⟨Tryz.func125, by kernel_rfl, by decide +kernel⟩
/-- loop.example/g01012/impl.Decimal -/
def Cd.impl_Decimal : ACode :=
  .seq (.region [⟨some 2, .mv (.const (.string ⟨#[]⟩)), none⟩] [0] []) <|
  .seq (.region [⟨some 3, .mv (.tmp 0), none⟩,
     ⟨some 4, .call (.func F.strconv_FormatInt) [(.tmp 3), (.const (.int .i64 (10)))] [], none⟩,
     ⟨some 2, .mv (.tmp 4), none⟩] [2] []) <|
  .ret
theorem Cd.impl_Decimal_rs : Tryz.f126.results.toList = [.tmp 2] := rfl
theorem Cd.impl_Decimal_nt : Tryz.f126.ntmps = 5 := rfl
theorem Cd.impl_Decimal_ok : CodeIsR Tryz.prog 126 Tryz.f126 Cd.impl_Decimal := ⟨Tryz.func126, by kernel_rfl, by decide +kernel⟩
/-- loop.example/g01012/spec.l03Text -/
def Cd.spec_l03Text : ACode :=
  .seq (.region [⟨some 2, .mv (.const (.string ⟨#[]⟩)), none⟩,
     ⟨some 3, .mv (.const (.bool false)), none⟩] [0] []) <|
  .seq (.naming 4 (
     .region [⟨some 8, .bslice 1 0 [.v (.int .u8 (0))] [], none⟩,
       ⟨some 4, .mv (.tmp 8), none⟩] [0, 4] [])) <|
  .seq (.seq (.region [⟨some 5, .mv (.const (.int .i64 (0))), none⟩] [0, 4, 5] []) <|
   .block 0 (
     .loop (
       .seq (.seq (.region [⟨some 9, .mv (.tmp 5), none⟩,
           ⟨some 10, .mv (.tmp 0), none⟩,
           ⟨some 11, .len (.tmp 10), none⟩,
           ⟨some 12, .bin .lss (.tmp 9) (.tmp 11), none⟩] [0, 4, 5, 12] []) <|
        .cond (.tmp 12)
          (.skip)
          (.exit 0)) <|
       .seq (.block 1 (
          .seq (.region [⟨some 16, .mv (.tmp 0), none⟩,
             ⟨some 17, .mv (.tmp 5), none⟩,
             ⟨some 18, .idxSl 1 (.tmp 16) (.tmp 17), none⟩,
             ⟨some 19, .load false 1 (.tmp 18), none⟩,
             ⟨some 20, .call (.func F.spec_l03Char) [(.tmp 19)] [], none⟩,
             ⟨some 15, .mv (.tmp 20), none⟩,
             ⟨some 21, .extract (.tmp 15) 0, none⟩,
             ⟨some 22, .extract (.tmp 15) 1, none⟩,
             ⟨some 6, .mv (.tmp 21), none⟩,
             ⟨some 7, .mv (.tmp 22), none⟩] [0, 4, 5, 6, 7] []) <|
          .seq (.seq (.region [⟨some 23, .mv (.tmp 7), none⟩,
              ⟨some 24, .un .not (.tmp 23), none⟩] [0, 4, 5, 6, 24] []) <|
           .cond (.tmp 24)
             (.seq (.region [⟨some 2, .mv (.const (.string ⟨#[]⟩)), none⟩,
                ⟨some 3, .mv (.const (.bool false)), none⟩] [2, 3] []) <|
             .ret)
             (.skip)) <|
          .naming 4 (
            .region [⟨some 25, .mv (.tmp 4), none⟩,
              ⟨some 26, .mv (.tmp 6), none⟩,
              ⟨some 27, .bslice 1 1 [.v (.int .u8 (0))] [(0, (.tmp 26))], none⟩,
              ⟨some 28, .append 1 1 (.tmp 25) (.tmp 27), none⟩,
              ⟨some 4, .mv (.tmp 28), none⟩] [0, 4, 5] []))) <|
       .region [⟨some 13, .mv (.tmp 5), none⟩,
         ⟨some 14, .bin .add (.tmp 13) (.const (.int .i64 (1))), none⟩,
         ⟨some 5, .mv (.tmp 14), none⟩] [0, 4, 5] []))) <|
  .seq (.region [⟨some 29, .mv (.tmp 4), none⟩,
     ⟨some 30, .b2s (.tmp 29), none⟩,
     ⟨some 2, .mv (.tmp 30), none⟩,
     ⟨some 3, .mv (.const (.bool true)), none⟩] [2, 3] []) <|
  .ret
theorem Cd.spec_l03Text_rs : Tryz.f127.results.toList = [.tmp 2, .tmp 3] := rfl
theorem Cd.spec_l03Text_nt : Tryz.f127.ntmps = 31 := rfl
theorem Cd.spec_l03Text_ok : CodeIsR Tryz.prog 127 Tryz.f127 Cd.spec_l03Text := ⟨Tryz.func127, by kernel_rfl, by decide +kernel⟩
/-- loop.example/g01012/spec.l03Order -/
def Cd.spec_l03Order : ACode :=
  .seq (.region [⟨some 0, .mv (.const (.string ⟨#[]⟩)), none⟩] [] []) <|
  .seq (.region [⟨some 0, .mv (.const (.string ⟨#[32, 38, 65, 66, 67, 68, 69, 70, 71, 72, 73, 45, 74, 75, 76, 77, 78, 79, 80, 81, 82, 47, 83, 84, 85, 86, 87, 88, 89, 90, 48, 49, 50, 51, 52, 53, 54, 55, 56, 57]⟩)), none⟩] [0] []) <|
  .ret
theorem Cd.spec_l03Order_rs : Tryz.f128.results.toList = [.tmp 0] := rfl
theorem Cd.spec_l03Order_nt : Tryz.f128.ntmps = 1 := rfl
theorem Cd.spec_l03Order_ok : CodeIsR Tryz.prog 128 Tryz.f128 Cd.spec_l03Order := ⟨Tryz.func128, by kernel_rfl, by decide +kernel⟩
/-- loop.example/g01012/impl.hasCharacters -/
def Cd.impl_hasCharacters : ACode :=
  .seq (.region [⟨some 2, .mv (.const (.bool false)), none⟩] [0] []) <|
  .seq (.region [⟨some 3, .mv (.tmp 0), none⟩,
     ⟨some 4, .call (.func F.slices_ContainsFunc___int64_int64_) [(.tmp 3), (.func F.impl_hasCharacters_1)] [], none⟩,
     ⟨some 5, .un .not (.tmp 4), none⟩,
     ⟨some 2, .mv (.tmp 5), none⟩] [2] []) <|
  .ret
theorem Cd.impl_hasCharacters_rs : Tryz.f129.results.toList = [.tmp 2] := rfl
theorem Cd.impl_hasCharacters_nt : Tryz.f129.ntmps = 6 := rfl
theorem Cd.impl_hasCharacters_ok : CodeIsR Tryz.prog 129 Tryz.f129 Cd.impl_hasCharacters := ⟨Tryz.func129, by kernel_rfl, by decide +kernel⟩
/-- loop.example/g01012/impl.rankOf -/
def Cd.impl_rankOf : ACode :=
  .seq (.region [⟨some 2, .mv (.const (.int .i64 (0))), none⟩] [0] []) <|
  .seq (.seq (.region [⟨some 3, .mv (.const (.int .i64 (0))), none⟩] [0, 3] []) <|
   .block 0 (
     .loop (
       .seq (.seq (.region [⟨some 4, .mv (.tmp 3), none⟩,
           ⟨some 5, .bin .lss (.tmp 4) (.const (.int .i64 (40))), none⟩] [0, 3, 5] []) <|
        .cond (.tmp 5)
          (.skip)
          (.exit 0)) <|
       .seq (.block 1 (
          .seq (.region [⟨some 8, .mv (.tmp 3), none⟩,
             ⟨some 9, .idxStr (.const (.string ⟨#[32, 38, 65, 66, 67, 68, 69, 70, 71, 72, 73, 45, 74, 75, 76, 77, 78, 79, 80, 81, 82, 47, 83, 84, 85, 86, 87, 88, 89, 90, 48, 49, 50, 51, 52, 53, 54, 55, 56, 57]⟩)) (.tmp 8), none⟩,
             ⟨some 10, .call (.func F.impl_codeOf) [(.tmp 9)] [], none⟩,
             ⟨some 11, .mv (.tmp 0), none⟩,
             ⟨some 12, .bin .eql (.tmp 10) (.tmp 11), none⟩] [0, 3, 12] []) <|
          .cond (.tmp 12)
            (.seq (.region [⟨some 13, .mv (.tmp 3), none⟩,
               ⟨some 2, .mv (.tmp 13), none⟩] [2] []) <|
            .ret)
            (.skip))) <|
       .region [⟨some 6, .mv (.tmp 3), none⟩,
         ⟨some 7, .bin .add (.tmp 6) (.const (.int .i64 (1))), none⟩,
         ⟨some 3, .mv (.tmp 7), none⟩] [0, 3] []))) <|
  .seq (.region [⟨some 2, .mv (.const (.int .i64 (-1))), none⟩] [2] []) <|
  .ret
theorem Cd.impl_rankOf_rs : Tryz.f130.results.toList = [.tmp 2] := rfl
theorem Cd.impl_rankOf_nt : Tryz.f130.ntmps = 14 := rfl
theorem Cd.impl_rankOf_ok : CodeIsR Tryz.prog 130 Tryz.f130 Cd.impl_rankOf := ⟨Tryz.func130, by kernel_rfl, by decide +kernel⟩
/-- strconv.FormatInt -/
def Cd.strconv_FormatInt : ACode :=
  .seq (.region [⟨some 4, .mv (.const (.string ⟨#[]⟩)), none⟩] [0, 1] []) <|
  .seq (.region [⟨some 5, .mv (.tmp 0), none⟩,
     ⟨some 6, .mv (.tmp 1), none⟩,
     ⟨some 7, .call (.func F.internal_strconv_FormatInt) [(.tmp 5), (.tmp 6)] [], none⟩,
     ⟨some 4, .mv (.tmp 7), none⟩] [4] []) <|
  .ret
theorem Cd.strconv_FormatInt_rs : Tryz.f132.results.toList = [.tmp 4] := rfl
theorem Cd.strconv_FormatInt_nt : Tryz.f132.ntmps = 8 := rfl
theorem Cd.strconv_FormatInt_ok : CodeIsR Tryz.prog 132 Tryz.f132 Cd.strconv_FormatInt := ⟨Tryz.func132, by kernel_rfl, by decide +kernel⟩
/-- loop.example/g01012/spec.l03Char -/
def Cd.spec_l03Char : ACode :=
  .seq (.region [⟨some 2, .mv (.const (.int .u8 (0))), none⟩,
     ⟨some 3, .mv (.const (.bool false)), none⟩] [0] []) <|
  .seq (.region [⟨some 6, .call (.func F.spec_l03Order) [] [], none⟩,
     ⟨some 4, .mv (.tmp 6), none⟩] [0, 4] []) <|
  .seq (.seq (.region [⟨some 5, .mv (.const (.int .i64 (0))), none⟩] [0, 4, 5] []) <|
   .block 0 (
     .loop (
       .seq (.seq (.region [⟨some 7, .mv (.tmp 5), none⟩,
           ⟨some 8, .mv (.tmp 4), none⟩,
           ⟨some 9, .lenS (.tmp 8), none⟩,
           ⟨some 10, .bin .lss (.tmp 7) (.tmp 9), none⟩] [0, 4, 5, 10] []) <|
        .cond (.tmp 10)
          (.skip)
          (.exit 0)) <|
       .seq (.block 1 (
          .seq (.region [⟨some 13, .mv (.tmp 4), none⟩,
             ⟨some 14, .mv (.tmp 5), none⟩,
             ⟨some 15, .idxStr (.tmp 13) (.tmp 14), none⟩,
             ⟨some 16, .call (.func F.spec_l03Code) [(.tmp 15)] [], none⟩,
             ⟨some 17, .mv (.tmp 0), none⟩,
             ⟨some 18, .bin .eql (.tmp 16) (.tmp 17), none⟩] [0, 4, 5, 18] []) <|
          .cond (.tmp 18)
            (.seq (.region [⟨some 19, .mv (.tmp 4), none⟩,
               ⟨some 20, .mv (.tmp 5), none⟩,
               ⟨some 21, .idxStr (.tmp 19) (.tmp 20), none⟩,
               ⟨some 2, .mv (.tmp 21), none⟩,
               ⟨some 3, .mv (.const (.bool true)), none⟩] [2, 3] []) <|
            .ret)
            (.skip))) <|
       .region [⟨some 11, .mv (.tmp 5), none⟩,
         ⟨some 12, .bin .add (.tmp 11) (.const (.int .i64 (1))), none⟩,
         ⟨some 5, .mv (.tmp 12), none⟩] [0, 4, 5] []))) <|
  .seq (.region [⟨some 2, .mv (.const (.int .u8 (0))), none⟩,
     ⟨some 3, .mv (.const (.bool false)), none⟩] [2, 3] []) <|
  .ret
theorem Cd.spec_l03Char_rs : Tryz.f133.results.toList = [.tmp 2, .tmp 3] := rfl
theorem Cd.spec_l03Char_nt : Tryz.f133.ntmps = 22 := rfl
theorem Cd.spec_l03Char_ok : CodeIsR Tryz.prog 133 Tryz.f133 Cd.spec_l03Char := ⟨Tryz.func133, by kernel_rfl, by decide +kernel⟩
/-- loop.example/g01012/impl.hasCharacters$1 -/
def Cd.impl_hasCharacters_1 : ACode :=
  .seq (.region [⟨some 2, .mv (.const (.bool false)), none⟩] [0] []) <|
  .seq (.region [⟨some 3, .mv (.tmp 0), none⟩,
     ⟨some 4, .call (.func F.impl_rankOf) [(.tmp 3)] [], none⟩,
     ⟨some 5, .bin .lss (.tmp 4) (.const (.int .i64 (0))), none⟩,
     ⟨some 2, .mv (.tmp 5), none⟩] [2] []) <|
  .ret
theorem Cd.impl_hasCharacters_1_rs : Tryz.f134.results.toList = [.tmp 2] := rfl
theorem Cd.impl_hasCharacters_1_nt : Tryz.f134.ntmps = 6 := rfl
theorem Cd.impl_hasCharacters_1_ok : CodeIsR Tryz.prog 134 Tryz.f134 Cd.impl_hasCharacters_1 := ⟨Tryz.func134, by kernel_rfl, by decide +kernel⟩
/-- loop.example/g01012/impl.codeOf -/
def Cd.impl_codeOf : ACode :=
  .seq (.region [⟨some 2, .mv (.const (.int .i64 (0))), none⟩] [0] []) <|
  .seq (.region [⟨some 6, .mv (.tmp 0), none⟩,
     ⟨some 7, .call (.func F.impl_CodeOf) [(.tmp 6)] [], none⟩,
     ⟨some 5, .mv (.tmp 7), none⟩,
     ⟨some 8, .extract (.tmp 5) 0, none⟩,
     ⟨some 9, .extract (.tmp 5) 1, none⟩,
     ⟨some 3, .mv (.tmp 8), none⟩,
     ⟨some 4, .mv (.tmp 9), none⟩] [3] []) <|
  .seq (.region [⟨some 10, .mv (.tmp 3), none⟩,
     ⟨some 2, .mv (.tmp 10), none⟩] [2] []) <|
  .ret
theorem Cd.impl_codeOf_rs : Tryz.f135.results.toList = [.tmp 2] := rfl
theorem Cd.impl_codeOf_nt : Tryz.f135.ntmps = 11 := rfl
theorem Cd.impl_codeOf_ok : CodeIsR Tryz.prog 135 Tryz.f135 Cd.impl_codeOf := ⟨Tryz.func135, by kernel_rfl, by decide +kernel⟩
-- NOT COVERED internal/strconv.FormatInt: [region 9 op 2, region 12 op 2, region 13 op 2]
/-- loop.example/g01012/impl.CodeOf -/
def Cd.impl_CodeOf : ACode :=
  .seq (.region [⟨some 2, .mv (.const (.int .i64 (0))), none⟩,
     ⟨some 3, .mv (.const (.bool false)), none⟩] [0] []) <|
  .seq (.block 0 (
     .seq (.region [⟨some 5, .mv (.tmp 0), none⟩,
        ⟨some 6, .bin .eql (.tmp 5) (.const (.int .u8 (32))), none⟩,
        ⟨some 4, .mv (.tmp 6), none⟩] [0, 4] []) <|
     .cond (.tmp 4)
       (.seq (.region [⟨some 2, .mv (.const (.int .i64 (0))), none⟩,
          ⟨some 3, .mv (.const (.bool true)), none⟩] [2, 3] []) <|
       .ret)
       (.seq (.region [⟨some 8, .mv (.tmp 0), none⟩,
          ⟨some 9, .bin .eql (.tmp 8) (.const (.int .u8 (38))), none⟩,
          ⟨some 7, .mv (.tmp 9), none⟩] [0, 7] []) <|
       .cond (.tmp 7)
         (.seq (.region [⟨some 10, .call (.func F.impl_bitOf) [(.const (.int .i64 (12)))] [], none⟩,
            ⟨some 2, .mv (.tmp 10), none⟩,
            ⟨some 3, .mv (.const (.bool true)), none⟩] [2, 3] []) <|
         .ret)
         (.seq (.region [⟨some 12, .mv (.tmp 0), none⟩,
            ⟨some 13, .bin .eql (.tmp 12) (.const (.int .u8 (45))), none⟩,
            ⟨some 11, .mv (.tmp 13), none⟩] [0, 11] []) <|
         .cond (.tmp 11)
           (.seq (.region [⟨some 14, .call (.func F.impl_bitOf) [(.const (.int .i64 (11)))] [], none⟩,
              ⟨some 2, .mv (.tmp 14), none⟩,
              ⟨some 3, .mv (.const (.bool true)), none⟩] [2, 3] []) <|
           .ret)
           (.seq (.region [⟨some 16, .mv (.tmp 0), none⟩,
              ⟨some 17, .call (.func F.impl_isDigit) [(.tmp 16)] [], none⟩,
              ⟨some 15, .mv (.tmp 17), none⟩] [0, 15] []) <|
           .cond (.tmp 15)
             (.seq (.region [⟨some 18, .mv (.tmp 0), none⟩,
                ⟨some 19, .bin .sub (.tmp 18) (.const (.int .u8 (48))), none⟩,
                ⟨some 20, .conv .i64 (.tmp 19), none⟩,
                ⟨some 21, .call (.func F.impl_bitOf) [(.tmp 20)] [], none⟩,
                ⟨some 2, .mv (.tmp 21), none⟩,
                ⟨some 3, .mv (.const (.bool true)), none⟩] [2, 3] []) <|
             .ret)
             (.seq (.region [⟨some 23, .mv (.tmp 0), none⟩,
                ⟨some 24, .bin .geq (.tmp 23) (.const (.int .u8 (65))), none⟩,
                ⟨some 25, .mv (.tmp 24), none⟩,
                ⟨some 26, .mv (.tmp 0), some (25, true)⟩,
                ⟨some 27, .bin .leq (.tmp 26) (.const (.int .u8 (73))), some (25, true)⟩,
                ⟨some 28, .pick (.tmp 25) (.tmp 27) (.const (.bool false)), none⟩,
                ⟨some 22, .mv (.tmp 28), none⟩] [0, 22] []) <|
             .cond (.tmp 22)
               (.seq (.region [⟨some 29, .call (.func F.impl_bitOf) [(.const (.int .i64 (12)))] [], none⟩,
                  ⟨some 30, .mv (.tmp 0), none⟩,
                  ⟨some 31, .bin .sub (.tmp 30) (.const (.int .u8 (65))), none⟩,
                  ⟨some 32, .conv .i64 (.tmp 31), none⟩,
                  ⟨some 33, .bin .add (.tmp 32) (.const (.int .i64 (1))), none⟩,
                  ⟨some 34, .call (.func F.impl_bitOf) [(.tmp 33)] [], none⟩,
                  ⟨some 35, .bin .or (.tmp 29) (.tmp 34), none⟩,
                  ⟨some 2, .mv (.tmp 35), none⟩,
                  ⟨some 3, .mv (.const (.bool true)), none⟩] [2, 3] []) <|
               .ret)
               (.seq (.region [⟨some 37, .mv (.tmp 0), none⟩,
                  ⟨some 38, .bin .geq (.tmp 37) (.const (.int .u8 (74))), none⟩,
                  ⟨some 39, .mv (.tmp 38), none⟩,
                  ⟨some 40, .mv (.tmp 0), some (39, true)⟩,
                  ⟨some 41, .bin .leq (.tmp 40) (.const (.int .u8 (82))), some (39, true)⟩,
                  ⟨some 42, .pick (.tmp 39) (.tmp 41) (.const (.bool false)), none⟩,
                  ⟨some 36, .mv (.tmp 42), none⟩] [0, 36] []) <|
               .cond (.tmp 36)
                 (.seq (.region [⟨some 43, .call (.func F.impl_bitOf) [(.const (.int .i64 (11)))] [], none⟩,
                    ⟨some 44, .mv (.tmp 0), none⟩,
                    ⟨some 45, .bin .sub (.tmp 44) (.const (.int .u8 (74))), none⟩,
                    ⟨some 46, .conv .i64 (.tmp 45), none⟩,
                    ⟨some 47, .bin .add (.tmp 46) (.const (.int .i64 (1))), none⟩,
                    ⟨some 48, .call (.func F.impl_bitOf) [(.tmp 47)] [], none⟩,
                    ⟨some 49, .bin .or (.tmp 43) (.tmp 48), none⟩,
                    ⟨some 2, .mv (.tmp 49), none⟩,
                    ⟨some 3, .mv (.const (.bool true)), none⟩] [2, 3] []) <|
                 .ret)
                 (.seq (.region [⟨some 51, .mv (.tmp 0), none⟩,
                    ⟨some 52, .bin .eql (.tmp 51) (.const (.int .u8 (47))), none⟩,
                    ⟨some 50, .mv (.tmp 52), none⟩] [0, 50] []) <|
                 .cond (.tmp 50)
                   (.seq (.region [⟨some 53, .call (.func F.impl_bitOf) [(.const (.int .i64 (0)))] [], none⟩,
                      ⟨some 54, .call (.func F.impl_bitOf) [(.const (.int .i64 (1)))] [], none⟩,
                      ⟨some 55, .bin .or (.tmp 53) (.tmp 54), none⟩,
                      ⟨some 2, .mv (.tmp 55), none⟩,
                      ⟨some 3, .mv (.const (.bool true)), none⟩] [2, 3] []) <|
                   .ret)
                   (.seq (.region [⟨some 57, .mv (.tmp 0), none⟩,
                      ⟨some 58, .bin .geq (.tmp 57) (.const (.int .u8 (83))), none⟩,
                      ⟨some 59, .mv (.tmp 58), none⟩,
                      ⟨some 60, .mv (.tmp 0), some (59, true)⟩,
                      ⟨some 61, .bin .leq (.tmp 60) (.const (.int .u8 (90))), some (59, true)⟩,
                      ⟨some 62, .pick (.tmp 59) (.tmp 61) (.const (.bool false)), none⟩,
                      ⟨some 56, .mv (.tmp 62), none⟩] [0, 56] []) <|
                   .cond (.tmp 56)
                     (.seq (.region [⟨some 63, .call (.func F.impl_bitOf) [(.const (.int .i64 (0)))] [], none⟩,
                        ⟨some 64, .mv (.tmp 0), none⟩,
                        ⟨some 65, .bin .sub (.tmp 64) (.const (.int .u8 (83))), none⟩,
                        ⟨some 66, .conv .i64 (.tmp 65), none⟩,
                        ⟨some 67, .bin .add (.tmp 66) (.const (.int .i64 (2))), none⟩,
                        ⟨some 68, .call (.func F.impl_bitOf) [(.tmp 67)] [], none⟩,
                        ⟨some 69, .bin .or (.tmp 63) (.tmp 68), none⟩,
                        ⟨some 2, .mv (.tmp 69), none⟩,
                        ⟨some 3, .mv (.const (.bool true)), none⟩] [2, 3] []) <|
                     .ret)
                     (.skip)))))))))) <|
  .seq (.region [⟨some 2, .mv (.const (.int .i64 (0))), none⟩,
     ⟨some 3, .mv (.const (.bool false)), none⟩] [2, 3] []) <|
  .ret
theorem Cd.impl_CodeOf_rs : Tryz.f137.results.toList = [.tmp 2, .tmp 3] := rfl
theorem Cd.impl_CodeOf_nt : Tryz.f137.ntmps = 70 := rfl
theorem Cd.impl_CodeOf_ok : CodeIsR Tryz.prog 137 Tryz.f137 Cd.impl_CodeOf := ⟨Tryz.func137, by kernel_rfl, by decide +kernel⟩
/-- loop.example/g01012/impl.isDigit -/
def Cd.impl_isDigit : ACode :=
  .seq (.region [⟨some 2, .mv (.const (.bool false)), none⟩] [0] []) <|
  .seq (.region [⟨some 3, .mv (.tmp 0), none⟩,
     ⟨some 4, .bin .geq (.tmp 3) (.const (.int .u8 (48))), none⟩,
     ⟨some 5, .mv (.tmp 4), none⟩,
     ⟨some 6, .mv (.tmp 0), some (5, true)⟩,
     ⟨some 7, .bin .leq (.tmp 6) (.const (.int .u8 (57))), some (5, true)⟩,
     ⟨some 8, .pick (.tmp 5) (.tmp 7) (.const (.bool false)), none⟩,
     ⟨some 2, .mv (.tmp 8), none⟩] [2] []) <|
  .ret
theorem Cd.impl_isDigit_rs : Tryz.f142.results.toList = [.tmp 2] := rfl
theorem Cd.impl_isDigit_nt : Tryz.f142.ntmps = 9 := rfl
theorem Cd.impl_isDigit_ok : CodeIsR Tryz.prog 142 Tryz.f142 Cd.impl_isDigit := ⟨Tryz.func142, by kernel_rfl, by decide +kernel⟩
end Go.Proofs.YtgeeipfdkamhmaaGreatDoor
