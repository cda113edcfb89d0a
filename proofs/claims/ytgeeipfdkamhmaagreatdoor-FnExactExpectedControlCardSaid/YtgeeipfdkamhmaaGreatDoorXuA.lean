/- The code of each function, resolved. -/
import Derived.Test.YtgeeipfdkamhmaaGreatDoorEtC
import Derived.Test.YtgeeipfdkamhmaaGreatDoorRows
namespace Go.Proofs.YtgeeipfdkamhmaaGreatDoor
open Go.Vs
set_option maxRecDepth 100000
theorem Tryz.own : ownKnob Tryz.prog.godebug = none := by kernel_rfl
theorem Tryz.laidOut : laidOutB Tryz.prog = true := by kernel_rfl
theorem Tryz.mixed : Tryz.prog.follows .mixedOrders = true := Tryz.checked.mixed
namespace F
abbrev main_main : FuncId := 0
abbrev gosem_cut : FuncId := 1
abbrev gosem_cut_init : FuncId := 2
abbrev laws_FnExactExpectedControl : FuncId := 3
abbrev laws_FnExactSplitHolds : FuncId := 4
abbrev laws_szOffice : FuncId := 5
abbrev laws_szStep : FuncId := 6
abbrev spec_ExpectedControl : FuncId := 7
abbrev laws_toOffice : FuncId := 8
abbrev laws_toStep : FuncId := 9
abbrev laws_toField : FuncId := 10
abbrev impl_ExpectedControl : FuncId := 11
abbrev laws_eqControl : FuncId := 12
abbrev laws_eqOffice : FuncId := 13
abbrev laws_szCardS : FuncId := 14
abbrev spec_SplitHolds : FuncId := 15
abbrev laws_toCardS : FuncId := 16
abbrev impl_SplitHolds : FuncId := 17
abbrev laws_eqCardS : FuncId := 18
abbrev laws_szCardSS : FuncId := 19
abbrev laws_szTotalSS : FuncId := 20
abbrev spec_l18Code : FuncId := 21
abbrev spec_l15Step : FuncId := 22
abbrev spec_l15Width : FuncId := 23
abbrev spec_KeepsControl : FuncId := 24
abbrev spec_l18Of : FuncId := 25
abbrev spec_AddControls : FuncId := 26
abbrev laws_toCardSS : FuncId := 27
abbrev laws_toTotalSS : FuncId := 28
abbrev impl_officeCode : FuncId := 29
abbrev impl_ValidStep : FuncId := 30
abbrev impl_officeColumns : FuncId := 31
abbrev impl_KeepsControl : FuncId := 32
abbrev impl_controlOf : FuncId := 33
abbrev _impl_Control__plus : FuncId := 34
abbrev laws_eqCardSS : FuncId := 35
abbrev laws_eqTotalSS : FuncId := 36
abbrev laws_szCard : FuncId := 37
abbrev spec_l02Deck : FuncId := 38
abbrev spec_l18Field : FuncId := 39
abbrev spec_l07Width : FuncId := 40
abbrev spec_MatchDecks : FuncId := 41
abbrev laws_toCard : FuncId := 42
abbrev impl_ValidDeck : FuncId := 43
abbrev impl_isNumberField : FuncId := 44
abbrev impl_deckColumns : FuncId := 45
abbrev impl_MatchDecks : FuncId := 46
abbrev laws_eqCard : FuncId := 47
abbrev laws_szTotalS : FuncId := 48
abbrev spec_l15Ok : FuncId := 49
abbrev spec_l00In : FuncId := 50
abbrev spec_l15Tray : FuncId := 51
abbrev spec_l02Field : FuncId := 52
abbrev spec_l15Both : FuncId := 53
abbrev spec_l09Text : FuncId := 54
abbrev spec_l03Number : FuncId := 55
abbrev spec_l02Part : FuncId := 56
abbrev spec_l18Digits : FuncId := 57
abbrev spec_l18Two : FuncId := 58
abbrev spec_l18Ok : FuncId := 59
abbrev laws_toTotalS : FuncId := 60
abbrev impl_ValidOffice : FuncId := 61
abbrev impl_inside : FuncId := 62
abbrev impl_isTray : FuncId := 63
abbrev impl_takesTwo : FuncId := 64
abbrev impl_isField : FuncId := 65
abbrev impl_areCharacters : FuncId := 66
abbrev _impl_Card__columns : FuncId := 67
abbrev impl_size_impl_Card_ : FuncId := 68
abbrev impl_numberIn : FuncId := 69
abbrev impl_digitSum : FuncId := 70
abbrev laws_eqTotalS : FuncId := 71
abbrev laws_szInt64S : FuncId := 72
abbrev spec_l02Ok : FuncId := 73
abbrev spec_l09Two : FuncId := 74
abbrev spec_l07Step : FuncId := 75
abbrev spec_l09Match : FuncId := 76
abbrev laws_toInt64S : FuncId := 77
abbrev impl_ValidCard : FuncId := 78
abbrev impl_collateCode : FuncId := 79
abbrev impl_isAscending : FuncId := 80
abbrev impl_MatchDecks_1 : FuncId := 81
abbrev slices_DeleteFunc___impl_Card_impl_Card_ : FuncId := 82
abbrev impl_newDeck : FuncId := 83
abbrev impl_MatchDecks_1_1 : FuncId := 84
abbrev impl_hasEqual : FuncId := 85
abbrev laws_eqInt64S : FuncId := 86
abbrev laws_szTotal : FuncId := 87
abbrev spec_l03Code : FuncId := 88
abbrev spec_l03Digit : FuncId := 89
abbrev laws_toTotal : FuncId := 90
abbrev impl_isCharacter : FuncId := 91
abbrev impl_size_int64_ : FuncId := 92
abbrev impl_copyInts : FuncId := 93
abbrev slices_ContainsFunc___int64_int64_ : FuncId := 94
abbrev impl_numberIn_1 : FuncId := 95
abbrev impl_bitOf : FuncId := 96
abbrev impl_digitOf : FuncId := 97
abbrev impl_digitList : FuncId := 98
abbrev laws_eqTotal : FuncId := 99
abbrev spec_l07Keys : FuncId := 100
abbrev spec_l03Compare : FuncId := 101
abbrev spec_l09Has : FuncId := 102
abbrev spec_l02Own : FuncId := 103
abbrev impl_ValidCard_1 : FuncId := 104
abbrev impl_haveField : FuncId := 105
abbrev impl_steps : FuncId := 106
abbrev slices_IndexFunc___impl_Card_impl_Card_ : FuncId := 107
abbrev impl_newCard : FuncId := 108
abbrev slices_ContainsFunc___impl_Card_impl_Card_ : FuncId := 109
abbrev impl_hasEqual_1 : FuncId := 110
abbrev impl_compareFields : FuncId := 111
abbrev spec_l02Bit : FuncId := 112
abbrev spec_l01Digit : FuncId := 113
abbrev strings_IndexByte : FuncId := 114
abbrev slices_IndexFunc___int64_int64_ : FuncId := 115
abbrev impl_wheelsShow : FuncId := 116
abbrev impl_digitsOf : FuncId := 117
abbrev impl_absOf : FuncId := 118
abbrev spec_l03Key : FuncId := 119
abbrev spec_l03Rank : FuncId := 120
abbrev spec_l00Own : FuncId := 121
abbrev impl_haveField_1 : FuncId := 122
abbrev impl_hasField : FuncId := 123
abbrev impl_compareHoles : FuncId := 124
abbrev internal_stringslite_IndexByte : FuncId := 125
abbrev impl_Decimal : FuncId := 126
abbrev spec_l03Text : FuncId := 127
abbrev spec_l03Order : FuncId := 128
abbrev impl_hasCharacters : FuncId := 129
abbrev impl_rankOf : FuncId := 130
abbrev internal_bytealg_IndexByteString : FuncId := 131
abbrev strconv_FormatInt : FuncId := 132
abbrev spec_l03Char : FuncId := 133
abbrev impl_hasCharacters_1 : FuncId := 134
abbrev impl_codeOf : FuncId := 135
abbrev internal_strconv_FormatInt : FuncId := 136
abbrev impl_CodeOf : FuncId := 137
abbrev internal_strconv_small : FuncId := 138
abbrev internal_strconv_numDigits : FuncId := 139
abbrev internal_strconv_formatBase10 : FuncId := 140
abbrev internal_strconv_formatBits : FuncId := 141
abbrev impl_isDigit : FuncId := 142
abbrev internal_strconv_log10Pow2 : FuncId := 143
abbrev math_bits_Len64 : FuncId := 144
abbrev internal_strconv_bool2_int_ : FuncId := 145
abbrev internal_strconv_isPowerOfTwo : FuncId := 146
abbrev math_bits_TrailingZeros : FuncId := 147
abbrev math_bits_TrailingZeros32 : FuncId := 148
abbrev math_bits_TrailingZeros64 : FuncId := 149
abbrev _runtime_boundsError__Error : FuncId := 150
abbrev _runtime_boundsError__RuntimeError : FuncId := 151
abbrev _runtime_errorString__Error : FuncId := 152
abbrev _runtime_errorString__RuntimeError : FuncId := 153
abbrev _runtime_plainError__Error : FuncId := 154
abbrev _runtime_plainError__RuntimeError : FuncId := 155
abbrev _runtime_errorAddressString__Error : FuncId := 156
abbrev _runtime_errorAddressString__RuntimeError : FuncId := 157
abbrev __runtime_TypeAssertionError__Error : FuncId := 158
abbrev __runtime_TypeAssertionError__RuntimeError : FuncId := 159
abbrev __runtime_PanicNilError__Error : FuncId := 160
abbrev __runtime_PanicNilError__RuntimeError : FuncId := 161
abbrev __internal_abi_Type__Align : FuncId := 162
abbrev _internal_runtime_maps_unhashableTypeError__Error : FuncId := 163
abbrev _internal_runtime_maps_unhashableTypeError__RuntimeError : FuncId := 164
abbrev _internal_abi_Kind__String : FuncId := 165
abbrev var_s_door__gosem_cut_vars_holds_initialisers_alone__see_the_manifest_s_row_cutvarsword__look_11__test_files_too_ : FuncId := 166
abbrev var_s_door__internal_strconv_uint64pow10_is_laid_by_its_own_initialiser__plain_data__look_11_ : FuncId := 167
abbrev var_s_door__math_bits_deBruijn32tab_is_laid_by_its_own_initialiser__plain_data__look_11_ : FuncId := 168
abbrev var_s_door__math_bits_deBruijn64tab_is_laid_by_its_own_initialiser__plain_data__look_11_ : FuncId := 169
abbrev var_s_door__the_look_of_gosem_cut_vars_went_over_the_folder_that_the_caller_named_as_the_repository_s_root__look_11_ : FuncId := 170
abbrev gosem_cut_vars : FuncId := 171
end F
theorem Ld.t33 : ldOf Tryz.prog 33 = some (true, 3) := by kernel_rfl
theorem Ld.t39 : ldOf Tryz.prog 39 = some (true, 2) := by kernel_rfl
theorem Ld.t43 : ldOf Tryz.prog 43 = some (true, 9) := by kernel_rfl
theorem Ld.t41 : ldOf Tryz.prog 41 = some (true, 2) := by kernel_rfl
theorem Ld.t85 : ldOf Tryz.prog 85 = some (true, 1) := by kernel_rfl
theorem Ld.t131 : ldOf Tryz.prog 131 = some (true, 2) := by kernel_rfl
theorem Ld.t151 : ldOf Tryz.prog 151 = some (true, 1) := by kernel_rfl
attribute [go_sem] Ld.t33 Ld.t39 Ld.t43 Ld.t41 Ld.t85 Ld.t131 Ld.t151
/-- loop.example/g01012/laws.FnExactExpectedControl DRAWS -/
def Cd.laws_FnExactExpectedControl : ACode :=
  .seq (.region [⟨some 3, .box (.tmp 0), none⟩,
     ⟨some 4, .box (.tmp 1), none⟩,
     ⟨some 5, .box (.tmp 2), none⟩,
     ⟨some 6, .mv (.const (.bool false)), none⟩] [3, 4, 5] []) <|
  .seq (.region [⟨some 7, .mv (.const (.int .i64 (1048576))), none⟩] [3, 4, 5, 7] []) <|
  .seq (.region [⟨some 13, .load true 2 (.tmp 3), none⟩,
     ⟨some 14, .mv (.tmp 7), none⟩,
     ⟨some 15, .call (.func F.laws_szOffice) [(.tmp 13), (.tmp 14)] [], none⟩,
     ⟨some 7, .mv (.tmp 15), none⟩] [3, 4, 5, 7] []) <|
  .seq (.seq (.region [⟨some 16, .mv (.tmp 7), none⟩,
      ⟨some 17, .bin .lss (.tmp 16) (.const (.int .i64 (0))), none⟩] [3, 4, 5, 7, 17] []) <|
   .cond (.tmp 17)
     (.seq (.region [⟨some 6, .mv (.const (.bool true)), none⟩] [6] []) <|
     .ret)
     (.skip)) <|
  .seq (.region [⟨some 18, .load true 9 (.tmp 4), none⟩,
     ⟨some 19, .mv (.tmp 7), none⟩,
     ⟨some 20, .call (.func F.laws_szStep) [(.tmp 18), (.tmp 19)] [], none⟩,
     ⟨some 7, .mv (.tmp 20), none⟩] [3, 4, 5, 7] []) <|
  .seq (.seq (.region [⟨some 21, .mv (.tmp 7), none⟩,
      ⟨some 22, .bin .lss (.tmp 21) (.const (.int .i64 (0))), none⟩] [3, 4, 5, 22] []) <|
   .cond (.tmp 22)
     (.seq (.region [⟨some 6, .mv (.const (.bool true)), none⟩] [6] []) <|
     .ret)
     (.skip)) <|
  .seq (.region [⟨some 24, .load true 2 (.tmp 3), none⟩,
     ⟨some 25, .call (.func F.laws_toOffice) [(.tmp 24)] [], none⟩,
     ⟨some 26, .load true 9 (.tmp 4), none⟩,
     ⟨some 27, .call (.func F.laws_toStep) [(.tmp 26)] [], none⟩,
     ⟨some 28, .load true 2 (.tmp 5), none⟩,
     ⟨some 29, .call (.func F.laws_toField) [(.tmp 28)] [], none⟩,
     ⟨some 30, .call (.func F.spec_ExpectedControl) [(.tmp 25), (.tmp 27), (.tmp 29)] [], none⟩,
     ⟨some 23, .mv (.tmp 30), none⟩,
     ⟨some 31, .extract (.tmp 23) 0, none⟩,
     ⟨some 32, .extract (.tmp 23) 1, none⟩,
     ⟨some 8, .alloc [.v (.int .i64 (0)), .v (.int .i64 (0)), .v (.int .i64 (0))], none⟩,
     ⟨none, .store 3 (.tmp 8) (.tmp 31), none⟩,
     ⟨some 9, .mv (.tmp 32), none⟩] [3, 4, 5, 8, 9] [24, 26, 25, 27, 28, 29, 30, 23, 31, 32, 8]) <|
  .seq (.region [⟨some 33, .load true 2 (.tmp 3), none⟩,
     ⟨some 34, .call (.func F.laws_toOffice) [(.tmp 33)] [], none⟩,
     ⟨some 10, .alloc [.v (.slice none 0 0), .v (.slice none 0 0)], none⟩,
     ⟨none, .store 2 (.tmp 10) (.tmp 34), none⟩] [3, 4, 5, 8, 9, 10] []) <|
  .seq (.region [⟨some 36, .load true 2 (.tmp 10), none⟩,
     ⟨some 37, .load true 9 (.tmp 4), none⟩,
     ⟨some 38, .call (.func F.laws_toStep) [(.tmp 37)] [], none⟩,
     ⟨some 39, .load true 2 (.tmp 5), none⟩,
     ⟨some 40, .call (.func F.laws_toField) [(.tmp 39)] [], none⟩,
     ⟨some 41, .call (.func F.impl_ExpectedControl) [(.tmp 36), (.tmp 38), (.tmp 40)] [], none⟩,
     ⟨some 35, .mv (.tmp 41), none⟩,
     ⟨some 42, .extract (.tmp 35) 0, none⟩,
     ⟨some 43, .extract (.tmp 35) 1, none⟩,
     ⟨some 11, .alloc [.v (.int .i64 (0)), .v (.int .i64 (0)), .v (.int .i64 (0))], none⟩,
     ⟨none, .store 3 (.tmp 11) (.tmp 42), none⟩,
     ⟨some 12, .mv (.tmp 43), none⟩] [3, 8, 9, 10, 11, 12] [36, 37, 38, 39, 40, 41, 35, 42, 43, 11]) <|
  .seq (.seq (.region [⟨some 44, .load true 3 (.tmp 11), none⟩,
      ⟨some 45, .load true 3 (.tmp 8), none⟩,
      ⟨some 46, .call (.func F.laws_eqControl) [(.tmp 44), (.tmp 45)] [], none⟩,
      ⟨some 47, .un .not (.tmp 46), none⟩,
      ⟨some 48, .mv (.tmp 47), none⟩,
      ⟨some 49, .mv (.tmp 12), some (48, false)⟩,
      ⟨some 50, .mv (.tmp 9), some (48, false)⟩,
      ⟨some 51, .bin .neq (.tmp 49) (.tmp 50), some (48, false)⟩,
      ⟨some 52, .pick (.tmp 48) (.const (.bool true)) (.tmp 51), none⟩] [3, 10, 52] []) <|
   .cond (.tmp 52)
     (.seq (.region [⟨some 6, .mv (.const (.bool false)), none⟩] [6] []) <|
     .ret)
     (.skip)) <|
  .seq (.seq (.region [⟨some 53, .load true 2 (.tmp 10), none⟩,
      ⟨some 54, .load true 2 (.tmp 3), none⟩,
      ⟨some 55, .call (.func F.laws_toOffice) [(.tmp 54)] [], none⟩,
      ⟨some 56, .call (.func F.laws_eqOffice) [(.tmp 53), (.tmp 55)] [], none⟩,
      ⟨some 57, .un .not (.tmp 56), none⟩] [57] [53, 54, 55, 56, 57]) <|
   .cond (.tmp 57)
     (.seq (.region [⟨some 6, .mv (.const (.bool false)), none⟩] [6] []) <|
     .ret)
     (.skip)) <|
  .seq (.region [⟨some 6, .mv (.const (.bool true)), none⟩] [6] []) <|
  .ret
theorem Cd.laws_FnExactExpectedControl_rs : Tryz.f3.results.toList = [.tmp 6] := rfl
theorem Cd.laws_FnExactExpectedControl_nt : Tryz.f3.ntmps = 58 := rfl
theorem Cd.laws_FnExactExpectedControl_ok : CodeIsR Tryz.prog 3 Tryz.f3 Cd.laws_FnExactExpectedControl := ⟨Tryz.func3, by kernel_rfl, by decide +kernel⟩
/-- loop.example/g01012/laws.szOffice -/
def Cd.laws_szOffice : ACode :=
  .seq (.region [⟨some 2, .box (.tmp 0), none⟩,
     ⟨some 4, .mv (.const (.int .i64 (0))), none⟩] [1, 2] []) <|
  .seq (.region [⟨some 5, .fieldAddr 0 (.tmp 2), none⟩,
     ⟨some 6, .load false 1 (.tmp 5), none⟩,
     ⟨some 7, .mv (.tmp 1), none⟩,
     ⟨some 8, .call (.func F.laws_szCardSS) [(.tmp 6), (.tmp 7)] [], none⟩,
     ⟨some 1, .mv (.tmp 8), none⟩] [1, 2] []) <|
  .seq (.seq (.region [⟨some 9, .mv (.tmp 1), none⟩,
      ⟨some 10, .bin .lss (.tmp 9) (.const (.int .i64 (0))), none⟩] [1, 2, 10] []) <|
   .cond (.tmp 10)
     (.seq (.region [⟨some 4, .mv (.const (.int .i64 (-1))), none⟩] [4] []) <|
     .ret)
     (.skip)) <|
  .seq (.region [⟨some 11, .fieldAddr 1 (.tmp 2), none⟩,
     ⟨some 12, .load false 1 (.tmp 11), none⟩,
     ⟨some 13, .mv (.tmp 1), none⟩,
     ⟨some 14, .call (.func F.laws_szTotalSS) [(.tmp 12), (.tmp 13)] [], none⟩,
     ⟨some 1, .mv (.tmp 14), none⟩] [1] []) <|
  .seq (.seq (.region [⟨some 15, .mv (.tmp 1), none⟩,
      ⟨some 16, .bin .lss (.tmp 15) (.const (.int .i64 (0))), none⟩] [1, 16] []) <|
   .cond (.tmp 16)
     (.seq (.region [⟨some 4, .mv (.const (.int .i64 (-1))), none⟩] [4] []) <|
     .ret)
     (.skip)) <|
  .seq (.region [⟨some 17, .mv (.tmp 1), none⟩,
     ⟨some 4, .mv (.tmp 17), none⟩] [4] []) <|
  .ret
theorem Cd.laws_szOffice_rs : Tryz.f5.results.toList = [.tmp 4] := rfl
theorem Cd.laws_szOffice_nt : Tryz.f5.ntmps = 18 := rfl
theorem Cd.laws_szOffice_ok : CodeIsR Tryz.prog 5 Tryz.f5 Cd.laws_szOffice := ⟨Tryz.func5, by kernel_rfl, by decide +kernel⟩
/-- loop.example/g01012/laws.szStep -/
def Cd.laws_szStep : ACode :=
  .seq (.region [⟨some 2, .box (.tmp 0), none⟩,
     ⟨some 4, .mv (.const (.int .i64 (0))), none⟩] [1, 2] []) <|
  .seq (.region [⟨some 5, .mv (.tmp 1), none⟩,
     ⟨some 6, .fieldAddr 8 (.tmp 2), none⟩,
     ⟨some 7, .load false 1 (.tmp 6), none⟩,
     ⟨some 8, .lenS (.tmp 7), none⟩,
     ⟨some 9, .bin .sub (.tmp 5) (.tmp 8), none⟩,
     ⟨some 1, .mv (.tmp 9), none⟩] [1] []) <|
  .seq (.seq (.region [⟨some 10, .mv (.tmp 1), none⟩,
      ⟨some 11, .bin .lss (.tmp 10) (.const (.int .i64 (0))), none⟩] [1, 11] []) <|
   .cond (.tmp 11)
     (.seq (.region [⟨some 4, .mv (.const (.int .i64 (-1))), none⟩] [4] []) <|
     .ret)
     (.skip)) <|
  .seq (.region [⟨some 12, .mv (.tmp 1), none⟩,
     ⟨some 4, .mv (.tmp 12), none⟩] [4] []) <|
  .ret
theorem Cd.laws_szStep_rs : Tryz.f6.results.toList = [.tmp 4] := rfl
theorem Cd.laws_szStep_nt : Tryz.f6.ntmps = 13 := rfl
theorem Cd.laws_szStep_ok : CodeIsR Tryz.prog 6 Tryz.f6 Cd.laws_szStep := ⟨Tryz.func6, by kernel_rfl, by decide +kernel⟩
/-- loop.example/g01012/spec.ExpectedControl DRAWS -/
def Cd.spec_ExpectedControl : ACode :=
  .seq (.region [⟨some 3, .box (.tmp 0), none⟩,
     ⟨some 4, .box (.tmp 1), none⟩,
     ⟨some 5, .box (.tmp 2), none⟩,
     ⟨some 6, .alloc [.v (.int .i64 (0)), .v (.int .i64 (0)), .v (.int .i64 (0))], none⟩,
     ⟨some 7, .mv (.const (.int .i64 (0))), none⟩] [3, 4, 5, 6] []) <|
  .seq (.region [⟨some 13, .load true 2 (.tmp 5), none⟩,
     ⟨some 14, .call (.func F.spec_l18Code) [(.tmp 3), (.tmp 13)] [], none⟩,
     ⟨some 8, .mv (.tmp 14), none⟩] [3, 4, 5, 6, 8] []) <|
  .seq (.seq (.region [⟨some 15, .mv (.tmp 8), none⟩,
      ⟨some 16, .bin .eql (.tmp 15) (.const (.int .i64 (0))), none⟩,
      ⟨some 17, .mv (.tmp 16), none⟩,
      ⟨some 18, .call (.func F.spec_l15Width) [(.tmp 3)] [], some (17, true)⟩,
      ⟨some 19, .call (.func F.spec_l15Step) [(.tmp 4), (.tmp 18)] [], some (17, true)⟩,
      ⟨some 20, .un .not (.tmp 19), some (17, true)⟩,
      ⟨some 21, .pick (.tmp 17) (.tmp 20) (.const (.bool false)), none⟩] [3, 4, 5, 6, 8, 21] []) <|
   .cond (.tmp 21)
     (.region [⟨some 8, .mv (.const (.int .i64 (2))), none⟩] [3, 4, 5, 6, 8] [])
     (.skip)) <|
  .seq (.seq (.region [⟨some 22, .mv (.tmp 8), none⟩,
      ⟨some 23, .bin .eql (.tmp 22) (.const (.int .i64 (0))), none⟩,
      ⟨some 24, .mv (.tmp 23), none⟩,
      ⟨some 25, .fieldAddr 0 (.tmp 4), some (24, true)⟩,
      ⟨some 26, .load false 1 (.tmp 25), some (24, true)⟩,
      ⟨some 27, .call (.func F.spec_KeepsControl) [(.tmp 26)] [], some (24, true)⟩,
      ⟨some 28, .un .not (.tmp 27), some (24, true)⟩,
      ⟨some 29, .pick (.tmp 24) (.tmp 28) (.const (.bool false)), none⟩] [3, 4, 5, 6, 8, 29] []) <|
   .cond (.tmp 29)
     (.region [⟨some 8, .mv (.const (.int .i64 (6))), none⟩] [3, 4, 5, 6, 8] [])
     (.skip)) <|
  .seq (.seq (.region [⟨some 30, .mv (.tmp 8), none⟩,
      ⟨some 31, .bin .neq (.tmp 30) (.const (.int .i64 (0))), none⟩] [3, 4, 5, 6, 8, 31] []) <|
   .cond (.tmp 31)
     (.seq (.region [⟨some 32, .build [.v (.int .i64 (0)), .v (.int .i64 (0)), .v (.int .i64 (0))] [], none⟩,
        ⟨some 33, .mv (.tmp 8), none⟩,
        ⟨none, .store 3 (.tmp 6) (.tmp 32), none⟩,
        ⟨some 7, .mv (.tmp 33), none⟩] [6, 7] []) <|
     .ret)
     (.skip)) <|
  .seq (.region [⟨some 35, .fieldAddr 0 (.tmp 3), none⟩,
     ⟨some 36, .load false 1 (.tmp 35), none⟩,
     ⟨some 37, .fieldAddr 1 (.tmp 4), none⟩,
     ⟨some 38, .load false 1 (.tmp 37), none⟩,
     ⟨some 39, .idxSl 1 (.tmp 36) (.tmp 38), none⟩,
     ⟨some 40, .load false 1 (.tmp 39), none⟩,
     ⟨some 41, .load true 2 (.tmp 5), none⟩,
     ⟨some 42, .call (.func F.spec_l18Of) [(.tmp 40), (.tmp 41)] [], none⟩,
     ⟨some 34, .mv (.tmp 42), none⟩,
     ⟨some 43, .extract (.tmp 34) 0, none⟩,
     ⟨some 44, .extract (.tmp 34) 1, none⟩,
     ⟨some 9, .alloc [.v (.int .i64 (0)), .v (.int .i64 (0)), .v (.int .i64 (0))], none⟩,
     ⟨none, .store 3 (.tmp 9) (.tmp 43), none⟩,
     ⟨some 10, .mv (.tmp 44), none⟩] [3, 4, 5, 6, 9, 10] [35, 37, 36, 38, 39, 40, 41, 42, 34, 43, 44, 9]) <|
  .seq (.seq (.region [⟨some 45, .fieldAddr 0 (.tmp 4), none⟩,
      ⟨some 46, .load false 1 (.tmp 45), none⟩,
      ⟨some 47, .bin .eql (.tmp 46) (.const (.int .i64 (1))), none⟩] [3, 4, 5, 6, 9, 10, 47] []) <|
   .cond (.tmp 47)
     (.seq (.seq (.region [⟨some 48, .mv (.tmp 10), none⟩,
         ⟨some 49, .un .not (.tmp 48), none⟩] [6, 9, 49] []) <|
      .cond (.tmp 49)
        (.seq (.region [⟨some 50, .build [.v (.int .i64 (0)), .v (.int .i64 (0)), .v (.int .i64 (0))] [], none⟩,
           ⟨none, .store 3 (.tmp 6) (.tmp 50), none⟩,
           ⟨some 7, .mv (.const (.int .i64 (8))), none⟩] [6, 7] []) <|
        .ret)
        (.skip)) <|
     .seq (.region [⟨some 51, .load true 3 (.tmp 9), none⟩,
        ⟨none, .store 3 (.tmp 6) (.tmp 51), none⟩,
        ⟨some 7, .mv (.const (.int .i64 (0))), none⟩] [6, 7] []) <|
     .ret)
     (.skip)) <|
  .seq (.region [⟨some 53, .fieldAddr 0 (.tmp 3), none⟩,
     ⟨some 54, .load false 1 (.tmp 53), none⟩,
     ⟨some 55, .fieldAddr 2 (.tmp 4), none⟩,
     ⟨some 56, .load false 1 (.tmp 55), none⟩,
     ⟨some 57, .idxSl 1 (.tmp 54) (.tmp 56), none⟩,
     ⟨some 58, .load false 1 (.tmp 57), none⟩,
     ⟨some 59, .load true 2 (.tmp 5), none⟩,
     ⟨some 60, .call (.func F.spec_l18Of) [(.tmp 58), (.tmp 59)] [], none⟩,
     ⟨some 52, .mv (.tmp 60), none⟩,
     ⟨some 61, .extract (.tmp 52) 0, none⟩,
     ⟨some 62, .extract (.tmp 52) 1, none⟩,
     ⟨some 11, .alloc [.v (.int .i64 (0)), .v (.int .i64 (0)), .v (.int .i64 (0))], none⟩,
     ⟨none, .store 3 (.tmp 11) (.tmp 61), none⟩,
     ⟨some 12, .mv (.tmp 62), none⟩] [6, 9, 10, 11, 12] [53, 55, 54, 56, 57, 58, 59, 60, 52, 61, 62, 11]) <|
  .seq (.seq (.region [⟨some 63, .mv (.tmp 10), none⟩,
      ⟨some 64, .un .not (.tmp 63), none⟩,
      ⟨some 65, .mv (.tmp 64), none⟩,
      ⟨some 66, .mv (.tmp 12), some (65, false)⟩,
      ⟨some 67, .un .not (.tmp 66), some (65, false)⟩,
      ⟨some 68, .pick (.tmp 65) (.const (.bool true)) (.tmp 67), none⟩] [6, 9, 11, 68] []) <|
   .cond (.tmp 68)
     (.seq (.region [⟨some 69, .build [.v (.int .i64 (0)), .v (.int .i64 (0)), .v (.int .i64 (0))] [], none⟩,
        ⟨none, .store 3 (.tmp 6) (.tmp 69), none⟩,
        ⟨some 7, .mv (.const (.int .i64 (8))), none⟩] [6, 7] []) <|
     .ret)
     (.skip)) <|
  .seq (.region [⟨some 70, .load true 3 (.tmp 9), none⟩,
     ⟨some 71, .load true 3 (.tmp 11), none⟩,
     ⟨some 72, .call (.func F.spec_AddControls) [(.tmp 70), (.tmp 71)] [], none⟩,
     ⟨some 73, .extract (.tmp 72) 0, none⟩,
     ⟨some 74, .extract (.tmp 72) 1, none⟩,
     ⟨none, .store 3 (.tmp 6) (.tmp 73), none⟩,
     ⟨some 7, .mv (.tmp 74), none⟩] [6, 7] []) <|
  .ret
theorem Cd.spec_ExpectedControl_rs : Tryz.f7.results.toList = [.cell 6 33, .tmp 7] := rfl
theorem Cd.spec_ExpectedControl_nt : Tryz.f7.ntmps = 75 := rfl
theorem Cd.spec_ExpectedControl_ok : CodeIsR Tryz.prog 7 Tryz.f7 Cd.spec_ExpectedControl := ⟨Tryz.func7, by kernel_rfl, by decide +kernel⟩
/-- loop.example/g01012/laws.toOffice -/
def Cd.laws_toOffice : ACode :=
  .seq (.region [⟨some 1, .box (.tmp 0), none⟩,
     ⟨some 2, .alloc [.v (.slice none 0 0), .v (.slice none 0 0)], none⟩] [1, 2] []) <|
  .seq (.region [⟨some 3, .alloc [.v (.slice none 0 0), .v (.slice none 0 0)], none⟩] [1, 2, 3] []) <|
  .seq (.region [⟨some 4, .fieldAddr 0 (.tmp 1), none⟩,
     ⟨some 5, .load false 1 (.tmp 4), none⟩,
     ⟨some 6, .call (.func F.laws_toCardSS) [(.tmp 5)] [], none⟩,
     ⟨some 7, .fieldAddr 0 (.tmp 3), none⟩,
     ⟨none, .store 1 (.tmp 7) (.tmp 6), none⟩] [1, 2, 3] []) <|
  .seq (.region [⟨some 8, .fieldAddr 1 (.tmp 1), none⟩,
     ⟨some 9, .load false 1 (.tmp 8), none⟩,
     ⟨some 10, .call (.func F.laws_toTotalSS) [(.tmp 9)] [], none⟩,
     ⟨some 11, .fieldAddr 1 (.tmp 3), none⟩,
     ⟨none, .store 1 (.tmp 11) (.tmp 10), none⟩] [2, 3] []) <|
  .seq (.region [⟨some 12, .load true 2 (.tmp 3), none⟩,
     ⟨none, .store 2 (.tmp 2) (.tmp 12), none⟩] [2] []) <|
  .ret
theorem Cd.laws_toOffice_rs : Tryz.f8.results.toList = [.cell 2 39] := rfl
theorem Cd.laws_toOffice_nt : Tryz.f8.ntmps = 13 := rfl
theorem Cd.laws_toOffice_ok : CodeIsR Tryz.prog 8 Tryz.f8 Cd.laws_toOffice := ⟨Tryz.func8, by kernel_rfl, by decide +kernel⟩
/-- loop.example/g01012/laws.toStep -/
def Cd.laws_toStep : ACode :=
  .seq (.region [⟨some 1, .box (.tmp 0), none⟩,
     ⟨some 2, .alloc [.v (.int .i64 (0)), .v (.int .i64 (0)), .v (.int .i64 (0)), .v (.int .i64 (0)), .v (.int .i64 (0)), .v (.int .i64 (0)), .v (.int .i64 (0)), .v (.int .i64 (0)), .v (.string ⟨#[]⟩)], none⟩] [1, 2] []) <|
  .seq (.region [⟨some 3, .alloc [.v (.int .i64 (0)), .v (.int .i64 (0)), .v (.int .i64 (0)), .v (.int .i64 (0)), .v (.int .i64 (0)), .v (.int .i64 (0)), .v (.int .i64 (0)), .v (.int .i64 (0)), .v (.string ⟨#[]⟩)], none⟩] [1, 2, 3] []) <|
  .seq (.region [⟨some 4, .fieldAddr 0 (.tmp 1), none⟩,
     ⟨some 5, .load false 1 (.tmp 4), none⟩,
     ⟨some 6, .fieldAddr 0 (.tmp 3), none⟩,
     ⟨none, .store 1 (.tmp 6) (.tmp 5), none⟩] [1, 2, 3] []) <|
  .seq (.region [⟨some 7, .fieldAddr 1 (.tmp 1), none⟩,
     ⟨some 8, .load false 1 (.tmp 7), none⟩,
     ⟨some 9, .fieldAddr 1 (.tmp 3), none⟩,
     ⟨none, .store 1 (.tmp 9) (.tmp 8), none⟩] [1, 2, 3] []) <|
  .seq (.region [⟨some 10, .fieldAddr 2 (.tmp 1), none⟩,
     ⟨some 11, .load false 1 (.tmp 10), none⟩,
     ⟨some 12, .fieldAddr 2 (.tmp 3), none⟩,
     ⟨none, .store 1 (.tmp 12) (.tmp 11), none⟩] [1, 2, 3] []) <|
  .seq (.region [⟨some 13, .fieldAddr 3 (.tmp 1), none⟩,
     ⟨some 14, .load false 1 (.tmp 13), none⟩,
     ⟨some 15, .fieldAddr 3 (.tmp 3), none⟩,
     ⟨none, .store 1 (.tmp 15) (.tmp 14), none⟩] [1, 2, 3] []) <|
  .seq (.region [⟨some 16, .fieldAddr 4 (.tmp 1), none⟩,
     ⟨some 17, .load true 2 (.tmp 16), none⟩,
     ⟨some 18, .call (.func F.laws_toField) [(.tmp 17)] [], none⟩,
     ⟨some 19, .fieldAddr 4 (.tmp 3), none⟩,
     ⟨none, .store 2 (.tmp 19) (.tmp 18), none⟩] [1, 2, 3] []) <|
  .seq (.region [⟨some 20, .fieldAddr 6 (.tmp 1), none⟩,
     ⟨some 21, .load true 2 (.tmp 20), none⟩,
     ⟨some 22, .call (.func F.laws_toField) [(.tmp 21)] [], none⟩,
     ⟨some 23, .fieldAddr 6 (.tmp 3), none⟩,
     ⟨none, .store 2 (.tmp 23) (.tmp 22), none⟩] [1, 2, 3] []) <|
  .seq (.region [⟨some 24, .fieldAddr 8 (.tmp 1), none⟩,
     ⟨some 25, .load false 1 (.tmp 24), none⟩,
     ⟨some 26, .fieldAddr 8 (.tmp 3), none⟩,
     ⟨none, .store 1 (.tmp 26) (.tmp 25), none⟩] [2, 3] []) <|
  .seq (.region [⟨some 27, .load true 9 (.tmp 3), none⟩,
     ⟨none, .store 9 (.tmp 2) (.tmp 27), none⟩] [2] []) <|
  .ret
theorem Cd.laws_toStep_rs : Tryz.f9.results.toList = [.cell 2 43] := rfl
theorem Cd.laws_toStep_nt : Tryz.f9.ntmps = 28 := rfl
theorem Cd.laws_toStep_ok : CodeIsR Tryz.prog 9 Tryz.f9 Cd.laws_toStep := ⟨Tryz.func9, by kernel_rfl, by decide +kernel⟩
/-- loop.example/g01012/laws.toField -/
def Cd.laws_toField : ACode :=
  .seq (.region [⟨some 1, .box (.tmp 0), none⟩,
     ⟨some 2, .alloc [.v (.int .i64 (0)), .v (.int .i64 (0))], none⟩] [1, 2] []) <|
  .seq (.region [⟨some 3, .alloc [.v (.int .i64 (0)), .v (.int .i64 (0))], none⟩] [1, 2, 3] []) <|
  .seq (.region [⟨some 4, .fieldAddr 0 (.tmp 1), none⟩,
     ⟨some 5, .load false 1 (.tmp 4), none⟩,
     ⟨some 6, .fieldAddr 0 (.tmp 3), none⟩,
     ⟨none, .store 1 (.tmp 6) (.tmp 5), none⟩] [1, 2, 3] []) <|
  .seq (.region [⟨some 7, .fieldAddr 1 (.tmp 1), none⟩,
     ⟨some 8, .load false 1 (.tmp 7), none⟩,
     ⟨some 9, .fieldAddr 1 (.tmp 3), none⟩,
     ⟨none, .store 1 (.tmp 9) (.tmp 8), none⟩] [2, 3] []) <|
  .seq (.region [⟨some 10, .load true 2 (.tmp 3), none⟩,
     ⟨none, .store 2 (.tmp 2) (.tmp 10), none⟩] [2] []) <|
  .ret
theorem Cd.laws_toField_rs : Tryz.f10.results.toList = [.cell 2 41] := rfl
theorem Cd.laws_toField_nt : Tryz.f10.ntmps = 11 := rfl
theorem Cd.laws_toField_ok : CodeIsR Tryz.prog 10 Tryz.f10 Cd.laws_toField := ⟨Tryz.func10, by kernel_rfl, by decide +kernel⟩
/-- loop.example/g01012/impl.ExpectedControl DRAWS -/
def Cd.impl_ExpectedControl : ACode :=
  .seq (.region [⟨some 3, .box (.tmp 0), none⟩,
     ⟨some 4, .box (.tmp 1), none⟩,
     ⟨some 5, .box (.tmp 2), none⟩,
     ⟨some 6, .alloc [.v (.int .i64 (0)), .v (.int .i64 (0)), .v (.int .i64 (0))], none⟩,
     ⟨some 7, .mv (.const (.int .i64 (0))), none⟩] [3, 4, 5, 6] []) <|
  .seq (.region [⟨some 13, .load true 2 (.tmp 3), none⟩,
     ⟨some 14, .load true 2 (.tmp 5), none⟩,
     ⟨some 15, .call (.func F.impl_officeCode) [(.tmp 13), (.const (.slice none 0 0)), (.tmp 14)] [], none⟩,
     ⟨some 8, .mv (.tmp 15), none⟩] [3, 4, 5, 6, 8] []) <|
  .seq (.block 0 (
     .seq (.region [⟨some 17, .mv (.tmp 8), none⟩,
        ⟨some 18, .bin .neq (.tmp 17) (.const (.int .i64 (0))), none⟩,
        ⟨some 16, .mv (.tmp 18), none⟩] [3, 4, 5, 6, 8, 16] []) <|
     .cond (.tmp 16)
       (.seq (.region [⟨some 19, .build [.v (.int .i64 (0)), .v (.int .i64 (0)), .v (.int .i64 (0))] [], none⟩,
          ⟨some 20, .mv (.tmp 8), none⟩,
          ⟨none, .store 3 (.tmp 6) (.tmp 19), none⟩,
          ⟨some 7, .mv (.tmp 20), none⟩] [6, 7] []) <|
       .ret)
       (.seq (.region [⟨some 22, .load true 9 (.tmp 4), none⟩,
          ⟨some 23, .load true 2 (.tmp 3), none⟩,
          ⟨some 24, .call (.func F.impl_officeColumns) [(.tmp 23)] [], none⟩,
          ⟨some 25, .call (.func F.impl_ValidStep) [(.tmp 22), (.tmp 24)] [], none⟩,
          ⟨some 26, .un .not (.tmp 25), none⟩,
          ⟨some 21, .mv (.tmp 26), none⟩] [3, 4, 5, 6, 21] [22, 23, 24, 25, 26, 21]) <|
       .cond (.tmp 21)
         (.seq (.region [⟨some 27, .build [.v (.int .i64 (0)), .v (.int .i64 (0)), .v (.int .i64 (0))] [], none⟩,
            ⟨none, .store 3 (.tmp 6) (.tmp 27), none⟩,
            ⟨some 7, .mv (.const (.int .i64 (2))), none⟩] [6, 7] []) <|
         .ret)
         (.seq (.region [⟨some 29, .fieldAddr 0 (.tmp 4), none⟩,
            ⟨some 30, .load false 1 (.tmp 29), none⟩,
            ⟨some 31, .call (.func F.impl_KeepsControl) [(.tmp 30)] [], none⟩,
            ⟨some 32, .un .not (.tmp 31), none⟩,
            ⟨some 28, .mv (.tmp 32), none⟩] [3, 4, 5, 6, 28] []) <|
         .cond (.tmp 28)
           (.seq (.region [⟨some 33, .build [.v (.int .i64 (0)), .v (.int .i64 (0)), .v (.int .i64 (0))] [], none⟩,
              ⟨none, .store 3 (.tmp 6) (.tmp 33), none⟩,
              ⟨some 7, .mv (.const (.int .i64 (6))), none⟩] [6, 7] []) <|
           .ret)
           (.skip))))) <|
  .seq (.region [⟨some 35, .fieldAddr 0 (.tmp 3), none⟩,
     ⟨some 36, .load false 1 (.tmp 35), none⟩,
     ⟨some 37, .fieldAddr 1 (.tmp 4), none⟩,
     ⟨some 38, .load false 1 (.tmp 37), none⟩,
     ⟨some 39, .idxSl 1 (.tmp 36) (.tmp 38), none⟩,
     ⟨some 40, .load false 1 (.tmp 39), none⟩,
     ⟨some 41, .load true 2 (.tmp 5), none⟩,
     ⟨some 42, .call (.func F.impl_controlOf) [(.tmp 40), (.tmp 41)] [], none⟩,
     ⟨some 34, .mv (.tmp 42), none⟩,
     ⟨some 43, .extract (.tmp 34) 0, none⟩,
     ⟨some 44, .extract (.tmp 34) 1, none⟩,
     ⟨some 9, .alloc [.v (.int .i64 (0)), .v (.int .i64 (0)), .v (.int .i64 (0))], none⟩,
     ⟨none, .store 3 (.tmp 9) (.tmp 43), none⟩,
     ⟨some 10, .mv (.tmp 44), none⟩] [3, 4, 5, 6, 9, 10] [35, 37, 36, 38, 39, 40, 41, 42, 34, 43, 44, 9]) <|
  .seq (.seq (.region [⟨some 45, .fieldAddr 0 (.tmp 4), none⟩,
      ⟨some 46, .load false 1 (.tmp 45), none⟩,
      ⟨some 47, .bin .eql (.tmp 46) (.const (.int .i64 (2))), none⟩] [3, 4, 5, 6, 9, 10, 47] []) <|
   .cond (.tmp 47)
     (.seq (.region [⟨some 49, .fieldAddr 0 (.tmp 3), none⟩,
        ⟨some 50, .load false 1 (.tmp 49), none⟩,
        ⟨some 51, .fieldAddr 2 (.tmp 4), none⟩,
        ⟨some 52, .load false 1 (.tmp 51), none⟩,
        ⟨some 53, .idxSl 1 (.tmp 50) (.tmp 52), none⟩,
        ⟨some 54, .load false 1 (.tmp 53), none⟩,
        ⟨some 55, .load true 2 (.tmp 5), none⟩,
        ⟨some 56, .call (.func F.impl_controlOf) [(.tmp 54), (.tmp 55)] [], none⟩,
        ⟨some 48, .mv (.tmp 56), none⟩,
        ⟨some 57, .extract (.tmp 48) 0, none⟩,
        ⟨some 58, .extract (.tmp 48) 1, none⟩,
        ⟨some 11, .alloc [.v (.int .i64 (0)), .v (.int .i64 (0)), .v (.int .i64 (0))], none⟩,
        ⟨none, .store 3 (.tmp 11) (.tmp 57), none⟩,
        ⟨some 12, .mv (.tmp 58), none⟩] [6, 9, 10, 11, 12] [49, 51, 50, 52, 53, 54, 55, 56, 48, 57, 58, 11]) <|
     .region [⟨some 59, .load true 3 (.tmp 9), none⟩,
       ⟨some 60, .load true 3 (.tmp 11), none⟩,
       ⟨some 61, .call (.func F._impl_Control__plus) [(.tmp 59), (.tmp 60), (.const (.int .i64 (1)))] [], none⟩,
       ⟨some 62, .mv (.tmp 10), none⟩,
       ⟨some 63, .mv (.tmp 62), none⟩,
       ⟨some 64, .mv (.tmp 12), some (63, true)⟩,
       ⟨some 65, .pick (.tmp 63) (.tmp 64) (.const (.bool false)), none⟩,
       ⟨none, .store 3 (.tmp 9) (.tmp 61), none⟩,
       ⟨some 10, .mv (.tmp 65), none⟩] [6, 9, 10] [])
     (.skip)) <|
  .seq (.seq (.region [⟨some 66, .mv (.tmp 10), none⟩,
      ⟨some 67, .un .not (.tmp 66), none⟩] [6, 9, 67] []) <|
   .cond (.tmp 67)
     (.seq (.region [⟨some 68, .build [.v (.int .i64 (0)), .v (.int .i64 (0)), .v (.int .i64 (0))] [], none⟩,
        ⟨none, .store 3 (.tmp 6) (.tmp 68), none⟩,
        ⟨some 7, .mv (.const (.int .i64 (8))), none⟩] [6, 7] []) <|
     .ret)
     (.skip)) <|
  .seq (.region [⟨some 69, .load true 3 (.tmp 9), none⟩,
     ⟨none, .store 3 (.tmp 6) (.tmp 69), none⟩,
     ⟨some 7, .mv (.const (.int .i64 (0))), none⟩] [6, 7] []) <|
  .ret
theorem Cd.impl_ExpectedControl_rs : Tryz.f11.results.toList = [.cell 6 33, .tmp 7] := rfl
theorem Cd.impl_ExpectedControl_nt : Tryz.f11.ntmps = 70 := rfl
theorem Cd.impl_ExpectedControl_ok : CodeIsR Tryz.prog 11 Tryz.f11 Cd.impl_ExpectedControl := ⟨Tryz.func11, by kernel_rfl, by decide +kernel⟩
/-- loop.example/g01012/laws.eqControl -/
def Cd.laws_eqControl : ACode :=
  .seq (.region [⟨some 2, .box (.tmp 0), none⟩,
     ⟨some 3, .box (.tmp 1), none⟩,
     ⟨some 4, .mv (.const (.bool false)), none⟩] [2, 3] []) <|
  .seq (.seq (.region [⟨some 5, .fieldAddr 0 (.tmp 2), none⟩,
      ⟨some 6, .load false 1 (.tmp 5), none⟩,
      ⟨some 7, .fieldAddr 0 (.tmp 3), none⟩,
      ⟨some 8, .load false 1 (.tmp 7), none⟩,
      ⟨some 9, .bin .neq (.tmp 6) (.tmp 8), none⟩] [2, 3, 9] []) <|
   .cond (.tmp 9)
     (.seq (.region [⟨some 4, .mv (.const (.bool false)), none⟩] [4] []) <|
     .ret)
     (.skip)) <|
  .seq (.seq (.region [⟨some 10, .fieldAddr 1 (.tmp 2), none⟩,
      ⟨some 11, .load false 1 (.tmp 10), none⟩,
      ⟨some 12, .fieldAddr 1 (.tmp 3), none⟩,
      ⟨some 13, .load false 1 (.tmp 12), none⟩,
      ⟨some 14, .bin .neq (.tmp 11) (.tmp 13), none⟩] [2, 3, 14] []) <|
   .cond (.tmp 14)
     (.seq (.region [⟨some 4, .mv (.const (.bool false)), none⟩] [4] []) <|
     .ret)
     (.skip)) <|
  .seq (.seq (.region [⟨some 15, .fieldAddr 2 (.tmp 2), none⟩,
      ⟨some 16, .load false 1 (.tmp 15), none⟩,
      ⟨some 17, .fieldAddr 2 (.tmp 3), none⟩,
      ⟨some 18, .load false 1 (.tmp 17), none⟩,
      ⟨some 19, .bin .neq (.tmp 16) (.tmp 18), none⟩] [19] []) <|
   .cond (.tmp 19)
     (.seq (.region [⟨some 4, .mv (.const (.bool false)), none⟩] [4] []) <|
     .ret)
     (.skip)) <|
  .seq (.region [⟨some 4, .mv (.const (.bool true)), none⟩] [4] []) <|
  .ret
theorem Cd.laws_eqControl_rs : Tryz.f12.results.toList = [.tmp 4] := rfl
theorem Cd.laws_eqControl_nt : Tryz.f12.ntmps = 20 := rfl
theorem Cd.laws_eqControl_ok : CodeIsR Tryz.prog 12 Tryz.f12 Cd.laws_eqControl := ⟨Tryz.func12, by kernel_rfl, by decide +kernel⟩
/-- loop.example/g01012/laws.eqOffice -/
def Cd.laws_eqOffice : ACode :=
  .seq (.region [⟨some 2, .box (.tmp 0), none⟩,
     ⟨some 3, .box (.tmp 1), none⟩,
     ⟨some 4, .mv (.const (.bool false)), none⟩] [2, 3] []) <|
  .seq (.seq (.region [⟨some 5, .fieldAddr 0 (.tmp 2), none⟩,
      ⟨some 6, .load false 1 (.tmp 5), none⟩,
      ⟨some 7, .fieldAddr 0 (.tmp 3), none⟩,
      ⟨some 8, .load false 1 (.tmp 7), none⟩,
      ⟨some 9, .call (.func F.laws_eqCardSS) [(.tmp 6), (.tmp 8)] [], none⟩,
      ⟨some 10, .un .not (.tmp 9), none⟩] [2, 3, 10] []) <|
   .cond (.tmp 10)
     (.seq (.region [⟨some 4, .mv (.const (.bool false)), none⟩] [4] []) <|
     .ret)
     (.skip)) <|
  .seq (.seq (.region [⟨some 11, .fieldAddr 1 (.tmp 2), none⟩,
      ⟨some 12, .load false 1 (.tmp 11), none⟩,
      ⟨some 13, .fieldAddr 1 (.tmp 3), none⟩,
      ⟨some 14, .load false 1 (.tmp 13), none⟩,
      ⟨some 15, .call (.func F.laws_eqTotalSS) [(.tmp 12), (.tmp 14)] [], none⟩,
      ⟨some 16, .un .not (.tmp 15), none⟩] [16] []) <|
   .cond (.tmp 16)
     (.seq (.region [⟨some 4, .mv (.const (.bool false)), none⟩] [4] []) <|
     .ret)
     (.skip)) <|
  .seq (.region [⟨some 4, .mv (.const (.bool true)), none⟩] [4] []) <|
  .ret
theorem Cd.laws_eqOffice_rs : Tryz.f13.results.toList = [.tmp 4] := rfl
theorem Cd.laws_eqOffice_nt : Tryz.f13.ntmps = 17 := rfl
theorem Cd.laws_eqOffice_ok : CodeIsR Tryz.prog 13 Tryz.f13 Cd.laws_eqOffice := ⟨Tryz.func13, by kernel_rfl, by decide +kernel⟩
/-- loop.example/g01012/laws.szCardS -/
def Cd.laws_szCardS : ACode :=
  .seq (.region [⟨some 4, .mv (.const (.int .i64 (0))), none⟩] [0, 1] []) <|
  .seq (.region [⟨some 6, .mv (.tmp 1), none⟩,
     ⟨some 7, .mv (.tmp 0), none⟩,
     ⟨some 8, .len (.tmp 7), none⟩,
     ⟨some 9, .bin .sub (.tmp 6) (.tmp 8), none⟩,
     ⟨some 1, .mv (.tmp 9), none⟩] [0, 1] []) <|
  .seq (.seq (.region [⟨some 10, .mv (.tmp 1), none⟩,
      ⟨some 11, .bin .lss (.tmp 10) (.const (.int .i64 (0))), none⟩] [0, 1, 11] []) <|
   .cond (.tmp 11)
     (.seq (.region [⟨some 4, .mv (.const (.int .i64 (-1))), none⟩] [4] []) <|
     .ret)
     (.skip)) <|
  .seq (.seq (.region [⟨some 5, .mv (.const (.int .i64 (0))), none⟩] [0, 1, 5] []) <|
   .block 0 (
     .loop (
       .seq (.seq (.region [⟨some 12, .mv (.tmp 5), none⟩,
           ⟨some 13, .mv (.tmp 0), none⟩,
           ⟨some 14, .len (.tmp 13), none⟩,
           ⟨some 15, .bin .lss (.tmp 12) (.tmp 14), none⟩] [0, 1, 5, 15] []) <|
        .cond (.tmp 15)
          (.skip)
          (.exit 0)) <|
       .seq (.block 1 (
          .seq (.region [⟨some 18, .mv (.tmp 0), none⟩,
             ⟨some 19, .mv (.tmp 5), none⟩,
             ⟨some 20, .idxSl 1 (.tmp 18) (.tmp 19), none⟩,
             ⟨some 21, .load true 1 (.tmp 20), none⟩,
             ⟨some 22, .mv (.tmp 1), none⟩,
             ⟨some 23, .call (.func F.laws_szCard) [(.tmp 21), (.tmp 22)] [], none⟩,
             ⟨some 1, .mv (.tmp 23), none⟩] [0, 1, 5] []) <|
          .seq (.region [⟨some 24, .mv (.tmp 1), none⟩,
             ⟨some 25, .bin .lss (.tmp 24) (.const (.int .i64 (0))), none⟩] [0, 1, 5, 25] []) <|
          .cond (.tmp 25)
            (.seq (.region [⟨some 4, .mv (.const (.int .i64 (-1))), none⟩] [4] []) <|
            .ret)
            (.skip))) <|
       .region [⟨some 16, .mv (.tmp 5), none⟩,
         ⟨some 17, .bin .add (.tmp 16) (.const (.int .i64 (1))), none⟩,
         ⟨some 5, .mv (.tmp 17), none⟩] [0, 1, 5] []))) <|
  .seq (.region [⟨some 26, .mv (.tmp 1), none⟩,
     ⟨some 4, .mv (.tmp 26), none⟩] [4] []) <|
  .ret
theorem Cd.laws_szCardS_rs : Tryz.f14.results.toList = [.tmp 4] := rfl
theorem Cd.laws_szCardS_nt : Tryz.f14.ntmps = 27 := rfl
theorem Cd.laws_szCardS_ok : CodeIsR Tryz.prog 14 Tryz.f14 Cd.laws_szCardS := ⟨Tryz.func14, by kernel_rfl, by decide +kernel⟩
/-- loop.example/g01012/laws.toCardS -/
def Cd.laws_toCardS : ACode :=
  .seq (.region [⟨some 2, .mv (.const (.slice none 0 0)), none⟩] [0] []) <|
  .seq (.region [⟨some 5, .mv (.tmp 0), none⟩,
     ⟨some 6, .len (.tmp 5), none⟩,
     ⟨some 7, .mk 1 24 [.v (.slice none 0 0)] (.tmp 6), none⟩,
     ⟨some 3, .mv (.tmp 7), none⟩] [0, 3] []) <|
  .seq (.seq (.region [⟨some 4, .mv (.const (.int .i64 (0))), none⟩] [0, 3, 4] []) <|
   .block 0 (
     .loop (
       .seq (.seq (.region [⟨some 8, .mv (.tmp 4), none⟩,
           ⟨some 9, .mv (.tmp 0), none⟩,
           ⟨some 10, .len (.tmp 9), none⟩,
           ⟨some 11, .bin .lss (.tmp 8) (.tmp 10), none⟩] [0, 3, 4, 11] []) <|
        .cond (.tmp 11)
          (.skip)
          (.exit 0)) <|
       .seq (.block 1 (
          .region [⟨some 14, .mv (.tmp 3), none⟩,
            ⟨some 15, .mv (.tmp 4), none⟩,
            ⟨some 16, .mv (.tmp 0), none⟩,
            ⟨some 17, .mv (.tmp 4), none⟩,
            ⟨some 18, .idxSl 1 (.tmp 16) (.tmp 17), none⟩,
            ⟨some 19, .load true 1 (.tmp 18), none⟩,
            ⟨some 20, .call (.func F.laws_toCard) [(.tmp 19)] [], none⟩,
            ⟨some 21, .idxSl 1 (.tmp 14) (.tmp 15), none⟩,
            ⟨none, .store 1 (.tmp 21) (.tmp 20), none⟩] [0, 3, 4] [])) <|
       .region [⟨some 12, .mv (.tmp 4), none⟩,
         ⟨some 13, .bin .add (.tmp 12) (.const (.int .i64 (1))), none⟩,
         ⟨some 4, .mv (.tmp 13), none⟩] [0, 3, 4] []))) <|
  .seq (.region [⟨some 22, .mv (.tmp 3), none⟩,
     ⟨some 2, .mv (.tmp 22), none⟩] [2] []) <|
  .ret
theorem Cd.laws_toCardS_rs : Tryz.f16.results.toList = [.tmp 2] := rfl
theorem Cd.laws_toCardS_nt : Tryz.f16.ntmps = 23 := rfl
theorem Cd.laws_toCardS_ok : CodeIsR Tryz.prog 16 Tryz.f16 Cd.laws_toCardS := ⟨Tryz.func16, by kernel_rfl, by decide +kernel⟩
/-- loop.example/g01012/laws.eqCardS DRAWS -/
def Cd.laws_eqCardS : ACode :=
  .seq (.region [⟨some 4, .mv (.const (.bool false)), none⟩] [0, 1] []) <|
  .seq (.seq (.region [⟨some 6, .mv (.tmp 0), none⟩,
      ⟨some 7, .len (.tmp 6), none⟩,
      ⟨some 8, .mv (.tmp 1), none⟩,
      ⟨some 9, .len (.tmp 8), none⟩,
      ⟨some 10, .bin .neq (.tmp 7) (.tmp 9), none⟩] [0, 1, 10] []) <|
   .cond (.tmp 10)
     (.seq (.region [⟨some 4, .mv (.const (.bool false)), none⟩] [4] []) <|
     .ret)
     (.skip)) <|
  .seq (.seq (.region [⟨some 5, .mv (.const (.int .i64 (0))), none⟩] [0, 1, 5] []) <|
   .block 0 (
     .loop (
       .seq (.seq (.region [⟨some 11, .mv (.tmp 5), none⟩,
           ⟨some 12, .mv (.tmp 0), none⟩,
           ⟨some 13, .len (.tmp 12), none⟩,
           ⟨some 14, .bin .lss (.tmp 11) (.tmp 13), none⟩] [0, 1, 5, 14] []) <|
        .cond (.tmp 14)
          (.skip)
          (.exit 0)) <|
       .seq (.block 1 (
          .seq (.region [⟨some 17, .mv (.tmp 0), none⟩,
             ⟨some 18, .mv (.tmp 5), none⟩,
             ⟨some 19, .idxSl 1 (.tmp 17) (.tmp 18), none⟩,
             ⟨some 20, .load true 1 (.tmp 19), none⟩,
             ⟨some 21, .mv (.tmp 1), none⟩,
             ⟨some 22, .mv (.tmp 5), none⟩,
             ⟨some 23, .idxSl 1 (.tmp 21) (.tmp 22), none⟩,
             ⟨some 24, .load true 1 (.tmp 23), none⟩,
             ⟨some 25, .call (.func F.laws_eqCard) [(.tmp 20), (.tmp 24)] [], none⟩,
             ⟨some 26, .un .not (.tmp 25), none⟩] [0, 1, 5, 26] [17, 18, 20, 21, 19, 22, 23, 24, 25, 26]) <|
          .cond (.tmp 26)
            (.seq (.region [⟨some 4, .mv (.const (.bool false)), none⟩] [4] []) <|
            .ret)
            (.skip))) <|
       .region [⟨some 15, .mv (.tmp 5), none⟩,
         ⟨some 16, .bin .add (.tmp 15) (.const (.int .i64 (1))), none⟩,
         ⟨some 5, .mv (.tmp 16), none⟩] [0, 1, 5] []))) <|
  .seq (.region [⟨some 4, .mv (.const (.bool true)), none⟩] [4] []) <|
  .ret
theorem Cd.laws_eqCardS_rs : Tryz.f18.results.toList = [.tmp 4] := rfl
theorem Cd.laws_eqCardS_nt : Tryz.f18.ntmps = 27 := rfl
theorem Cd.laws_eqCardS_ok : CodeIsR Tryz.prog 18 Tryz.f18 Cd.laws_eqCardS := ⟨Tryz.func18, by kernel_rfl, by decide +kernel⟩
/-- loop.example/g01012/laws.szCardSS -/
def Cd.laws_szCardSS : ACode :=
  .seq (.region [⟨some 4, .mv (.const (.int .i64 (0))), none⟩] [0, 1] []) <|
  .seq (.region [⟨some 6, .mv (.tmp 1), none⟩,
     ⟨some 7, .mv (.tmp 0), none⟩,
     ⟨some 8, .len (.tmp 7), none⟩,
     ⟨some 9, .bin .sub (.tmp 6) (.tmp 8), none⟩,
     ⟨some 1, .mv (.tmp 9), none⟩] [0, 1] []) <|
  .seq (.seq (.region [⟨some 10, .mv (.tmp 1), none⟩,
      ⟨some 11, .bin .lss (.tmp 10) (.const (.int .i64 (0))), none⟩] [0, 1, 11] []) <|
   .cond (.tmp 11)
     (.seq (.region [⟨some 4, .mv (.const (.int .i64 (-1))), none⟩] [4] []) <|
     .ret)
     (.skip)) <|
  .seq (.seq (.region [⟨some 5, .mv (.const (.int .i64 (0))), none⟩] [0, 1, 5] []) <|
   .block 0 (
     .loop (
       .seq (.seq (.region [⟨some 12, .mv (.tmp 5), none⟩,
           ⟨some 13, .mv (.tmp 0), none⟩,
           ⟨some 14, .len (.tmp 13), none⟩,
           ⟨some 15, .bin .lss (.tmp 12) (.tmp 14), none⟩] [0, 1, 5, 15] []) <|
        .cond (.tmp 15)
          (.skip)
          (.exit 0)) <|
       .seq (.block 1 (
          .seq (.region [⟨some 18, .mv (.tmp 0), none⟩,
             ⟨some 19, .mv (.tmp 5), none⟩,
             ⟨some 20, .idxSl 1 (.tmp 18) (.tmp 19), none⟩,
             ⟨some 21, .load false 1 (.tmp 20), none⟩,
             ⟨some 22, .mv (.tmp 1), none⟩,
             ⟨some 23, .call (.func F.laws_szCardS) [(.tmp 21), (.tmp 22)] [], none⟩,
             ⟨some 1, .mv (.tmp 23), none⟩] [0, 1, 5] []) <|
          .seq (.region [⟨some 24, .mv (.tmp 1), none⟩,
             ⟨some 25, .bin .lss (.tmp 24) (.const (.int .i64 (0))), none⟩] [0, 1, 5, 25] []) <|
          .cond (.tmp 25)
            (.seq (.region [⟨some 4, .mv (.const (.int .i64 (-1))), none⟩] [4] []) <|
            .ret)
            (.skip))) <|
       .region [⟨some 16, .mv (.tmp 5), none⟩,
         ⟨some 17, .bin .add (.tmp 16) (.const (.int .i64 (1))), none⟩,
         ⟨some 5, .mv (.tmp 17), none⟩] [0, 1, 5] []))) <|
  .seq (.region [⟨some 26, .mv (.tmp 1), none⟩,
     ⟨some 4, .mv (.tmp 26), none⟩] [4] []) <|
  .ret
theorem Cd.laws_szCardSS_rs : Tryz.f19.results.toList = [.tmp 4] := rfl
theorem Cd.laws_szCardSS_nt : Tryz.f19.ntmps = 27 := rfl
theorem Cd.laws_szCardSS_ok : CodeIsR Tryz.prog 19 Tryz.f19 Cd.laws_szCardSS := ⟨Tryz.func19, by kernel_rfl, by decide +kernel⟩
/-- loop.example/g01012/laws.szTotalSS -/
def Cd.laws_szTotalSS : ACode :=
  .seq (.region [⟨some 4, .mv (.const (.int .i64 (0))), none⟩] [0, 1] []) <|
  .seq (.region [⟨some 6, .mv (.tmp 1), none⟩,
     ⟨some 7, .mv (.tmp 0), none⟩,
     ⟨some 8, .len (.tmp 7), none⟩,
     ⟨some 9, .bin .sub (.tmp 6) (.tmp 8), none⟩,
     ⟨some 1, .mv (.tmp 9), none⟩] [0, 1] []) <|
  .seq (.seq (.region [⟨some 10, .mv (.tmp 1), none⟩,
      ⟨some 11, .bin .lss (.tmp 10) (.const (.int .i64 (0))), none⟩] [0, 1, 11] []) <|
   .cond (.tmp 11)
     (.seq (.region [⟨some 4, .mv (.const (.int .i64 (-1))), none⟩] [4] []) <|
     .ret)
     (.skip)) <|
  .seq (.seq (.region [⟨some 5, .mv (.const (.int .i64 (0))), none⟩] [0, 1, 5] []) <|
   .block 0 (
     .loop (
       .seq (.seq (.region [⟨some 12, .mv (.tmp 5), none⟩,
           ⟨some 13, .mv (.tmp 0), none⟩,
           ⟨some 14, .len (.tmp 13), none⟩,
           ⟨some 15, .bin .lss (.tmp 12) (.tmp 14), none⟩] [0, 1, 5, 15] []) <|
        .cond (.tmp 15)
          (.skip)
          (.exit 0)) <|
       .seq (.block 1 (
          .seq (.region [⟨some 18, .mv (.tmp 0), none⟩,
             ⟨some 19, .mv (.tmp 5), none⟩,
             ⟨some 20, .idxSl 1 (.tmp 18) (.tmp 19), none⟩,
             ⟨some 21, .load false 1 (.tmp 20), none⟩,
             ⟨some 22, .mv (.tmp 1), none⟩,
             ⟨some 23, .call (.func F.laws_szTotalS) [(.tmp 21), (.tmp 22)] [], none⟩,
             ⟨some 1, .mv (.tmp 23), none⟩] [0, 1, 5] []) <|
          .seq (.region [⟨some 24, .mv (.tmp 1), none⟩,
             ⟨some 25, .bin .lss (.tmp 24) (.const (.int .i64 (0))), none⟩] [0, 1, 5, 25] []) <|
          .cond (.tmp 25)
            (.seq (.region [⟨some 4, .mv (.const (.int .i64 (-1))), none⟩] [4] []) <|
            .ret)
            (.skip))) <|
       .region [⟨some 16, .mv (.tmp 5), none⟩,
         ⟨some 17, .bin .add (.tmp 16) (.const (.int .i64 (1))), none⟩,
         ⟨some 5, .mv (.tmp 17), none⟩] [0, 1, 5] []))) <|
  .seq (.region [⟨some 26, .mv (.tmp 1), none⟩,
     ⟨some 4, .mv (.tmp 26), none⟩] [4] []) <|
  .ret
theorem Cd.laws_szTotalSS_rs : Tryz.f20.results.toList = [.tmp 4] := rfl
theorem Cd.laws_szTotalSS_nt : Tryz.f20.ntmps = 27 := rfl
theorem Cd.laws_szTotalSS_ok : CodeIsR Tryz.prog 20 Tryz.f20 Cd.laws_szTotalSS := ⟨Tryz.func20, by kernel_rfl, by decide +kernel⟩
/-- loop.example/g01012/spec.l18Code DRAWS -/
def Cd.spec_l18Code : ACode :=
  .seq (.region [⟨some 3, .box (.tmp 1), none⟩,
     ⟨some 4, .mv (.const (.int .i64 (0))), none⟩] [0, 3] []) <|
  .seq (.seq (.region [⟨some 5, .mv (.tmp 0), none⟩,
      ⟨some 6, .call (.func F.spec_l15Ok) [(.tmp 5)] [], none⟩,
      ⟨some 7, .un .not (.tmp 6), none⟩] [0, 3, 7] []) <|
   .cond (.tmp 7)
     (.seq (.region [⟨some 4, .mv (.const (.int .i64 (1))), none⟩] [4] []) <|
     .ret)
     (.skip)) <|
  .seq (.seq (.region [⟨some 8, .load true 2 (.tmp 3), none⟩,
      ⟨some 9, .mv (.tmp 0), none⟩,
      ⟨some 10, .call (.func F.spec_l15Width) [(.tmp 9)] [], none⟩,
      ⟨some 11, .call (.func F.spec_l18Field) [(.tmp 8), (.tmp 10)] [], none⟩,
      ⟨some 12, .un .not (.tmp 11), none⟩] [12] [8, 9, 10, 11, 12]) <|
   .cond (.tmp 12)
     (.seq (.region [⟨some 4, .mv (.const (.int .i64 (2))), none⟩] [4] []) <|
     .ret)
     (.skip)) <|
  .seq (.region [⟨some 4, .mv (.const (.int .i64 (0))), none⟩] [4] []) <|
  .ret
theorem Cd.spec_l18Code_rs : Tryz.f21.results.toList = [.tmp 4] := rfl
theorem Cd.spec_l18Code_nt : Tryz.f21.ntmps = 13 := rfl
theorem Cd.spec_l18Code_ok : CodeIsR Tryz.prog 21 Tryz.f21 Cd.spec_l18Code := ⟨Tryz.func21, by kernel_rfl, by decide +kernel⟩
/-- loop.example/g01012/spec.l15Step DRAWS -/
def Cd.spec_l15Step : ACode :=
  .seq (.region [⟨some 4, .mv (.const (.bool false)), none⟩] [0, 1] []) <|
  .seq (.seq (.region [⟨some 5, .mv (.tmp 0), none⟩,
      ⟨some 6, .nilc (.tmp 5), none⟩,
      ⟨some 7, .fieldAddr 0 (.tmp 6), none⟩,
      ⟨some 8, .load false 1 (.tmp 7), none⟩,
      ⟨some 9, .call (.func F.spec_l00In) [(.tmp 8), (.const (.int .i64 (1))), (.const (.int .i64 (7)))] [], none⟩,
      ⟨some 10, .un .not (.tmp 9), none⟩,
      ⟨some 11, .mv (.tmp 10), none⟩,
      ⟨some 12, .mv (.tmp 0), some (11, false)⟩,
      ⟨some 13, .nilc (.tmp 12), some (11, false)⟩,
      ⟨some 14, .fieldAddr 1 (.tmp 13), some (11, false)⟩,
      ⟨some 15, .load false 1 (.tmp 14), some (11, false)⟩,
      ⟨some 16, .call (.func F.spec_l15Tray) [(.tmp 15)] [], some (11, false)⟩,
      ⟨some 17, .un .not (.tmp 16), some (11, false)⟩,
      ⟨some 18, .pick (.tmp 11) (.const (.bool true)) (.tmp 17), none⟩,
      ⟨some 19, .mv (.tmp 18), none⟩,
      ⟨some 20, .mv (.tmp 0), some (19, false)⟩,
      ⟨some 21, .nilc (.tmp 20), some (19, false)⟩,
      ⟨some 22, .fieldAddr 2 (.tmp 21), some (19, false)⟩,
      ⟨some 23, .load false 1 (.tmp 22), some (19, false)⟩,
      ⟨some 24, .call (.func F.spec_l15Tray) [(.tmp 23)] [], some (19, false)⟩,
      ⟨some 25, .un .not (.tmp 24), some (19, false)⟩,
      ⟨some 26, .pick (.tmp 19) (.const (.bool true)) (.tmp 25), none⟩,
      ⟨some 27, .mv (.tmp 26), none⟩,
      ⟨some 28, .mv (.tmp 0), some (27, false)⟩,
      ⟨some 29, .nilc (.tmp 28), some (27, false)⟩,
      ⟨some 30, .fieldAddr 3 (.tmp 29), some (27, false)⟩,
      ⟨some 31, .load false 1 (.tmp 30), some (27, false)⟩,
      ⟨some 32, .call (.func F.spec_l15Tray) [(.tmp 31)] [], some (27, false)⟩,
      ⟨some 33, .un .not (.tmp 32), some (27, false)⟩,
      ⟨some 34, .pick (.tmp 27) (.const (.bool true)) (.tmp 33), none⟩,
      ⟨some 35, .mv (.tmp 34), none⟩,
      ⟨some 36, .mv (.tmp 0), some (35, false)⟩,
      ⟨some 37, .nilc (.tmp 36), some (35, false)⟩,
      ⟨some 38, .fieldAddr 4 (.tmp 37), some (35, false)⟩,
      ⟨some 39, .load true 2 (.tmp 38), some (35, false)⟩,
      ⟨some 40, .mv (.tmp 1), some (35, false)⟩,
      ⟨some 41, .call (.func F.spec_l02Field) [(.tmp 39), (.tmp 40)] [], some (35, false)⟩,
      ⟨some 42, .un .not (.tmp 41), some (35, false)⟩,
      ⟨some 43, .pick (.tmp 35) (.const (.bool true)) (.tmp 42), none⟩] [0, 1, 43] []) <|
   .cond (.tmp 43)
     (.seq (.region [⟨some 4, .mv (.const (.bool false)), none⟩] [4] []) <|
     .ret)
     (.skip)) <|
  .seq (.seq (.region [⟨some 44, .mv (.tmp 0), none⟩,
      ⟨some 45, .nilc (.tmp 44), none⟩,
      ⟨some 46, .fieldAddr 2 (.tmp 45), none⟩,
      ⟨some 47, .load false 1 (.tmp 46), none⟩,
      ⟨some 48, .bin .neq (.tmp 47) (.const (.int .i64 (0))), none⟩,
      ⟨some 49, .mv (.tmp 48), none⟩,
      ⟨some 50, .mv (.tmp 0), some (49, true)⟩,
      ⟨some 51, .nilc (.tmp 50), some (49, true)⟩,
      ⟨some 52, .fieldAddr 0 (.tmp 51), some (49, true)⟩,
      ⟨some 53, .load false 1 (.tmp 52), some (49, true)⟩,
      ⟨some 54, .call (.func F.spec_l15Both) [(.tmp 53)] [], some (49, true)⟩,
      ⟨some 55, .un .not (.tmp 54), some (49, true)⟩,
      ⟨some 56, .pick (.tmp 49) (.tmp 55) (.const (.bool false)), none⟩] [0, 1, 56] []) <|
   .cond (.tmp 56)
     (.seq (.region [⟨some 4, .mv (.const (.bool false)), none⟩] [4] []) <|
     .ret)
     (.skip)) <|
  .seq (.seq (.region [⟨some 57, .mv (.tmp 0), none⟩,
      ⟨some 58, .nilc (.tmp 57), none⟩,
      ⟨some 59, .fieldAddr 0 (.tmp 58), none⟩,
      ⟨some 60, .load false 1 (.tmp 59), none⟩,
      ⟨some 61, .bin .eql (.tmp 60) (.const (.int .i64 (7))), none⟩] [0, 1, 61] []) <|
   .cond (.tmp 61)
     (.seq (.region [⟨some 62, .mv (.tmp 0), none⟩,
        ⟨some 63, .nilc (.tmp 62), none⟩,
        ⟨some 64, .fieldAddr 3 (.tmp 63), none⟩,
        ⟨some 65, .load false 1 (.tmp 64), none⟩,
        ⟨some 66, .bin .eql (.tmp 65) (.const (.int .i64 (0))), none⟩,
        ⟨some 67, .mv (.tmp 66), none⟩,
        ⟨some 68, .mv (.tmp 0), some (67, true)⟩,
        ⟨some 69, .nilc (.tmp 68), some (67, true)⟩,
        ⟨some 70, .fieldAddr 6 (.tmp 69), some (67, true)⟩,
        ⟨some 71, .load true 2 (.tmp 70), some (67, true)⟩,
        ⟨some 72, .mv (.tmp 1), some (67, true)⟩,
        ⟨some 73, .call (.func F.spec_l02Field) [(.tmp 71), (.tmp 72)] [], some (67, true)⟩,
        ⟨some 74, .pick (.tmp 67) (.tmp 73) (.const (.bool false)), none⟩,
        ⟨some 75, .mv (.tmp 74), none⟩,
        ⟨some 76, .mv (.tmp 0), some (75, true)⟩,
        ⟨some 77, .nilc (.tmp 76), some (75, true)⟩,
        ⟨some 78, .fieldAddr 6 (.tmp 77), some (75, true)⟩,
        ⟨some 79, .fieldAddr 1 (.tmp 78), some (75, true)⟩,
        ⟨some 80, .load false 1 (.tmp 79), some (75, true)⟩,
        ⟨some 81, .mv (.tmp 0), some (75, true)⟩,
        ⟨some 82, .nilc (.tmp 81), some (75, true)⟩,
        ⟨some 83, .fieldAddr 6 (.tmp 82), some (75, true)⟩,
        ⟨some 84, .fieldAddr 0 (.tmp 83), some (75, true)⟩,
        ⟨some 85, .load false 1 (.tmp 84), some (75, true)⟩,
        ⟨some 86, .bin .sub (.tmp 80) (.tmp 85), some (75, true)⟩,
        ⟨some 87, .bin .leq (.tmp 86) (.const (.int .i64 (12))), some (75, true)⟩,
        ⟨some 88, .pick (.tmp 75) (.tmp 87) (.const (.bool false)), none⟩,
        ⟨some 89, .mv (.tmp 88), none⟩,
        ⟨some 90, .mv (.tmp 0), some (89, true)⟩,
        ⟨some 91, .nilc (.tmp 90), some (89, true)⟩,
        ⟨some 92, .fieldAddr 8 (.tmp 91), some (89, true)⟩,
        ⟨some 93, .load false 1 (.tmp 92), some (89, true)⟩,
        ⟨some 94, .binS .eql (.tmp 93) (.const (.string ⟨#[]⟩)), some (89, true)⟩,
        ⟨some 95, .pick (.tmp 89) (.tmp 94) (.const (.bool false)), none⟩,
        ⟨some 4, .mv (.tmp 95), none⟩] [4] [62, 64, 65, 63, 66, 67, 68, 69, 70, 71, 72, 73, 74, 75, 76, 77, 78, 79, 80, 81, 82, 83, 84, 85, 86, 87, 88, 89, 90, 91, 92, 93, 94, 95]) <|
     .ret)
     (.skip)) <|
  .seq (.seq (.region [⟨some 96, .mv (.tmp 0), none⟩,
      ⟨some 97, .nilc (.tmp 96), none⟩,
      ⟨some 98, .fieldAddr 6 (.tmp 97), none⟩,
      ⟨some 99, .load true 2 (.tmp 98), none⟩,
      ⟨some 100, .build [.v (.int .i64 (0)), .v (.int .i64 (0))] [], none⟩,
      ⟨some 101, .eqA true [0, 0] (.tmp 99) (.tmp 100), none⟩] [0, 101] []) <|
   .cond (.tmp 101)
     (.seq (.region [⟨some 4, .mv (.const (.bool false)), none⟩] [4] []) <|
     .ret)
     (.skip)) <|
  .seq (.seq (.region [⟨some 102, .mv (.tmp 0), none⟩,
      ⟨some 103, .nilc (.tmp 102), none⟩,
      ⟨some 104, .fieldAddr 0 (.tmp 103), none⟩,
      ⟨some 105, .load false 1 (.tmp 104), none⟩,
      ⟨some 106, .bin .eql (.tmp 105) (.const (.int .i64 (5))), none⟩] [0, 106] []) <|
   .cond (.tmp 106)
     (.seq (.region [⟨some 107, .mv (.tmp 0), none⟩,
        ⟨some 108, .nilc (.tmp 107), none⟩,
        ⟨some 109, .fieldAddr 8 (.tmp 108), none⟩,
        ⟨some 110, .load false 1 (.tmp 109), none⟩,
        ⟨some 111, .mv (.tmp 0), none⟩,
        ⟨some 112, .nilc (.tmp 111), none⟩,
        ⟨some 113, .fieldAddr 4 (.tmp 112), none⟩,
        ⟨some 114, .load true 2 (.tmp 113), none⟩,
        ⟨some 115, .call (.func F.spec_l09Text) [(.tmp 110), (.tmp 114)] [], none⟩,
        ⟨some 116, .bin .eql (.tmp 115) (.const (.int .i64 (0))), none⟩,
        ⟨some 4, .mv (.tmp 116), none⟩] [4] [107, 109, 110, 108, 111, 112, 113, 114, 115, 116]) <|
     .ret)
     (.skip)) <|
  .seq (.region [⟨some 117, .mv (.tmp 0), none⟩,
     ⟨some 118, .nilc (.tmp 117), none⟩,
     ⟨some 119, .fieldAddr 8 (.tmp 118), none⟩,
     ⟨some 120, .load false 1 (.tmp 119), none⟩,
     ⟨some 121, .binS .eql (.tmp 120) (.const (.string ⟨#[]⟩)), none⟩,
     ⟨some 4, .mv (.tmp 121), none⟩] [4] []) <|
  .ret
theorem Cd.spec_l15Step_rs : Tryz.f22.results.toList = [.tmp 4] := rfl
theorem Cd.spec_l15Step_nt : Tryz.f22.ntmps = 122 := rfl
theorem Cd.spec_l15Step_ok : CodeIsR Tryz.prog 22 Tryz.f22 Cd.spec_l15Step := ⟨Tryz.func22, by kernel_rfl, by decide +kernel⟩
/-- loop.example/g01012/spec.l15Width -/
def Cd.spec_l15Width : ACode :=
  .seq (.region [⟨some 2, .mv (.const (.int .i64 (0))), none⟩] [0] []) <|
  .seq (.seq (.region [⟨some 3, .mv (.const (.int .i64 (0))), none⟩] [0, 3] []) <|
   .block 0 (
     .loop (
       .seq (.seq (.region [⟨some 4, .mv (.tmp 3), none⟩,
           ⟨some 5, .mv (.tmp 0), none⟩,
           ⟨some 6, .nilc (.tmp 5), none⟩,
           ⟨some 7, .fieldAddr 0 (.tmp 6), none⟩,
           ⟨some 8, .load false 1 (.tmp 7), none⟩,
           ⟨some 9, .len (.tmp 8), none⟩,
           ⟨some 10, .bin .lss (.tmp 4) (.tmp 9), none⟩] [0, 3, 10] []) <|
        .cond (.tmp 10)
          (.skip)
          (.exit 0)) <|
       .seq (.block 1 (
          .seq (.region [⟨some 13, .mv (.tmp 0), none⟩,
             ⟨some 14, .nilc (.tmp 13), none⟩,
             ⟨some 15, .fieldAddr 0 (.tmp 14), none⟩,
             ⟨some 16, .load false 1 (.tmp 15), none⟩,
             ⟨some 17, .mv (.tmp 3), none⟩,
             ⟨some 18, .idxSl 1 (.tmp 16) (.tmp 17), none⟩,
             ⟨some 19, .load false 1 (.tmp 18), none⟩,
             ⟨some 20, .len (.tmp 19), none⟩,
             ⟨some 21, .bin .gtr (.tmp 20) (.const (.int .i64 (0))), none⟩] [0, 3, 21] []) <|
          .cond (.tmp 21)
            (.seq (.region [⟨some 22, .mv (.tmp 0), none⟩,
               ⟨some 23, .nilc (.tmp 22), none⟩,
               ⟨some 24, .fieldAddr 0 (.tmp 23), none⟩,
               ⟨some 25, .load false 1 (.tmp 24), none⟩,
               ⟨some 26, .mv (.tmp 3), none⟩,
               ⟨some 27, .idxSl 1 (.tmp 25) (.tmp 26), none⟩,
               ⟨some 28, .load false 1 (.tmp 27), none⟩,
               ⟨some 29, .idxSl 1 (.tmp 28) (.const (.int .i64 (0))), none⟩,
               ⟨some 30, .fieldAddr 0 (.tmp 29), none⟩,
               ⟨some 31, .load false 1 (.tmp 30), none⟩,
               ⟨some 32, .len (.tmp 31), none⟩,
               ⟨some 2, .mv (.tmp 32), none⟩] [2] []) <|
            .ret)
            (.skip))) <|
       .region [⟨some 11, .mv (.tmp 3), none⟩,
         ⟨some 12, .bin .add (.tmp 11) (.const (.int .i64 (1))), none⟩,
         ⟨some 3, .mv (.tmp 12), none⟩] [0, 3] []))) <|
  .seq (.region [⟨some 2, .mv (.const (.int .i64 (20))), none⟩] [2] []) <|
  .ret
theorem Cd.spec_l15Width_rs : Tryz.f23.results.toList = [.tmp 2] := rfl
theorem Cd.spec_l15Width_nt : Tryz.f23.ntmps = 33 := rfl
theorem Cd.spec_l15Width_ok : CodeIsR Tryz.prog 23 Tryz.f23 Cd.spec_l15Width := ⟨Tryz.func23, by kernel_rfl, by decide +kernel⟩
/-- loop.example/g01012/spec.KeepsControl -/
def Cd.spec_KeepsControl : ACode :=
  .seq (.region [⟨some 2, .mv (.const (.bool false)), none⟩] [0] []) <|
  .seq (.region [⟨some 3, .mv (.tmp 0), none⟩,
     ⟨some 4, .bin .eql (.tmp 3) (.const (.int .i64 (1))), none⟩,
     ⟨some 5, .mv (.tmp 4), none⟩,
     ⟨some 6, .mv (.tmp 0), some (5, false)⟩,
     ⟨some 7, .bin .eql (.tmp 6) (.const (.int .i64 (2))), some (5, false)⟩,
     ⟨some 8, .pick (.tmp 5) (.const (.bool true)) (.tmp 7), none⟩,
     ⟨some 2, .mv (.tmp 8), none⟩] [2] []) <|
  .ret
theorem Cd.spec_KeepsControl_rs : Tryz.f24.results.toList = [.tmp 2] := rfl
theorem Cd.spec_KeepsControl_nt : Tryz.f24.ntmps = 9 := rfl
theorem Cd.spec_KeepsControl_ok : CodeIsR Tryz.prog 24 Tryz.f24 Cd.spec_KeepsControl := ⟨Tryz.func24, by kernel_rfl, by decide +kernel⟩
/-- loop.example/g01012/spec.l18Of DRAWS -/
def Cd.spec_l18Of : ACode :=
  .seq (.region [⟨some 3, .box (.tmp 1), none⟩,
     ⟨some 4, .alloc [.v (.int .i64 (0)), .v (.int .i64 (0)), .v (.int .i64 (0))], none⟩,
     ⟨some 5, .mv (.const (.bool false)), none⟩] [0, 3, 4] []) <|
  .seq (.region [⟨some 10, .mv (.tmp 0), none⟩,
     ⟨some 11, .len (.tmp 10), none⟩,
     ⟨some 12, .build [.v (.int .i64 (0)), .v (.int .i64 (0)), .v (.int .i64 (0))] [(0, 1, (.tmp 11))], none⟩,
     ⟨some 6, .alloc [.v (.int .i64 (0)), .v (.int .i64 (0)), .v (.int .i64 (0))], none⟩,
     ⟨none, .store 3 (.tmp 6) (.tmp 12), none⟩] [0, 3, 4, 6] []) <|
  .seq (.seq (.region [⟨some 7, .mv (.const (.int .i64 (0))), none⟩] [0, 3, 4, 6, 7] []) <|
   .block 0 (
     .loop (
       .seq (.seq (.region [⟨some 13, .mv (.tmp 7), none⟩,
           ⟨some 14, .mv (.tmp 0), none⟩,
           ⟨some 15, .len (.tmp 14), none⟩,
           ⟨some 16, .bin .lss (.tmp 13) (.tmp 15), none⟩] [0, 3, 4, 6, 7, 16] []) <|
        .cond (.tmp 16)
          (.skip)
          (.exit 0)) <|
       .seq (.block 1 (
          .seq (.region [⟨some 20, .mv (.tmp 0), none⟩,
             ⟨some 21, .mv (.tmp 7), none⟩,
             ⟨some 22, .idxSl 1 (.tmp 20) (.tmp 21), none⟩,
             ⟨some 23, .load true 2 (.tmp 3), none⟩,
             ⟨some 24, .call (.func F.spec_l02Part) [(.tmp 22), (.tmp 23)] [], none⟩,
             ⟨some 25, .call (.func F.spec_l03Number) [(.tmp 24)] [], none⟩,
             ⟨some 19, .mv (.tmp 25), none⟩,
             ⟨some 26, .extract (.tmp 19) 0, none⟩,
             ⟨some 27, .extract (.tmp 19) 1, none⟩,
             ⟨some 8, .mv (.tmp 26), none⟩,
             ⟨some 9, .mv (.tmp 27), none⟩] [0, 3, 4, 6, 7, 8, 9] [20, 21, 23, 22, 24, 25, 19, 26, 27, 8]) <|
          .seq (.seq (.region [⟨some 28, .mv (.tmp 9), none⟩,
              ⟨some 29, .un .not (.tmp 28), none⟩] [0, 3, 4, 6, 7, 8, 29] []) <|
           .cond (.tmp 29)
             (.seq (.region [⟨some 30, .build [.v (.int .i64 (0)), .v (.int .i64 (0)), .v (.int .i64 (0))] [], none⟩,
                ⟨none, .store 3 (.tmp 4) (.tmp 30), none⟩,
                ⟨some 5, .mv (.const (.bool false)), none⟩] [4, 5] []) <|
             .ret)
             (.skip)) <|
          .seq (.region [⟨some 31, .fieldAddr 1 (.tmp 6), none⟩,
             ⟨some 32, .load false 1 (.tmp 31), none⟩,
             ⟨some 33, .mv (.tmp 8), none⟩,
             ⟨some 34, .bin .add (.tmp 32) (.tmp 33), none⟩,
             ⟨some 35, .fieldAddr 1 (.tmp 6), none⟩,
             ⟨none, .store 1 (.tmp 35) (.tmp 34), none⟩] [0, 3, 4, 6, 7, 8] []) <|
          .region [⟨some 36, .fieldAddr 2 (.tmp 6), none⟩,
            ⟨some 37, .load false 1 (.tmp 36), none⟩,
            ⟨some 38, .mv (.tmp 8), none⟩,
            ⟨some 39, .call (.func F.spec_l18Digits) [(.tmp 38)] [], none⟩,
            ⟨some 40, .bin .add (.tmp 37) (.tmp 39), none⟩,
            ⟨some 41, .fieldAddr 2 (.tmp 6), none⟩,
            ⟨none, .store 1 (.tmp 41) (.tmp 40), none⟩] [0, 3, 4, 6, 7] [36, 38, 37, 39, 40])) <|
       .region [⟨some 17, .mv (.tmp 7), none⟩,
         ⟨some 18, .bin .add (.tmp 17) (.const (.int .i64 (1))), none⟩,
         ⟨some 7, .mv (.tmp 18), none⟩] [0, 3, 4, 6, 7] []))) <|
  .seq (.region [⟨some 42, .load true 3 (.tmp 6), none⟩,
     ⟨none, .store 3 (.tmp 4) (.tmp 42), none⟩,
     ⟨some 5, .mv (.const (.bool true)), none⟩] [4, 5] []) <|
  .ret
theorem Cd.spec_l18Of_rs : Tryz.f25.results.toList = [.cell 4 33, .tmp 5] := rfl
theorem Cd.spec_l18Of_nt : Tryz.f25.ntmps = 43 := rfl
theorem Cd.spec_l18Of_ok : CodeIsR Tryz.prog 25 Tryz.f25 Cd.spec_l18Of := ⟨Tryz.func25, by kernel_rfl, by decide +kernel⟩
/-- loop.example/g01012/spec.AddControls -/
def Cd.spec_AddControls : ACode :=
  .seq (.region [⟨some 2, .box (.tmp 0), none⟩,
     ⟨some 3, .box (.tmp 1), none⟩,
     ⟨some 4, .alloc [.v (.int .i64 (0)), .v (.int .i64 (0)), .v (.int .i64 (0))], none⟩,
     ⟨some 5, .mv (.const (.int .i64 (0))), none⟩] [2, 3, 4] []) <|
  .seq (.region [⟨some 8, .load true 3 (.tmp 2), none⟩,
     ⟨some 9, .load true 3 (.tmp 3), none⟩,
     ⟨some 10, .call (.func F.spec_l18Two) [(.tmp 8), (.tmp 9)] [], none⟩,
     ⟨some 6, .mv (.tmp 10), none⟩] [2, 3, 4, 6] []) <|
  .seq (.seq (.region [⟨some 11, .mv (.tmp 6), none⟩,
      ⟨some 12, .bin .neq (.tmp 11) (.const (.int .i64 (0))), none⟩] [2, 3, 4, 6, 12] []) <|
   .cond (.tmp 12)
     (.seq (.region [⟨some 13, .build [.v (.int .i64 (0)), .v (.int .i64 (0)), .v (.int .i64 (0))] [], none⟩,
        ⟨some 14, .mv (.tmp 6), none⟩,
        ⟨none, .store 3 (.tmp 4) (.tmp 13), none⟩,
        ⟨some 5, .mv (.tmp 14), none⟩] [4, 5] []) <|
     .ret)
     (.skip)) <|
  .seq (.region [⟨some 15, .fieldAddr 0 (.tmp 2), none⟩,
     ⟨some 16, .load false 1 (.tmp 15), none⟩,
     ⟨some 17, .fieldAddr 0 (.tmp 3), none⟩,
     ⟨some 18, .load false 1 (.tmp 17), none⟩,
     ⟨some 19, .bin .add (.tmp 16) (.tmp 18), none⟩,
     ⟨some 20, .fieldAddr 1 (.tmp 2), none⟩,
     ⟨some 21, .load false 1 (.tmp 20), none⟩,
     ⟨some 22, .fieldAddr 1 (.tmp 3), none⟩,
     ⟨some 23, .load false 1 (.tmp 22), none⟩,
     ⟨some 24, .bin .add (.tmp 21) (.tmp 23), none⟩,
     ⟨some 25, .fieldAddr 2 (.tmp 2), none⟩,
     ⟨some 26, .load false 1 (.tmp 25), none⟩,
     ⟨some 27, .fieldAddr 2 (.tmp 3), none⟩,
     ⟨some 28, .load false 1 (.tmp 27), none⟩,
     ⟨some 29, .bin .add (.tmp 26) (.tmp 28), none⟩,
     ⟨some 30, .build [.v (.int .i64 (0)), .v (.int .i64 (0)), .v (.int .i64 (0))] [(0, 1, (.tmp 19)), (1, 1, (.tmp 24)), (2, 1, (.tmp 29))], none⟩,
     ⟨some 7, .alloc [.v (.int .i64 (0)), .v (.int .i64 (0)), .v (.int .i64 (0))], none⟩,
     ⟨none, .store 3 (.tmp 7) (.tmp 30), none⟩] [4, 7] []) <|
  .seq (.seq (.region [⟨some 31, .load true 3 (.tmp 7), none⟩,
      ⟨some 32, .call (.func F.spec_l18Ok) [(.tmp 31)] [], none⟩,
      ⟨some 33, .un .not (.tmp 32), none⟩] [4, 7, 33] []) <|
   .cond (.tmp 33)
     (.seq (.region [⟨some 34, .build [.v (.int .i64 (0)), .v (.int .i64 (0)), .v (.int .i64 (0))] [], none⟩,
        ⟨none, .store 3 (.tmp 4) (.tmp 34), none⟩,
        ⟨some 5, .mv (.const (.int .i64 (5))), none⟩] [4, 5] []) <|
     .ret)
     (.skip)) <|
  .seq (.region [⟨some 35, .load true 3 (.tmp 7), none⟩,
     ⟨none, .store 3 (.tmp 4) (.tmp 35), none⟩,
     ⟨some 5, .mv (.const (.int .i64 (0))), none⟩] [4, 5] []) <|
  .ret
theorem Cd.spec_AddControls_rs : Tryz.f26.results.toList = [.cell 4 33, .tmp 5] := rfl
theorem Cd.spec_AddControls_nt : Tryz.f26.ntmps = 36 := rfl
theorem Cd.spec_AddControls_ok : CodeIsR Tryz.prog 26 Tryz.f26 Cd.spec_AddControls := ⟨Tryz.func26, by kernel_rfl, by decide +kernel⟩
/-- loop.example/g01012/laws.toCardSS -/
def Cd.laws_toCardSS : ACode :=
  .seq (.region [⟨some 2, .mv (.const (.slice none 0 0)), none⟩] [0] []) <|
  .seq (.region [⟨some 5, .mv (.tmp 0), none⟩,
     ⟨some 6, .len (.tmp 5), none⟩,
     ⟨some 7, .mk 1 24 [.v (.slice none 0 0)] (.tmp 6), none⟩,
     ⟨some 3, .mv (.tmp 7), none⟩] [0, 3] []) <|
  .seq (.seq (.region [⟨some 4, .mv (.const (.int .i64 (0))), none⟩] [0, 3, 4] []) <|
   .block 0 (
     .loop (
       .seq (.seq (.region [⟨some 8, .mv (.tmp 4), none⟩,
           ⟨some 9, .mv (.tmp 0), none⟩,
           ⟨some 10, .len (.tmp 9), none⟩,
           ⟨some 11, .bin .lss (.tmp 8) (.tmp 10), none⟩] [0, 3, 4, 11] []) <|
        .cond (.tmp 11)
          (.skip)
          (.exit 0)) <|
       .seq (.block 1 (
          .region [⟨some 14, .mv (.tmp 3), none⟩,
            ⟨some 15, .mv (.tmp 4), none⟩,
            ⟨some 16, .mv (.tmp 0), none⟩,
            ⟨some 17, .mv (.tmp 4), none⟩,
            ⟨some 18, .idxSl 1 (.tmp 16) (.tmp 17), none⟩,
            ⟨some 19, .load false 1 (.tmp 18), none⟩,
            ⟨some 20, .call (.func F.laws_toCardS) [(.tmp 19)] [], none⟩,
            ⟨some 21, .idxSl 1 (.tmp 14) (.tmp 15), none⟩,
            ⟨none, .store 1 (.tmp 21) (.tmp 20), none⟩] [0, 3, 4] [])) <|
       .region [⟨some 12, .mv (.tmp 4), none⟩,
         ⟨some 13, .bin .add (.tmp 12) (.const (.int .i64 (1))), none⟩,
         ⟨some 4, .mv (.tmp 13), none⟩] [0, 3, 4] []))) <|
  .seq (.region [⟨some 22, .mv (.tmp 3), none⟩,
     ⟨some 2, .mv (.tmp 22), none⟩] [2] []) <|
  .ret
theorem Cd.laws_toCardSS_rs : Tryz.f27.results.toList = [.tmp 2] := rfl
theorem Cd.laws_toCardSS_nt : Tryz.f27.ntmps = 23 := rfl
theorem Cd.laws_toCardSS_ok : CodeIsR Tryz.prog 27 Tryz.f27 Cd.laws_toCardSS := ⟨Tryz.func27, by kernel_rfl, by decide +kernel⟩
/-- loop.example/g01012/laws.toTotalSS -/
def Cd.laws_toTotalSS : ACode :=
  .seq (.region [⟨some 2, .mv (.const (.slice none 0 0)), none⟩] [0] []) <|
  .seq (.region [⟨some 5, .mv (.tmp 0), none⟩,
     ⟨some 6, .len (.tmp 5), none⟩,
     ⟨some 7, .mk 1 24 [.v (.slice none 0 0)] (.tmp 6), none⟩,
     ⟨some 3, .mv (.tmp 7), none⟩] [0, 3] []) <|
  .seq (.seq (.region [⟨some 4, .mv (.const (.int .i64 (0))), none⟩] [0, 3, 4] []) <|
   .block 0 (
     .loop (
       .seq (.seq (.region [⟨some 8, .mv (.tmp 4), none⟩,
           ⟨some 9, .mv (.tmp 0), none⟩,
           ⟨some 10, .len (.tmp 9), none⟩,
           ⟨some 11, .bin .lss (.tmp 8) (.tmp 10), none⟩] [0, 3, 4, 11] []) <|
        .cond (.tmp 11)
          (.skip)
          (.exit 0)) <|
       .seq (.block 1 (
          .region [⟨some 14, .mv (.tmp 3), none⟩,
            ⟨some 15, .mv (.tmp 4), none⟩,
            ⟨some 16, .mv (.tmp 0), none⟩,
            ⟨some 17, .mv (.tmp 4), none⟩,
            ⟨some 18, .idxSl 1 (.tmp 16) (.tmp 17), none⟩,
            ⟨some 19, .load false 1 (.tmp 18), none⟩,
            ⟨some 20, .call (.func F.laws_toTotalS) [(.tmp 19)] [], none⟩,
            ⟨some 21, .idxSl 1 (.tmp 14) (.tmp 15), none⟩,
            ⟨none, .store 1 (.tmp 21) (.tmp 20), none⟩] [0, 3, 4] [])) <|
       .region [⟨some 12, .mv (.tmp 4), none⟩,
         ⟨some 13, .bin .add (.tmp 12) (.const (.int .i64 (1))), none⟩,
         ⟨some 4, .mv (.tmp 13), none⟩] [0, 3, 4] []))) <|
  .seq (.region [⟨some 22, .mv (.tmp 3), none⟩,
     ⟨some 2, .mv (.tmp 22), none⟩] [2] []) <|
  .ret
theorem Cd.laws_toTotalSS_rs : Tryz.f28.results.toList = [.tmp 2] := rfl
theorem Cd.laws_toTotalSS_nt : Tryz.f28.ntmps = 23 := rfl
theorem Cd.laws_toTotalSS_ok : CodeIsR Tryz.prog 28 Tryz.f28 Cd.laws_toTotalSS := ⟨Tryz.func28, by kernel_rfl, by decide +kernel⟩
/-- loop.example/g01012/impl.officeCode DRAWS -/
def Cd.impl_officeCode : ACode :=
  .seq (.region [⟨some 3, .box (.tmp 0), none⟩,
     ⟨some 5, .box (.tmp 2), none⟩,
     ⟨some 6, .mv (.const (.int .i64 (0))), none⟩] [1, 3, 5] []) <|
  .seq (.block 0 (
     .seq (.region [⟨some 8, .load true 2 (.tmp 3), none⟩,
        ⟨some 9, .call (.func F.impl_ValidOffice) [(.tmp 8)] [], none⟩,
        ⟨some 10, .un .not (.tmp 9), none⟩,
        ⟨some 7, .mv (.tmp 10), none⟩] [1, 3, 5, 7] []) <|
     .cond (.tmp 7)
       (.seq (.region [⟨some 6, .mv (.const (.int .i64 (1))), none⟩] [6] []) <|
       .ret)
       (.seq (.region [⟨some 12, .load true 2 (.tmp 5), none⟩,
          ⟨some 13, .load true 2 (.tmp 3), none⟩,
          ⟨some 14, .call (.func F.impl_officeColumns) [(.tmp 13)] [], none⟩,
          ⟨some 15, .call (.func F.impl_isNumberField) [(.tmp 12), (.tmp 14)] [], none⟩,
          ⟨some 16, .un .not (.tmp 15), none⟩,
          ⟨some 17, .mv (.tmp 16), none⟩,
          ⟨some 18, .mv (.tmp 1), some (17, false)⟩,
          ⟨some 19, .len (.tmp 18), some (17, false)⟩,
          ⟨some 20, .bin .gtr (.tmp 19) (.const (.int .i64 (20))), some (17, false)⟩,
          ⟨some 21, .pick (.tmp 17) (.const (.bool true)) (.tmp 20), none⟩,
          ⟨some 11, .mv (.tmp 21), none⟩] [11] [12, 13, 14, 15, 16, 17, 18, 19, 20, 21, 11]) <|
       .cond (.tmp 11)
         (.seq (.region [⟨some 6, .mv (.const (.int .i64 (2))), none⟩] [6] []) <|
         .ret)
         (.skip)))) <|
  .seq (.region [⟨some 6, .mv (.const (.int .i64 (0))), none⟩] [6] []) <|
  .ret
theorem Cd.impl_officeCode_rs : Tryz.f29.results.toList = [.tmp 6] := rfl
theorem Cd.impl_officeCode_nt : Tryz.f29.ntmps = 22 := rfl
theorem Cd.impl_officeCode_ok : CodeIsR Tryz.prog 29 Tryz.f29 Cd.impl_officeCode := ⟨Tryz.func29, by kernel_rfl, by decide +kernel⟩
/-- loop.example/g01012/impl.ValidStep -/
def Cd.impl_ValidStep : ACode :=
  .seq (.region [⟨some 2, .box (.tmp 0), none⟩,
     ⟨some 4, .mv (.const (.bool false)), none⟩] [1, 2] []) <|
  .seq (.block 0 (
     .seq (.region [⟨some 6, .mv (.tmp 1), none⟩,
        ⟨some 7, .call (.func F.impl_inside) [(.tmp 6), (.const (.int .i64 (1))), (.const (.int .i64 (20)))] [], none⟩,
        ⟨some 8, .un .not (.tmp 7), none⟩,
        ⟨some 9, .mv (.tmp 8), none⟩,
        ⟨some 10, .fieldAddr 0 (.tmp 2), some (9, false)⟩,
        ⟨some 11, .load false 1 (.tmp 10), some (9, false)⟩,
        ⟨some 12, .call (.func F.impl_inside) [(.tmp 11), (.const (.int .i64 (1))), (.const (.int .i64 (7)))] [], some (9, false)⟩,
        ⟨some 13, .un .not (.tmp 12), some (9, false)⟩,
        ⟨some 14, .pick (.tmp 9) (.const (.bool true)) (.tmp 13), none⟩,
        ⟨some 15, .mv (.tmp 14), none⟩,
        ⟨some 16, .fieldAddr 1 (.tmp 2), some (15, false)⟩,
        ⟨some 17, .load false 1 (.tmp 16), some (15, false)⟩,
        ⟨some 18, .call (.func F.impl_isTray) [(.tmp 17)] [], some (15, false)⟩,
        ⟨some 19, .un .not (.tmp 18), some (15, false)⟩,
        ⟨some 20, .pick (.tmp 15) (.const (.bool true)) (.tmp 19), none⟩,
        ⟨some 21, .mv (.tmp 20), none⟩,
        ⟨some 22, .fieldAddr 2 (.tmp 2), some (21, false)⟩,
        ⟨some 23, .load false 1 (.tmp 22), some (21, false)⟩,
        ⟨some 24, .call (.func F.impl_isTray) [(.tmp 23)] [], some (21, false)⟩,
        ⟨some 25, .un .not (.tmp 24), some (21, false)⟩,
        ⟨some 26, .pick (.tmp 21) (.const (.bool true)) (.tmp 25), none⟩,
        ⟨some 27, .mv (.tmp 26), none⟩,
        ⟨some 28, .fieldAddr 3 (.tmp 2), some (27, false)⟩,
        ⟨some 29, .load false 1 (.tmp 28), some (27, false)⟩,
        ⟨some 30, .call (.func F.impl_isTray) [(.tmp 29)] [], some (27, false)⟩,
        ⟨some 31, .un .not (.tmp 30), some (27, false)⟩,
        ⟨some 32, .pick (.tmp 27) (.const (.bool true)) (.tmp 31), none⟩,
        ⟨some 5, .mv (.tmp 32), none⟩] [1, 2, 5] []) <|
     .cond (.tmp 5)
       (.seq (.region [⟨some 4, .mv (.const (.bool false)), none⟩] [4] []) <|
       .ret)
       (.seq (.region [⟨some 34, .fieldAddr 2 (.tmp 2), none⟩,
          ⟨some 35, .load false 1 (.tmp 34), none⟩,
          ⟨some 36, .bin .neq (.tmp 35) (.const (.int .i64 (0))), none⟩,
          ⟨some 37, .mv (.tmp 36), none⟩,
          ⟨some 38, .fieldAddr 0 (.tmp 2), some (37, true)⟩,
          ⟨some 39, .load false 1 (.tmp 38), some (37, true)⟩,
          ⟨some 40, .call (.func F.impl_takesTwo) [(.tmp 39)] [], some (37, true)⟩,
          ⟨some 41, .un .not (.tmp 40), some (37, true)⟩,
          ⟨some 42, .pick (.tmp 37) (.tmp 41) (.const (.bool false)), none⟩,
          ⟨some 43, .mv (.tmp 42), none⟩,
          ⟨some 44, .fieldAddr 3 (.tmp 2), some (43, false)⟩,
          ⟨some 45, .load false 1 (.tmp 44), some (43, false)⟩,
          ⟨some 46, .bin .neq (.tmp 45) (.const (.int .i64 (0))), some (43, false)⟩,
          ⟨some 47, .mv (.tmp 46), some (43, false)⟩,
          ⟨some 48, .fieldAddr 0 (.tmp 2), some (47, true)⟩,
          ⟨some 49, .load false 1 (.tmp 48), some (47, true)⟩,
          ⟨some 50, .bin .eql (.tmp 49) (.const (.int .i64 (7))), some (47, true)⟩,
          ⟨some 51, .pick (.tmp 47) (.tmp 50) (.const (.bool false)), some (43, false)⟩,
          ⟨some 52, .pick (.tmp 43) (.const (.bool true)) (.tmp 51), none⟩,
          ⟨some 53, .mv (.tmp 52), none⟩,
          ⟨some 54, .fieldAddr 4 (.tmp 2), some (53, false)⟩,
          ⟨some 55, .load true 2 (.tmp 54), some (53, false)⟩,
          ⟨some 56, .mv (.tmp 1), some (53, false)⟩,
          ⟨some 57, .call (.func F.impl_isField) [(.tmp 55), (.tmp 56)] [], some (53, false)⟩,
          ⟨some 58, .un .not (.tmp 57), some (53, false)⟩,
          ⟨some 59, .pick (.tmp 53) (.const (.bool true)) (.tmp 58), none⟩,
          ⟨some 33, .mv (.tmp 59), none⟩] [1, 2, 33] []) <|
       .cond (.tmp 33)
         (.seq (.region [⟨some 4, .mv (.const (.bool false)), none⟩] [4] []) <|
         .ret)
         (.seq (.region [⟨some 61, .fieldAddr 0 (.tmp 2), none⟩,
            ⟨some 62, .load false 1 (.tmp 61), none⟩,
            ⟨some 63, .bin .eql (.tmp 62) (.const (.int .i64 (7))), none⟩,
            ⟨some 64, .mv (.tmp 63), none⟩,
            ⟨some 65, .fieldAddr 6 (.tmp 2), some (64, true)⟩,
            ⟨some 66, .load true 2 (.tmp 65), some (64, true)⟩,
            ⟨some 67, .mv (.tmp 1), some (64, true)⟩,
            ⟨some 68, .call (.func F.impl_isNumberField) [(.tmp 66), (.tmp 67)] [], some (64, true)⟩,
            ⟨some 69, .un .not (.tmp 68), some (64, true)⟩,
            ⟨some 70, .pick (.tmp 64) (.tmp 69) (.const (.bool false)), none⟩,
            ⟨some 71, .mv (.tmp 70), none⟩,
            ⟨some 72, .fieldAddr 0 (.tmp 2), some (71, false)⟩,
            ⟨some 73, .load false 1 (.tmp 72), some (71, false)⟩,
            ⟨some 74, .bin .neq (.tmp 73) (.const (.int .i64 (7))), some (71, false)⟩,
            ⟨some 75, .mv (.tmp 74), some (71, false)⟩,
            ⟨some 76, .fieldAddr 6 (.tmp 2), some (75, true)⟩,
            ⟨some 77, .load true 2 (.tmp 76), some (75, true)⟩,
            ⟨some 78, .build [.v (.int .i64 (0)), .v (.int .i64 (0))] [], some (75, true)⟩,
            ⟨some 79, .eqA true [0, 0] (.tmp 77) (.tmp 78), some (75, true)⟩,
            ⟨some 80, .pick (.tmp 75) (.tmp 79) (.const (.bool false)), some (71, false)⟩,
            ⟨some 81, .pick (.tmp 71) (.const (.bool true)) (.tmp 80), none⟩,
            ⟨some 60, .mv (.tmp 81), none⟩] [2, 60] []) <|
         .cond (.tmp 60)
           (.seq (.region [⟨some 4, .mv (.const (.bool false)), none⟩] [4] []) <|
           .ret)
           (.seq (.region [⟨some 83, .fieldAddr 0 (.tmp 2), none⟩,
              ⟨some 84, .load false 1 (.tmp 83), none⟩,
              ⟨some 85, .bin .eql (.tmp 84) (.const (.int .i64 (5))), none⟩,
              ⟨some 82, .mv (.tmp 85), none⟩] [2, 82] []) <|
           .cond (.tmp 82)
             (.seq (.region [⟨some 86, .fieldAddr 8 (.tmp 2), none⟩,
                ⟨some 87, .load false 1 (.tmp 86), none⟩,
                ⟨some 88, .call (.func F.impl_areCharacters) [(.tmp 87)] [], none⟩,
                ⟨some 89, .mv (.tmp 88), none⟩,
                ⟨some 90, .fieldAddr 8 (.tmp 2), some (89, true)⟩,
                ⟨some 91, .load false 1 (.tmp 90), some (89, true)⟩,
                ⟨some 92, .lenS (.tmp 91), some (89, true)⟩,
                ⟨some 93, .fieldAddr 4 (.tmp 2), some (89, true)⟩,
                ⟨some 94, .fieldAddr 1 (.tmp 93), some (89, true)⟩,
                ⟨some 95, .load false 1 (.tmp 94), some (89, true)⟩,
                ⟨some 96, .fieldAddr 4 (.tmp 2), some (89, true)⟩,
                ⟨some 97, .fieldAddr 0 (.tmp 96), some (89, true)⟩,
                ⟨some 98, .load false 1 (.tmp 97), some (89, true)⟩,
                ⟨some 99, .bin .sub (.tmp 95) (.tmp 98), some (89, true)⟩,
                ⟨some 100, .bin .eql (.tmp 92) (.tmp 99), some (89, true)⟩,
                ⟨some 101, .pick (.tmp 89) (.tmp 100) (.const (.bool false)), none⟩,
                ⟨some 4, .mv (.tmp 101), none⟩] [4] []) <|
             .ret)
             (.skip)))))) <|
  .seq (.region [⟨some 102, .fieldAddr 8 (.tmp 2), none⟩,
     ⟨some 103, .load false 1 (.tmp 102), none⟩,
     ⟨some 104, .binS .eql (.tmp 103) (.const (.string ⟨#[]⟩)), none⟩,
     ⟨some 4, .mv (.tmp 104), none⟩] [4] []) <|
  .ret
theorem Cd.impl_ValidStep_rs : Tryz.f30.results.toList = [.tmp 4] := rfl
theorem Cd.impl_ValidStep_nt : Tryz.f30.ntmps = 105 := rfl
theorem Cd.impl_ValidStep_ok : CodeIsR Tryz.prog 30 Tryz.f30 Cd.impl_ValidStep := ⟨Tryz.func30, by kernel_rfl, by decide +kernel⟩
/-- loop.example/g01012/impl.officeColumns -/
def Cd.impl_officeColumns : ACode :=
  .seq (.region [⟨some 1, .box (.tmp 0), none⟩,
     ⟨some 2, .mv (.const (.int .i64 (0))), none⟩] [1] []) <|
  .seq (.seq (.region [⟨some 5, .fieldAddr 0 (.tmp 1), none⟩,
      ⟨some 6, .load false 1 (.tmp 5), none⟩,
      ⟨some 7, .len (.tmp 6), none⟩,
      ⟨some 8, .mv (.const (.int .i64 (0))), none⟩] [6, 7, 8] []) <|
   .block 0 (
     .loop (
       .seq (.region [⟨some 9, .bin .lss (.tmp 8) (.tmp 7), none⟩] [6, 7, 8, 9] []) <|
       .seq (.cond (.tmp 9)
          (.skip)
          (.exit 0)) <|
       .seq (.block 1 (
          .seq (.region [⟨some 10, .idxSl 1 (.tmp 6) (.tmp 8), none⟩,
             ⟨some 11, .load false 1 (.tmp 10), none⟩,
             ⟨some 4, .mv (.tmp 11), none⟩] [4, 6, 7, 8] []) <|
          .seq (.region [⟨some 12, .mv (.tmp 4), none⟩,
             ⟨some 13, .len (.tmp 12), none⟩,
             ⟨some 14, .bin .gtr (.tmp 13) (.const (.int .i64 (0))), none⟩] [4, 6, 7, 8, 14] []) <|
          .cond (.tmp 14)
            (.seq (.region [⟨some 15, .mv (.tmp 4), none⟩,
               ⟨some 16, .idxSl 1 (.tmp 15) (.const (.int .i64 (0))), none⟩,
               ⟨some 17, .load true 1 (.tmp 16), none⟩,
               ⟨some 18, .call (.func F._impl_Card__columns) [(.tmp 17)] [], none⟩,
               ⟨some 2, .mv (.tmp 18), none⟩] [2] []) <|
            .ret)
            (.skip))) <|
       .region [⟨some 19, .bin .add (.tmp 8) (.const (.int .i64 (1))), none⟩,
         ⟨some 8, .mv (.tmp 19), none⟩] [6, 7, 8] []))) <|
  .seq (.region [⟨some 2, .mv (.const (.int .i64 (20))), none⟩] [2] []) <|
  .ret
theorem Cd.impl_officeColumns_rs : Tryz.f31.results.toList = [.tmp 2] := rfl
theorem Cd.impl_officeColumns_nt : Tryz.f31.ntmps = 20 := rfl
theorem Cd.impl_officeColumns_ok : CodeIsR Tryz.prog 31 Tryz.f31 Cd.impl_officeColumns := ⟨Tryz.func31, by kernel_rfl, by decide +kernel⟩
/-- loop.example/g01012/impl.KeepsControl -/
def Cd.impl_KeepsControl : ACode :=
  .seq (.region [⟨some 2, .mv (.const (.bool false)), none⟩] [0] []) <|
  .seq (.region [⟨some 3, .mv (.tmp 0), none⟩,
     ⟨some 4, .bin .eql (.tmp 3) (.const (.int .i64 (1))), none⟩,
     ⟨some 5, .mv (.tmp 4), none⟩,
     ⟨some 6, .mv (.tmp 0), some (5, false)⟩,
     ⟨some 7, .bin .eql (.tmp 6) (.const (.int .i64 (2))), some (5, false)⟩,
     ⟨some 8, .pick (.tmp 5) (.const (.bool true)) (.tmp 7), none⟩,
     ⟨some 2, .mv (.tmp 8), none⟩] [2] []) <|
  .ret
theorem Cd.impl_KeepsControl_rs : Tryz.f32.results.toList = [.tmp 2] := rfl
theorem Cd.impl_KeepsControl_nt : Tryz.f32.ntmps = 9 := rfl
theorem Cd.impl_KeepsControl_ok : CodeIsR Tryz.prog 32 Tryz.f32 Cd.impl_KeepsControl := ⟨Tryz.func32, by kernel_rfl, by decide +kernel⟩
/-- loop.example/g01012/impl.controlOf DRAWS -/
def Cd.impl_controlOf : ACode :=
  .seq (.region [⟨some 3, .box (.tmp 1), none⟩,
     ⟨some 4, .alloc [.v (.int .i64 (0)), .v (.int .i64 (0)), .v (.int .i64 (0))], none⟩,
     ⟨some 5, .mv (.const (.bool false)), none⟩] [0, 3, 4] []) <|
  .seq (.region [⟨some 11, .mv (.tmp 0), none⟩,
     ⟨some 12, .call (.func F.impl_size_impl_Card_) [(.tmp 11)] [], none⟩,
     ⟨some 13, .build [.v (.int .i64 (0)), .v (.int .i64 (0)), .v (.int .i64 (0))] [(0, 1, (.tmp 12))], none⟩,
     ⟨some 6, .alloc [.v (.int .i64 (0)), .v (.int .i64 (0)), .v (.int .i64 (0))], none⟩,
     ⟨none, .store 3 (.tmp 6) (.tmp 13), none⟩] [0, 3, 4, 6] []) <|
  .seq (.seq (.region [⟨some 14, .mv (.tmp 0), none⟩,
      ⟨some 15, .len (.tmp 14), none⟩,
      ⟨some 16, .mv (.const (.int .i64 (0))), none⟩] [3, 4, 6, 14, 15, 16] []) <|
   .block 0 (
     .loop (
       .seq (.region [⟨some 17, .bin .lss (.tmp 16) (.tmp 15), none⟩] [3, 4, 6, 14, 15, 16, 17] []) <|
       .seq (.cond (.tmp 17)
          (.skip)
          (.exit 0)) <|
       .seq (.block 1 (
          .seq (.region [⟨some 18, .idxSl 1 (.tmp 14) (.tmp 16), none⟩,
             ⟨some 19, .load true 1 (.tmp 18), none⟩,
             ⟨some 8, .alloc [.v (.slice none 0 0)], none⟩,
             ⟨none, .store 1 (.tmp 8) (.tmp 19), none⟩] [3, 4, 6, 8, 14, 15, 16] []) <|
          .seq (.region [⟨some 21, .load true 1 (.tmp 8), none⟩,
             ⟨some 22, .load true 2 (.tmp 3), none⟩,
             ⟨some 23, .call (.func F.impl_numberIn) [(.tmp 21), (.tmp 22)] [], none⟩,
             ⟨some 20, .mv (.tmp 23), none⟩,
             ⟨some 24, .extract (.tmp 20) 0, none⟩,
             ⟨some 25, .extract (.tmp 20) 1, none⟩,
             ⟨some 9, .mv (.tmp 24), none⟩,
             ⟨some 10, .mv (.tmp 25), none⟩] [3, 4, 6, 9, 10, 14, 15, 16] []) <|
          .seq (.seq (.region [⟨some 26, .mv (.tmp 10), none⟩,
              ⟨some 27, .un .not (.tmp 26), none⟩] [3, 4, 6, 9, 14, 15, 16, 27] []) <|
           .cond (.tmp 27)
             (.seq (.region [⟨some 28, .build [.v (.int .i64 (0)), .v (.int .i64 (0)), .v (.int .i64 (0))] [], none⟩,
                ⟨none, .store 3 (.tmp 4) (.tmp 28), none⟩,
                ⟨some 5, .mv (.const (.bool false)), none⟩] [4, 5] []) <|
             .ret)
             (.skip)) <|
          .seq (.region [⟨some 29, .fieldAddr 1 (.tmp 6), none⟩,
             ⟨some 30, .load false 1 (.tmp 29), none⟩,
             ⟨some 31, .mv (.tmp 9), none⟩,
             ⟨some 32, .bin .add (.tmp 30) (.tmp 31), none⟩,
             ⟨some 33, .fieldAddr 1 (.tmp 6), none⟩,
             ⟨none, .store 1 (.tmp 33) (.tmp 32), none⟩] [3, 4, 6, 9, 14, 15, 16] []) <|
          .region [⟨some 34, .fieldAddr 2 (.tmp 6), none⟩,
            ⟨some 35, .load false 1 (.tmp 34), none⟩,
            ⟨some 36, .mv (.tmp 9), none⟩,
            ⟨some 37, .call (.func F.impl_digitSum) [(.tmp 36)] [], none⟩,
            ⟨some 38, .bin .add (.tmp 35) (.tmp 37), none⟩,
            ⟨some 39, .fieldAddr 2 (.tmp 6), none⟩,
            ⟨none, .store 1 (.tmp 39) (.tmp 38), none⟩] [3, 4, 6, 14, 15, 16] [34, 36, 35, 37, 38])) <|
       .region [⟨some 40, .bin .add (.tmp 16) (.const (.int .i64 (1))), none⟩,
         ⟨some 16, .mv (.tmp 40), none⟩] [3, 4, 6, 14, 15, 16] []))) <|
  .seq (.region [⟨some 41, .load true 3 (.tmp 6), none⟩,
     ⟨none, .store 3 (.tmp 4) (.tmp 41), none⟩,
     ⟨some 5, .mv (.const (.bool true)), none⟩] [4, 5] []) <|
  .ret
theorem Cd.impl_controlOf_rs : Tryz.f33.results.toList = [.cell 4 33, .tmp 5] := rfl
theorem Cd.impl_controlOf_nt : Tryz.f33.ntmps = 42 := rfl
theorem Cd.impl_controlOf_ok : CodeIsR Tryz.prog 33 Tryz.f33 Cd.impl_controlOf := ⟨Tryz.func33, by kernel_rfl, by decide +kernel⟩
/-- (loop.example/g01012/impl.Control).plus -/
def Cd._impl_Control__plus : ACode :=
  .seq (.region [⟨some 3, .box (.tmp 0), none⟩,
     ⟨some 4, .box (.tmp 1), none⟩,
     ⟨some 6, .alloc [.v (.int .i64 (0)), .v (.int .i64 (0)), .v (.int .i64 (0))], none⟩] [2, 3, 4, 6] []) <|
  .seq (.region [⟨some 7, .fieldAddr 0 (.tmp 3), none⟩,
     ⟨some 8, .load false 1 (.tmp 7), none⟩,
     ⟨some 9, .mv (.tmp 2), none⟩,
     ⟨some 10, .fieldAddr 0 (.tmp 4), none⟩,
     ⟨some 11, .load false 1 (.tmp 10), none⟩,
     ⟨some 12, .bin .mul (.tmp 9) (.tmp 11), none⟩,
     ⟨some 13, .bin .add (.tmp 8) (.tmp 12), none⟩,
     ⟨some 14, .fieldAddr 1 (.tmp 3), none⟩,
     ⟨some 15, .load false 1 (.tmp 14), none⟩,
     ⟨some 16, .mv (.tmp 2), none⟩,
     ⟨some 17, .fieldAddr 1 (.tmp 4), none⟩,
     ⟨some 18, .load false 1 (.tmp 17), none⟩,
     ⟨some 19, .bin .mul (.tmp 16) (.tmp 18), none⟩,
     ⟨some 20, .bin .add (.tmp 15) (.tmp 19), none⟩,
     ⟨some 21, .fieldAddr 2 (.tmp 3), none⟩,
     ⟨some 22, .load false 1 (.tmp 21), none⟩,
     ⟨some 23, .mv (.tmp 2), none⟩,
     ⟨some 24, .fieldAddr 2 (.tmp 4), none⟩,
     ⟨some 25, .load false 1 (.tmp 24), none⟩,
     ⟨some 26, .bin .mul (.tmp 23) (.tmp 25), none⟩,
     ⟨some 27, .bin .add (.tmp 22) (.tmp 26), none⟩,
     ⟨some 28, .build [.v (.int .i64 (0)), .v (.int .i64 (0)), .v (.int .i64 (0))] [(0, 1, (.tmp 13)), (1, 1, (.tmp 20)), (2, 1, (.tmp 27))], none⟩,
     ⟨none, .store 3 (.tmp 6) (.tmp 28), none⟩] [6] []) <|
  .ret
theorem Cd._impl_Control__plus_rs : Tryz.f34.results.toList = [.cell 6 33] := rfl
theorem Cd._impl_Control__plus_nt : Tryz.f34.ntmps = 29 := rfl
theorem Cd._impl_Control__plus_ok : CodeIsR Tryz.prog 34 Tryz.f34 Cd._impl_Control__plus := ⟨Tryz.func34, by kernel_rfl, by decide +kernel⟩
/-- loop.example/g01012/laws.eqCardSS DRAWS -/
def Cd.laws_eqCardSS : ACode :=
  .seq (.region [⟨some 4, .mv (.const (.bool false)), none⟩] [0, 1] []) <|
  .seq (.seq (.region [⟨some 6, .mv (.tmp 0), none⟩,
      ⟨some 7, .len (.tmp 6), none⟩,
      ⟨some 8, .mv (.tmp 1), none⟩,
      ⟨some 9, .len (.tmp 8), none⟩,
      ⟨some 10, .bin .neq (.tmp 7) (.tmp 9), none⟩] [0, 1, 10] []) <|
   .cond (.tmp 10)
     (.seq (.region [⟨some 4, .mv (.const (.bool false)), none⟩] [4] []) <|
     .ret)
     (.skip)) <|
  .seq (.seq (.region [⟨some 5, .mv (.const (.int .i64 (0))), none⟩] [0, 1, 5] []) <|
   .block 0 (
     .loop (
       .seq (.seq (.region [⟨some 11, .mv (.tmp 5), none⟩,
           ⟨some 12, .mv (.tmp 0), none⟩,
           ⟨some 13, .len (.tmp 12), none⟩,
           ⟨some 14, .bin .lss (.tmp 11) (.tmp 13), none⟩] [0, 1, 5, 14] []) <|
        .cond (.tmp 14)
          (.skip)
          (.exit 0)) <|
       .seq (.block 1 (
          .seq (.region [⟨some 17, .mv (.tmp 0), none⟩,
             ⟨some 18, .mv (.tmp 5), none⟩,
             ⟨some 19, .idxSl 1 (.tmp 17) (.tmp 18), none⟩,
             ⟨some 20, .load false 1 (.tmp 19), none⟩,
             ⟨some 21, .mv (.tmp 1), none⟩,
             ⟨some 22, .mv (.tmp 5), none⟩,
             ⟨some 23, .idxSl 1 (.tmp 21) (.tmp 22), none⟩,
             ⟨some 24, .load false 1 (.tmp 23), none⟩,
             ⟨some 25, .call (.func F.laws_eqCardS) [(.tmp 20), (.tmp 24)] [], none⟩,
             ⟨some 26, .un .not (.tmp 25), none⟩] [0, 1, 5, 26] [17, 18, 20, 21, 19, 22, 23, 24, 25, 26]) <|
          .cond (.tmp 26)
            (.seq (.region [⟨some 4, .mv (.const (.bool false)), none⟩] [4] []) <|
            .ret)
            (.skip))) <|
       .region [⟨some 15, .mv (.tmp 5), none⟩,
         ⟨some 16, .bin .add (.tmp 15) (.const (.int .i64 (1))), none⟩,
         ⟨some 5, .mv (.tmp 16), none⟩] [0, 1, 5] []))) <|
  .seq (.region [⟨some 4, .mv (.const (.bool true)), none⟩] [4] []) <|
  .ret
theorem Cd.laws_eqCardSS_rs : Tryz.f35.results.toList = [.tmp 4] := rfl
theorem Cd.laws_eqCardSS_nt : Tryz.f35.ntmps = 27 := rfl
theorem Cd.laws_eqCardSS_ok : CodeIsR Tryz.prog 35 Tryz.f35 Cd.laws_eqCardSS := ⟨Tryz.func35, by kernel_rfl, by decide +kernel⟩
/-- loop.example/g01012/laws.eqTotalSS DRAWS -/
def Cd.laws_eqTotalSS : ACode :=
  .seq (.region [⟨some 4, .mv (.const (.bool false)), none⟩] [0, 1] []) <|
  .seq (.seq (.region [⟨some 6, .mv (.tmp 0), none⟩,
      ⟨some 7, .len (.tmp 6), none⟩,
      ⟨some 8, .mv (.tmp 1), none⟩,
      ⟨some 9, .len (.tmp 8), none⟩,
      ⟨some 10, .bin .neq (.tmp 7) (.tmp 9), none⟩] [0, 1, 10] []) <|
   .cond (.tmp 10)
     (.seq (.region [⟨some 4, .mv (.const (.bool false)), none⟩] [4] []) <|
     .ret)
     (.skip)) <|
  .seq (.seq (.region [⟨some 5, .mv (.const (.int .i64 (0))), none⟩] [0, 1, 5] []) <|
   .block 0 (
     .loop (
       .seq (.seq (.region [⟨some 11, .mv (.tmp 5), none⟩,
           ⟨some 12, .mv (.tmp 0), none⟩,
           ⟨some 13, .len (.tmp 12), none⟩,
           ⟨some 14, .bin .lss (.tmp 11) (.tmp 13), none⟩] [0, 1, 5, 14] []) <|
        .cond (.tmp 14)
          (.skip)
          (.exit 0)) <|
       .seq (.block 1 (
          .seq (.region [⟨some 17, .mv (.tmp 0), none⟩,
             ⟨some 18, .mv (.tmp 5), none⟩,
             ⟨some 19, .idxSl 1 (.tmp 17) (.tmp 18), none⟩,
             ⟨some 20, .load false 1 (.tmp 19), none⟩,
             ⟨some 21, .mv (.tmp 1), none⟩,
             ⟨some 22, .mv (.tmp 5), none⟩,
             ⟨some 23, .idxSl 1 (.tmp 21) (.tmp 22), none⟩,
             ⟨some 24, .load false 1 (.tmp 23), none⟩,
             ⟨some 25, .call (.func F.laws_eqTotalS) [(.tmp 20), (.tmp 24)] [], none⟩,
             ⟨some 26, .un .not (.tmp 25), none⟩] [0, 1, 5, 26] [17, 18, 20, 21, 19, 22, 23, 24, 25, 26]) <|
          .cond (.tmp 26)
            (.seq (.region [⟨some 4, .mv (.const (.bool false)), none⟩] [4] []) <|
            .ret)
            (.skip))) <|
       .region [⟨some 15, .mv (.tmp 5), none⟩,
         ⟨some 16, .bin .add (.tmp 15) (.const (.int .i64 (1))), none⟩,
         ⟨some 5, .mv (.tmp 16), none⟩] [0, 1, 5] []))) <|
  .seq (.region [⟨some 4, .mv (.const (.bool true)), none⟩] [4] []) <|
  .ret
theorem Cd.laws_eqTotalSS_rs : Tryz.f36.results.toList = [.tmp 4] := rfl
theorem Cd.laws_eqTotalSS_nt : Tryz.f36.ntmps = 27 := rfl
theorem Cd.laws_eqTotalSS_ok : CodeIsR Tryz.prog 36 Tryz.f36 Cd.laws_eqTotalSS := ⟨Tryz.func36, by kernel_rfl, by decide +kernel⟩
/-- loop.example/g01012/laws.szCard -/
def Cd.laws_szCard : ACode :=
  .seq (.region [⟨some 2, .box (.tmp 0), none⟩,
     ⟨some 4, .mv (.const (.int .i64 (0))), none⟩] [1, 2] []) <|
  .seq (.region [⟨some 5, .fieldAddr 0 (.tmp 2), none⟩,
     ⟨some 6, .load false 1 (.tmp 5), none⟩,
     ⟨some 7, .mv (.tmp 1), none⟩,
     ⟨some 8, .call (.func F.laws_szInt64S) [(.tmp 6), (.tmp 7)] [], none⟩,
     ⟨some 1, .mv (.tmp 8), none⟩] [1] []) <|
  .seq (.seq (.region [⟨some 9, .mv (.tmp 1), none⟩,
      ⟨some 10, .bin .lss (.tmp 9) (.const (.int .i64 (0))), none⟩] [1, 10] []) <|
   .cond (.tmp 10)
     (.seq (.region [⟨some 4, .mv (.const (.int .i64 (-1))), none⟩] [4] []) <|
     .ret)
     (.skip)) <|
  .seq (.region [⟨some 11, .mv (.tmp 1), none⟩,
     ⟨some 4, .mv (.tmp 11), none⟩] [4] []) <|
  .ret
theorem Cd.laws_szCard_rs : Tryz.f37.results.toList = [.tmp 4] := rfl
theorem Cd.laws_szCard_nt : Tryz.f37.ntmps = 12 := rfl
theorem Cd.laws_szCard_ok : CodeIsR Tryz.prog 37 Tryz.f37 Cd.laws_szCard := ⟨Tryz.func37, by kernel_rfl, by decide +kernel⟩
/-- loop.example/g01012/spec.l02Deck DRAWS -/
def Cd.spec_l02Deck : ACode :=
  .seq (.region [⟨some 2, .mv (.const (.bool false)), none⟩] [0] []) <|
  .seq (.seq (.region [⟨some 3, .mv (.const (.int .i64 (0))), none⟩] [0, 3] []) <|
   .block 0 (
     .loop (
       .seq (.seq (.region [⟨some 4, .mv (.tmp 3), none⟩,
           ⟨some 5, .mv (.tmp 0), none⟩,
           ⟨some 6, .len (.tmp 5), none⟩,
           ⟨some 7, .bin .lss (.tmp 4) (.tmp 6), none⟩] [0, 3, 7] []) <|
        .cond (.tmp 7)
          (.skip)
          (.exit 0)) <|
       .seq (.block 1 (
          .seq (.region [⟨some 10, .mv (.tmp 0), none⟩,
             ⟨some 11, .mv (.tmp 3), none⟩,
             ⟨some 12, .idxSl 1 (.tmp 10) (.tmp 11), none⟩,
             ⟨some 13, .call (.func F.spec_l02Ok) [(.tmp 12)] [], none⟩,
             ⟨some 14, .un .not (.tmp 13), none⟩,
             ⟨some 15, .mv (.tmp 14), none⟩,
             ⟨some 16, .mv (.tmp 0), some (15, false)⟩,
             ⟨some 17, .mv (.tmp 3), some (15, false)⟩,
             ⟨some 18, .idxSl 1 (.tmp 16) (.tmp 17), some (15, false)⟩,
             ⟨some 19, .fieldAddr 0 (.tmp 18), some (15, false)⟩,
             ⟨some 20, .load false 1 (.tmp 19), some (15, false)⟩,
             ⟨some 21, .len (.tmp 20), some (15, false)⟩,
             ⟨some 22, .mv (.tmp 0), some (15, false)⟩,
             ⟨some 23, .idxSl 1 (.tmp 22) (.const (.int .i64 (0))), some (15, false)⟩,
             ⟨some 24, .fieldAddr 0 (.tmp 23), some (15, false)⟩,
             ⟨some 25, .load false 1 (.tmp 24), some (15, false)⟩,
             ⟨some 26, .len (.tmp 25), some (15, false)⟩,
             ⟨some 27, .bin .neq (.tmp 21) (.tmp 26), some (15, false)⟩,
             ⟨some 28, .pick (.tmp 15) (.const (.bool true)) (.tmp 27), none⟩] [0, 3, 28] [10, 11, 13, 14, 12, 15, 16, 17, 18, 19, 20, 21, 22, 23, 24, 25, 26, 27, 28]) <|
          .cond (.tmp 28)
            (.seq (.region [⟨some 2, .mv (.const (.bool false)), none⟩] [2] []) <|
            .ret)
            (.skip))) <|
       .region [⟨some 8, .mv (.tmp 3), none⟩,
         ⟨some 9, .bin .add (.tmp 8) (.const (.int .i64 (1))), none⟩,
         ⟨some 3, .mv (.tmp 9), none⟩] [0, 3] []))) <|
  .seq (.region [⟨some 29, .mv (.tmp 0), none⟩,
     ⟨some 30, .len (.tmp 29), none⟩,
     ⟨some 31, .bin .leq (.tmp 30) (.const (.int .i64 (40))), none⟩,
     ⟨some 2, .mv (.tmp 31), none⟩] [2] []) <|
  .ret
theorem Cd.spec_l02Deck_rs : Tryz.f38.results.toList = [.tmp 2] := rfl
theorem Cd.spec_l02Deck_nt : Tryz.f38.ntmps = 32 := rfl
theorem Cd.spec_l02Deck_ok : CodeIsR Tryz.prog 38 Tryz.f38 Cd.spec_l02Deck := ⟨Tryz.func38, by kernel_rfl, by decide +kernel⟩
/-- loop.example/g01012/spec.l18Field -/
def Cd.spec_l18Field : ACode :=
  .seq (.region [⟨some 2, .box (.tmp 0), none⟩,
     ⟨some 4, .mv (.const (.bool false)), none⟩] [1, 2] []) <|
  .seq (.region [⟨some 5, .load true 2 (.tmp 2), none⟩,
     ⟨some 6, .mv (.tmp 1), none⟩,
     ⟨some 7, .call (.func F.spec_l02Field) [(.tmp 5), (.tmp 6)] [], none⟩,
     ⟨some 8, .mv (.tmp 7), none⟩,
     ⟨some 9, .fieldAddr 1 (.tmp 2), some (8, true)⟩,
     ⟨some 10, .load false 1 (.tmp 9), some (8, true)⟩,
     ⟨some 11, .fieldAddr 0 (.tmp 2), some (8, true)⟩,
     ⟨some 12, .load false 1 (.tmp 11), some (8, true)⟩,
     ⟨some 13, .bin .sub (.tmp 10) (.tmp 12), some (8, true)⟩,
     ⟨some 14, .bin .leq (.tmp 13) (.const (.int .i64 (12))), some (8, true)⟩,
     ⟨some 15, .pick (.tmp 8) (.tmp 14) (.const (.bool false)), none⟩,
     ⟨some 4, .mv (.tmp 15), none⟩] [4] []) <|
  .ret
theorem Cd.spec_l18Field_rs : Tryz.f39.results.toList = [.tmp 4] := rfl
theorem Cd.spec_l18Field_nt : Tryz.f39.ntmps = 16 := rfl
theorem Cd.spec_l18Field_ok : CodeIsR Tryz.prog 39 Tryz.f39 Cd.spec_l18Field := ⟨Tryz.func39, by kernel_rfl, by decide +kernel⟩
/-- loop.example/g01012/spec.l07Width -/
def Cd.spec_l07Width : ACode :=
  .seq (.region [⟨some 2, .mv (.const (.int .i64 (0))), none⟩] [0] []) <|
  .seq (.seq (.region [⟨some 3, .mv (.tmp 0), none⟩,
      ⟨some 4, .len (.tmp 3), none⟩,
      ⟨some 5, .bin .eql (.tmp 4) (.const (.int .i64 (0))), none⟩] [0, 5] []) <|
   .cond (.tmp 5)
     (.seq (.region [⟨some 2, .mv (.const (.int .i64 (20))), none⟩] [2] []) <|
     .ret)
     (.skip)) <|
  .seq (.region [⟨some 6, .mv (.tmp 0), none⟩,
     ⟨some 7, .idxSl 1 (.tmp 6) (.const (.int .i64 (0))), none⟩,
     ⟨some 8, .fieldAddr 0 (.tmp 7), none⟩,
     ⟨some 9, .load false 1 (.tmp 8), none⟩,
     ⟨some 10, .len (.tmp 9), none⟩,
     ⟨some 2, .mv (.tmp 10), none⟩] [2] []) <|
  .ret
theorem Cd.spec_l07Width_rs : Tryz.f40.results.toList = [.tmp 2] := rfl
theorem Cd.spec_l07Width_nt : Tryz.f40.ntmps = 11 := rfl
theorem Cd.spec_l07Width_ok : CodeIsR Tryz.prog 40 Tryz.f40 Cd.spec_l07Width := ⟨Tryz.func40, by kernel_rfl, by decide +kernel⟩
/-- loop.example/g01012/laws.toCard -/
def Cd.laws_toCard : ACode :=
  .seq (.region [⟨some 1, .box (.tmp 0), none⟩,
     ⟨some 2, .alloc [.v (.slice none 0 0)], none⟩] [1, 2] []) <|
  .seq (.region [⟨some 3, .alloc [.v (.slice none 0 0)], none⟩] [1, 2, 3] []) <|
  .seq (.region [⟨some 4, .fieldAddr 0 (.tmp 1), none⟩,
     ⟨some 5, .load false 1 (.tmp 4), none⟩,
     ⟨some 6, .call (.func F.laws_toInt64S) [(.tmp 5)] [], none⟩,
     ⟨some 7, .fieldAddr 0 (.tmp 3), none⟩,
     ⟨none, .store 1 (.tmp 7) (.tmp 6), none⟩] [2, 3] []) <|
  .seq (.region [⟨some 8, .load true 1 (.tmp 3), none⟩,
     ⟨none, .store 1 (.tmp 2) (.tmp 8), none⟩] [2] []) <|
  .ret
theorem Cd.laws_toCard_rs : Tryz.f42.results.toList = [.cell 2 85] := rfl
theorem Cd.laws_toCard_nt : Tryz.f42.ntmps = 9 := rfl
theorem Cd.laws_toCard_ok : CodeIsR Tryz.prog 42 Tryz.f42 Cd.laws_toCard := ⟨Tryz.func42, by kernel_rfl, by decide +kernel⟩
/-- loop.example/g01012/impl.ValidDeck DRAWS -/
def Cd.impl_ValidDeck : ACode :=
  .seq (.region [⟨some 2, .mv (.const (.bool false)), none⟩] [0] []) <|
  .seq (.seq (.region [⟨some 5, .mv (.tmp 0), none⟩,
      ⟨some 6, .len (.tmp 5), none⟩,
      ⟨some 7, .mv (.const (.int .i64 (0))), none⟩] [0, 5, 6, 7] []) <|
   .block 0 (
     .loop (
       .seq (.region [⟨some 8, .bin .lss (.tmp 7) (.tmp 6), none⟩] [0, 5, 6, 7, 8] []) <|
       .seq (.cond (.tmp 8)
          (.skip)
          (.exit 0)) <|
       .seq (.block 1 (
          .seq (.region [⟨some 9, .idxSl 1 (.tmp 5) (.tmp 7), none⟩,
             ⟨some 10, .load true 1 (.tmp 9), none⟩,
             ⟨some 4, .alloc [.v (.slice none 0 0)], none⟩,
             ⟨none, .store 1 (.tmp 4) (.tmp 10), none⟩] [0, 4, 5, 6, 7] []) <|
          .seq (.region [⟨some 11, .load true 1 (.tmp 4), none⟩,
             ⟨some 12, .call (.func F.impl_ValidCard) [(.tmp 11)] [], none⟩,
             ⟨some 13, .un .not (.tmp 12), none⟩,
             ⟨some 14, .mv (.tmp 13), none⟩,
             ⟨some 15, .load true 1 (.tmp 4), some (14, false)⟩,
             ⟨some 16, .call (.func F._impl_Card__columns) [(.tmp 15)] [], some (14, false)⟩,
             ⟨some 17, .mv (.tmp 0), some (14, false)⟩,
             ⟨some 18, .idxSl 1 (.tmp 17) (.const (.int .i64 (0))), some (14, false)⟩,
             ⟨some 19, .load true 1 (.tmp 18), some (14, false)⟩,
             ⟨some 20, .call (.func F._impl_Card__columns) [(.tmp 19)] [], some (14, false)⟩,
             ⟨some 21, .bin .neq (.tmp 16) (.tmp 20), some (14, false)⟩,
             ⟨some 22, .pick (.tmp 14) (.const (.bool true)) (.tmp 21), none⟩] [0, 5, 6, 7, 22] [11, 13, 14, 15, 12, 16, 17, 18, 19, 20, 21, 22]) <|
          .cond (.tmp 22)
            (.seq (.region [⟨some 2, .mv (.const (.bool false)), none⟩] [2] []) <|
            .ret)
            (.skip))) <|
       .region [⟨some 23, .bin .add (.tmp 7) (.const (.int .i64 (1))), none⟩,
         ⟨some 7, .mv (.tmp 23), none⟩] [0, 5, 6, 7] []))) <|
  .seq (.region [⟨some 24, .mv (.tmp 0), none⟩,
     ⟨some 25, .len (.tmp 24), none⟩,
     ⟨some 26, .bin .leq (.tmp 25) (.const (.int .i64 (40))), none⟩,
     ⟨some 2, .mv (.tmp 26), none⟩] [2] []) <|
  .ret
theorem Cd.impl_ValidDeck_rs : Tryz.f43.results.toList = [.tmp 2] := rfl
theorem Cd.impl_ValidDeck_nt : Tryz.f43.ntmps = 27 := rfl
theorem Cd.impl_ValidDeck_ok : CodeIsR Tryz.prog 43 Tryz.f43 Cd.impl_ValidDeck := ⟨Tryz.func43, by kernel_rfl, by decide +kernel⟩
/-- loop.example/g01012/impl.isNumberField -/
def Cd.impl_isNumberField : ACode :=
  .seq (.region [⟨some 2, .box (.tmp 0), none⟩,
     ⟨some 4, .mv (.const (.bool false)), none⟩] [1, 2] []) <|
  .seq (.region [⟨some 5, .load true 2 (.tmp 2), none⟩,
     ⟨some 6, .mv (.tmp 1), none⟩,
     ⟨some 7, .call (.func F.impl_isField) [(.tmp 5), (.tmp 6)] [], none⟩,
     ⟨some 8, .mv (.tmp 7), none⟩,
     ⟨some 9, .fieldAddr 1 (.tmp 2), some (8, true)⟩,
     ⟨some 10, .load false 1 (.tmp 9), some (8, true)⟩,
     ⟨some 11, .fieldAddr 0 (.tmp 2), some (8, true)⟩,
     ⟨some 12, .load false 1 (.tmp 11), some (8, true)⟩,
     ⟨some 13, .bin .sub (.tmp 10) (.tmp 12), some (8, true)⟩,
     ⟨some 14, .bin .leq (.tmp 13) (.const (.int .i64 (12))), some (8, true)⟩,
     ⟨some 15, .pick (.tmp 8) (.tmp 14) (.const (.bool false)), none⟩,
     ⟨some 4, .mv (.tmp 15), none⟩] [4] []) <|
  .ret
theorem Cd.impl_isNumberField_rs : Tryz.f44.results.toList = [.tmp 4] := rfl
theorem Cd.impl_isNumberField_nt : Tryz.f44.ntmps = 16 := rfl
theorem Cd.impl_isNumberField_ok : CodeIsR Tryz.prog 44 Tryz.f44 Cd.impl_isNumberField := ⟨Tryz.func44, by kernel_rfl, by decide +kernel⟩
/-- loop.example/g01012/impl.deckColumns -/
def Cd.impl_deckColumns : ACode :=
  .seq (.region [⟨some 2, .mv (.const (.int .i64 (0))), none⟩] [0] []) <|
  .seq (.seq (.region [⟨some 3, .mv (.tmp 0), none⟩,
      ⟨some 4, .len (.tmp 3), none⟩,
      ⟨some 5, .bin .eql (.tmp 4) (.const (.int .i64 (0))), none⟩] [0, 5] []) <|
   .cond (.tmp 5)
     (.seq (.region [⟨some 2, .mv (.const (.int .i64 (20))), none⟩] [2] []) <|
     .ret)
     (.skip)) <|
  .seq (.region [⟨some 6, .mv (.tmp 0), none⟩,
     ⟨some 7, .idxSl 1 (.tmp 6) (.const (.int .i64 (0))), none⟩,
     ⟨some 8, .load true 1 (.tmp 7), none⟩,
     ⟨some 9, .call (.func F._impl_Card__columns) [(.tmp 8)] [], none⟩,
     ⟨some 2, .mv (.tmp 9), none⟩] [2] []) <|
  .ret
theorem Cd.impl_deckColumns_rs : Tryz.f45.results.toList = [.tmp 2] := rfl
theorem Cd.impl_deckColumns_nt : Tryz.f45.ntmps = 10 := rfl
theorem Cd.impl_deckColumns_ok : CodeIsR Tryz.prog 45 Tryz.f45 Cd.impl_deckColumns := ⟨Tryz.func45, by kernel_rfl, by decide +kernel⟩
/-- loop.example/g01012/laws.eqCard -/
def Cd.laws_eqCard : ACode :=
  .seq (.region [⟨some 2, .box (.tmp 0), none⟩,
     ⟨some 3, .box (.tmp 1), none⟩,
     ⟨some 4, .mv (.const (.bool false)), none⟩] [2, 3] []) <|
  .seq (.seq (.region [⟨some 5, .fieldAddr 0 (.tmp 2), none⟩,
      ⟨some 6, .load false 1 (.tmp 5), none⟩,
      ⟨some 7, .fieldAddr 0 (.tmp 3), none⟩,
      ⟨some 8, .load false 1 (.tmp 7), none⟩,
      ⟨some 9, .call (.func F.laws_eqInt64S) [(.tmp 6), (.tmp 8)] [], none⟩,
      ⟨some 10, .un .not (.tmp 9), none⟩] [10] []) <|
   .cond (.tmp 10)
     (.seq (.region [⟨some 4, .mv (.const (.bool false)), none⟩] [4] []) <|
     .ret)
     (.skip)) <|
  .seq (.region [⟨some 4, .mv (.const (.bool true)), none⟩] [4] []) <|
  .ret
theorem Cd.laws_eqCard_rs : Tryz.f47.results.toList = [.tmp 4] := rfl
theorem Cd.laws_eqCard_nt : Tryz.f47.ntmps = 11 := rfl
theorem Cd.laws_eqCard_ok : CodeIsR Tryz.prog 47 Tryz.f47 Cd.laws_eqCard := ⟨Tryz.func47, by kernel_rfl, by decide +kernel⟩
/-- loop.example/g01012/laws.szTotalS -/
def Cd.laws_szTotalS : ACode :=
  .seq (.region [⟨some 4, .mv (.const (.int .i64 (0))), none⟩] [0, 1] []) <|
  .seq (.region [⟨some 6, .mv (.tmp 1), none⟩,
     ⟨some 7, .mv (.tmp 0), none⟩,
     ⟨some 8, .len (.tmp 7), none⟩,
     ⟨some 9, .bin .sub (.tmp 6) (.tmp 8), none⟩,
     ⟨some 1, .mv (.tmp 9), none⟩] [0, 1] []) <|
  .seq (.seq (.region [⟨some 10, .mv (.tmp 1), none⟩,
      ⟨some 11, .bin .lss (.tmp 10) (.const (.int .i64 (0))), none⟩] [0, 1, 11] []) <|
   .cond (.tmp 11)
     (.seq (.region [⟨some 4, .mv (.const (.int .i64 (-1))), none⟩] [4] []) <|
     .ret)
     (.skip)) <|
  .seq (.seq (.region [⟨some 5, .mv (.const (.int .i64 (0))), none⟩] [0, 1, 5] []) <|
   .block 0 (
     .loop (
       .seq (.seq (.region [⟨some 12, .mv (.tmp 5), none⟩,
           ⟨some 13, .mv (.tmp 0), none⟩,
           ⟨some 14, .len (.tmp 13), none⟩,
           ⟨some 15, .bin .lss (.tmp 12) (.tmp 14), none⟩] [0, 1, 5, 15] []) <|
        .cond (.tmp 15)
          (.skip)
          (.exit 0)) <|
       .seq (.block 1 (
          .seq (.region [⟨some 18, .mv (.tmp 0), none⟩,
             ⟨some 19, .mv (.tmp 5), none⟩,
             ⟨some 20, .idxSl 2 (.tmp 18) (.tmp 19), none⟩,
             ⟨some 21, .load true 2 (.tmp 20), none⟩,
             ⟨some 22, .mv (.tmp 1), none⟩,
             ⟨some 23, .call (.func F.laws_szTotal) [(.tmp 21), (.tmp 22)] [], none⟩,
             ⟨some 1, .mv (.tmp 23), none⟩] [0, 1, 5] []) <|
          .seq (.region [⟨some 24, .mv (.tmp 1), none⟩,
             ⟨some 25, .bin .lss (.tmp 24) (.const (.int .i64 (0))), none⟩] [0, 1, 5, 25] []) <|
          .cond (.tmp 25)
            (.seq (.region [⟨some 4, .mv (.const (.int .i64 (-1))), none⟩] [4] []) <|
            .ret)
            (.skip))) <|
       .region [⟨some 16, .mv (.tmp 5), none⟩,
         ⟨some 17, .bin .add (.tmp 16) (.const (.int .i64 (1))), none⟩,
         ⟨some 5, .mv (.tmp 17), none⟩] [0, 1, 5] []))) <|
  .seq (.region [⟨some 26, .mv (.tmp 1), none⟩,
     ⟨some 4, .mv (.tmp 26), none⟩] [4] []) <|
  .ret
theorem Cd.laws_szTotalS_rs : Tryz.f48.results.toList = [.tmp 4] := rfl
theorem Cd.laws_szTotalS_nt : Tryz.f48.ntmps = 27 := rfl
theorem Cd.laws_szTotalS_ok : CodeIsR Tryz.prog 48 Tryz.f48 Cd.laws_szTotalS := ⟨Tryz.func48, by kernel_rfl, by decide +kernel⟩
/-- loop.example/g01012/spec.l15Ok DRAWS -/
def Cd.spec_l15Ok : ACode :=
  .seq (.region [⟨some 2, .mv (.const (.bool false)), none⟩] [0] []) <|
  .seq (.seq (.region [⟨some 3, .mv (.const (.int .i64 (0))), none⟩] [0, 3] []) <|
   .block 0 (
     .loop (
       .seq (.seq (.region [⟨some 4, .mv (.tmp 3), none⟩,
           ⟨some 5, .mv (.tmp 0), none⟩,
           ⟨some 6, .nilc (.tmp 5), none⟩,
           ⟨some 7, .fieldAddr 0 (.tmp 6), none⟩,
           ⟨some 8, .load false 1 (.tmp 7), none⟩,
           ⟨some 9, .len (.tmp 8), none⟩,
           ⟨some 10, .bin .lss (.tmp 4) (.tmp 9), none⟩] [0, 3, 10] []) <|
        .cond (.tmp 10)
          (.skip)
          (.exit 0)) <|
       .seq (.block 1 (
          .seq (.region [⟨some 13, .mv (.tmp 0), none⟩,
             ⟨some 14, .nilc (.tmp 13), none⟩,
             ⟨some 15, .fieldAddr 0 (.tmp 14), none⟩,
             ⟨some 16, .load false 1 (.tmp 15), none⟩,
             ⟨some 17, .mv (.tmp 3), none⟩,
             ⟨some 18, .idxSl 1 (.tmp 16) (.tmp 17), none⟩,
             ⟨some 19, .load false 1 (.tmp 18), none⟩,
             ⟨some 20, .call (.func F.spec_l02Deck) [(.tmp 19)] [], none⟩,
             ⟨some 21, .un .not (.tmp 20), none⟩,
             ⟨some 22, .mv (.tmp 21), none⟩,
             ⟨some 23, .mv (.tmp 0), some (22, false)⟩,
             ⟨some 24, .nilc (.tmp 23), some (22, false)⟩,
             ⟨some 25, .fieldAddr 0 (.tmp 24), some (22, false)⟩,
             ⟨some 26, .load false 1 (.tmp 25), some (22, false)⟩,
             ⟨some 27, .mv (.tmp 3), some (22, false)⟩,
             ⟨some 28, .idxSl 1 (.tmp 26) (.tmp 27), some (22, false)⟩,
             ⟨some 29, .load false 1 (.tmp 28), some (22, false)⟩,
             ⟨some 30, .len (.tmp 29), some (22, false)⟩,
             ⟨some 31, .bin .gtr (.tmp 30) (.const (.int .i64 (0))), some (22, false)⟩,
             ⟨some 32, .mv (.tmp 31), some (22, false)⟩,
             ⟨some 33, .mv (.tmp 0), some (32, true)⟩,
             ⟨some 34, .nilc (.tmp 33), some (32, true)⟩,
             ⟨some 35, .fieldAddr 0 (.tmp 34), some (32, true)⟩,
             ⟨some 36, .load false 1 (.tmp 35), some (32, true)⟩,
             ⟨some 37, .mv (.tmp 3), some (32, true)⟩,
             ⟨some 38, .idxSl 1 (.tmp 36) (.tmp 37), some (32, true)⟩,
             ⟨some 39, .load false 1 (.tmp 38), some (32, true)⟩,
             ⟨some 40, .idxSl 1 (.tmp 39) (.const (.int .i64 (0))), some (32, true)⟩,
             ⟨some 41, .fieldAddr 0 (.tmp 40), some (32, true)⟩,
             ⟨some 42, .load false 1 (.tmp 41), some (32, true)⟩,
             ⟨some 43, .len (.tmp 42), some (32, true)⟩,
             ⟨some 44, .mv (.tmp 0), some (32, true)⟩,
             ⟨some 45, .call (.func F.spec_l15Width) [(.tmp 44)] [], some (32, true)⟩,
             ⟨some 46, .bin .neq (.tmp 43) (.tmp 45), some (32, true)⟩,
             ⟨some 47, .pick (.tmp 32) (.tmp 46) (.const (.bool false)), some (22, false)⟩,
             ⟨some 48, .pick (.tmp 22) (.const (.bool true)) (.tmp 47), none⟩] [0, 3, 48] [13, 15, 16, 14, 17, 18, 19, 20, 21, 22, 23, 24, 25, 26, 27, 28, 29, 30, 31, 32, 33, 34, 35, 36, 37, 38, 39, 40, 41, 42, 43, 44, 45, 46, 47, 48]) <|
          .cond (.tmp 48)
            (.seq (.region [⟨some 2, .mv (.const (.bool false)), none⟩] [2] []) <|
            .ret)
            (.skip))) <|
       .region [⟨some 11, .mv (.tmp 3), none⟩,
         ⟨some 12, .bin .add (.tmp 11) (.const (.int .i64 (1))), none⟩,
         ⟨some 3, .mv (.tmp 12), none⟩] [0, 3] []))) <|
  .seq (.region [⟨some 49, .mv (.tmp 0), none⟩,
     ⟨some 50, .nilc (.tmp 49), none⟩,
     ⟨some 51, .fieldAddr 0 (.tmp 50), none⟩,
     ⟨some 52, .load false 1 (.tmp 51), none⟩,
     ⟨some 53, .len (.tmp 52), none⟩,
     ⟨some 54, .bin .eql (.tmp 53) (.const (.int .i64 (6))), none⟩,
     ⟨some 55, .mv (.tmp 54), none⟩,
     ⟨some 56, .mv (.tmp 0), some (55, true)⟩,
     ⟨some 57, .nilc (.tmp 56), some (55, true)⟩,
     ⟨some 58, .fieldAddr 1 (.tmp 57), some (55, true)⟩,
     ⟨some 59, .load false 1 (.tmp 58), some (55, true)⟩,
     ⟨some 60, .len (.tmp 59), some (55, true)⟩,
     ⟨some 61, .bin .leq (.tmp 60) (.const (.int .i64 (20))), some (55, true)⟩,
     ⟨some 62, .pick (.tmp 55) (.tmp 61) (.const (.bool false)), none⟩,
     ⟨some 2, .mv (.tmp 62), none⟩] [2] []) <|
  .ret
theorem Cd.spec_l15Ok_rs : Tryz.f49.results.toList = [.tmp 2] := rfl
theorem Cd.spec_l15Ok_nt : Tryz.f49.ntmps = 63 := rfl
theorem Cd.spec_l15Ok_ok : CodeIsR Tryz.prog 49 Tryz.f49 Cd.spec_l15Ok := ⟨Tryz.func49, by kernel_rfl, by decide +kernel⟩
/-- loop.example/g01012/spec.l00In -/
def Cd.spec_l00In : ACode :=
  .seq (.region [⟨some 6, .mv (.const (.bool false)), none⟩] [0, 1, 2] []) <|
  .seq (.region [⟨some 7, .mv (.tmp 0), none⟩,
     ⟨some 8, .mv (.tmp 1), none⟩,
     ⟨some 9, .bin .geq (.tmp 7) (.tmp 8), none⟩,
     ⟨some 10, .mv (.tmp 9), none⟩,
     ⟨some 11, .mv (.tmp 0), some (10, true)⟩,
     ⟨some 12, .mv (.tmp 2), some (10, true)⟩,
     ⟨some 13, .bin .leq (.tmp 11) (.tmp 12), some (10, true)⟩,
     ⟨some 14, .pick (.tmp 10) (.tmp 13) (.const (.bool false)), none⟩,
     ⟨some 6, .mv (.tmp 14), none⟩] [6] []) <|
  .ret
theorem Cd.spec_l00In_rs : Tryz.f50.results.toList = [.tmp 6] := rfl
theorem Cd.spec_l00In_nt : Tryz.f50.ntmps = 15 := rfl
theorem Cd.spec_l00In_ok : CodeIsR Tryz.prog 50 Tryz.f50 Cd.spec_l00In := ⟨Tryz.func50, by kernel_rfl, by decide +kernel⟩
/-- loop.example/g01012/spec.l15Tray -/
def Cd.spec_l15Tray : ACode :=
  .seq (.region [⟨some 2, .mv (.const (.bool false)), none⟩] [0] []) <|
  .seq (.region [⟨some 3, .mv (.tmp 0), none⟩,
     ⟨some 4, .call (.func F.spec_l00In) [(.tmp 3), (.const (.int .i64 (0))), (.const (.int .i64 (5)))] [], none⟩,
     ⟨some 2, .mv (.tmp 4), none⟩] [2] []) <|
  .ret
theorem Cd.spec_l15Tray_rs : Tryz.f51.results.toList = [.tmp 2] := rfl
theorem Cd.spec_l15Tray_nt : Tryz.f51.ntmps = 5 := rfl
theorem Cd.spec_l15Tray_ok : CodeIsR Tryz.prog 51 Tryz.f51 Cd.spec_l15Tray := ⟨Tryz.func51, by kernel_rfl, by decide +kernel⟩
/-- loop.example/g01012/spec.l02Field -/
def Cd.spec_l02Field : ACode :=
  .seq (.region [⟨some 2, .box (.tmp 0), none⟩,
     ⟨some 4, .mv (.const (.bool false)), none⟩] [1, 2] []) <|
  .seq (.region [⟨some 5, .fieldAddr 0 (.tmp 2), none⟩,
     ⟨some 6, .load false 1 (.tmp 5), none⟩,
     ⟨some 7, .bin .geq (.tmp 6) (.const (.int .i64 (0))), none⟩,
     ⟨some 8, .mv (.tmp 7), none⟩,
     ⟨some 9, .fieldAddr 0 (.tmp 2), some (8, true)⟩,
     ⟨some 10, .load false 1 (.tmp 9), some (8, true)⟩,
     ⟨some 11, .fieldAddr 1 (.tmp 2), some (8, true)⟩,
     ⟨some 12, .load false 1 (.tmp 11), some (8, true)⟩,
     ⟨some 13, .bin .lss (.tmp 10) (.tmp 12), some (8, true)⟩,
     ⟨some 14, .pick (.tmp 8) (.tmp 13) (.const (.bool false)), none⟩,
     ⟨some 15, .mv (.tmp 14), none⟩,
     ⟨some 16, .fieldAddr 1 (.tmp 2), some (15, true)⟩,
     ⟨some 17, .load false 1 (.tmp 16), some (15, true)⟩,
     ⟨some 18, .mv (.tmp 1), some (15, true)⟩,
     ⟨some 19, .bin .leq (.tmp 17) (.tmp 18), some (15, true)⟩,
     ⟨some 20, .pick (.tmp 15) (.tmp 19) (.const (.bool false)), none⟩,
     ⟨some 4, .mv (.tmp 20), none⟩] [4] []) <|
  .ret
theorem Cd.spec_l02Field_rs : Tryz.f52.results.toList = [.tmp 4] := rfl
theorem Cd.spec_l02Field_nt : Tryz.f52.ntmps = 21 := rfl
theorem Cd.spec_l02Field_ok : CodeIsR Tryz.prog 52 Tryz.f52 Cd.spec_l02Field := ⟨Tryz.func52, by kernel_rfl, by decide +kernel⟩
/-- loop.example/g01012/spec.l15Both -/
def Cd.spec_l15Both : ACode :=
  .seq (.region [⟨some 2, .mv (.const (.bool false)), none⟩] [0] []) <|
  .seq (.region [⟨some 3, .mv (.tmp 0), none⟩,
     ⟨some 4, .call (.func F.spec_l00In) [(.tmp 3), (.const (.int .i64 (2))), (.const (.int .i64 (4)))] [], none⟩,
     ⟨some 2, .mv (.tmp 4), none⟩] [2] []) <|
  .ret
theorem Cd.spec_l15Both_rs : Tryz.f53.results.toList = [.tmp 2] := rfl
theorem Cd.spec_l15Both_nt : Tryz.f53.ntmps = 5 := rfl
theorem Cd.spec_l15Both_ok : CodeIsR Tryz.prog 53 Tryz.f53 Cd.spec_l15Both := ⟨Tryz.func53, by kernel_rfl, by decide +kernel⟩
/-- loop.example/g01012/spec.l09Text -/
def Cd.spec_l09Text : ACode :=
  .seq (.region [⟨some 3, .box (.tmp 1), none⟩,
     ⟨some 4, .mv (.const (.int .i64 (0))), none⟩] [0, 3] []) <|
  .seq (.seq (.region [⟨some 6, .mv (.tmp 0), none⟩,
      ⟨some 7, .lenS (.tmp 6), none⟩,
      ⟨some 8, .fieldAddr 1 (.tmp 3), none⟩,
      ⟨some 9, .load false 1 (.tmp 8), none⟩,
      ⟨some 10, .fieldAddr 0 (.tmp 3), none⟩,
      ⟨some 11, .load false 1 (.tmp 10), none⟩,
      ⟨some 12, .bin .sub (.tmp 9) (.tmp 11), none⟩,
      ⟨some 13, .bin .neq (.tmp 7) (.tmp 12), none⟩] [0, 13] []) <|
   .cond (.tmp 13)
     (.seq (.region [⟨some 4, .mv (.const (.int .i64 (2))), none⟩] [4] []) <|
     .ret)
     (.skip)) <|
  .seq (.seq (.region [⟨some 5, .mv (.const (.int .i64 (0))), none⟩] [0, 5] []) <|
   .block 0 (
     .loop (
       .seq (.seq (.region [⟨some 14, .mv (.tmp 5), none⟩,
           ⟨some 15, .mv (.tmp 0), none⟩,
           ⟨some 16, .lenS (.tmp 15), none⟩,
           ⟨some 17, .bin .lss (.tmp 14) (.tmp 16), none⟩] [0, 5, 17] []) <|
        .cond (.tmp 17)
          (.skip)
          (.exit 0)) <|
       .seq (.block 1 (
          .seq (.region [⟨some 20, .mv (.tmp 0), none⟩,
             ⟨some 21, .mv (.tmp 5), none⟩,
             ⟨some 22, .idxStr (.tmp 20) (.tmp 21), none⟩,
             ⟨some 23, .call (.func F.spec_l03Code) [(.tmp 22)] [], none⟩,
             ⟨some 24, .bin .lss (.tmp 23) (.const (.int .i64 (0))), none⟩] [0, 5, 24] []) <|
          .cond (.tmp 24)
            (.seq (.region [⟨some 4, .mv (.const (.int .i64 (7))), none⟩] [4] []) <|
            .ret)
            (.skip))) <|
       .region [⟨some 18, .mv (.tmp 5), none⟩,
         ⟨some 19, .bin .add (.tmp 18) (.const (.int .i64 (1))), none⟩,
         ⟨some 5, .mv (.tmp 19), none⟩] [0, 5] []))) <|
  .seq (.region [⟨some 4, .mv (.const (.int .i64 (0))), none⟩] [4] []) <|
  .ret
theorem Cd.spec_l09Text_rs : Tryz.f54.results.toList = [.tmp 4] := rfl
theorem Cd.spec_l09Text_nt : Tryz.f54.ntmps = 25 := rfl
theorem Cd.spec_l09Text_ok : CodeIsR Tryz.prog 54 Tryz.f54 Cd.spec_l09Text := ⟨Tryz.func54, by kernel_rfl, by decide +kernel⟩
/-- loop.example/g01012/spec.l03Number -/
def Cd.spec_l03Number : ACode :=
  .seq (.region [⟨some 2, .mv (.const (.int .i64 (0))), none⟩,
     ⟨some 3, .mv (.const (.bool false)), none⟩] [0] []) <|
  .seq (.region [⟨some 4, .mv (.const (.int .i64 (0))), none⟩] [0, 4] []) <|
  .seq (.region [⟨some 5, .mv (.const (.bool false)), none⟩] [0, 4, 5] []) <|
  .seq (.region [⟨some 6, .mv (.const (.bool false)), none⟩] [0, 4, 5, 6] []) <|
  .seq (.seq (.region [⟨some 7, .mv (.const (.int .i64 (0))), none⟩] [0, 4, 5, 6, 7] []) <|
   .block 0 (
     .loop (
       .seq (.seq (.region [⟨some 10, .mv (.tmp 7), none⟩,
           ⟨some 11, .mv (.tmp 0), none⟩,
           ⟨some 12, .len (.tmp 11), none⟩,
           ⟨some 13, .bin .lss (.tmp 10) (.tmp 12), none⟩] [0, 4, 5, 6, 7, 13] []) <|
        .cond (.tmp 13)
          (.skip)
          (.exit 0)) <|
       .seq (.block 1 (
          .seq (.region [⟨some 16, .mv (.tmp 0), none⟩,
             ⟨some 17, .mv (.tmp 7), none⟩,
             ⟨some 18, .idxSl 1 (.tmp 16) (.tmp 17), none⟩,
             ⟨some 19, .load false 1 (.tmp 18), none⟩,
             ⟨some 8, .mv (.tmp 19), none⟩] [0, 4, 5, 6, 7, 8] []) <|
          .seq (.seq (.region [⟨some 20, .mv (.tmp 7), none⟩,
              ⟨some 21, .mv (.tmp 0), none⟩,
              ⟨some 22, .len (.tmp 21), none⟩,
              ⟨some 23, .bin .sub (.tmp 22) (.const (.int .i64 (1))), none⟩,
              ⟨some 24, .bin .eql (.tmp 20) (.tmp 23), none⟩,
              ⟨some 25, .mv (.tmp 24), none⟩,
              ⟨some 26, .mv (.tmp 8), some (25, true)⟩,
              ⟨some 27, .bin .and (.tmp 26) (.const (.int .i64 (2))), some (25, true)⟩,
              ⟨some 28, .bin .neq (.tmp 27) (.const (.int .i64 (0))), some (25, true)⟩,
              ⟨some 29, .pick (.tmp 25) (.tmp 28) (.const (.bool false)), none⟩] [0, 4, 5, 6, 7, 8, 29] []) <|
           .cond (.tmp 29)
             (.seq (.region [⟨some 6, .mv (.const (.bool true)), none⟩] [0, 4, 5, 6, 7, 8] []) <|
             .region [⟨some 30, .mv (.tmp 8), none⟩,
               ⟨some 31, .bin .sub (.tmp 30) (.const (.int .i64 (2))), none⟩,
               ⟨some 8, .mv (.tmp 31), none⟩] [0, 4, 5, 6, 7, 8] [])
             (.skip)) <|
          .seq (.seq (.region [⟨some 32, .mv (.tmp 8), none⟩,
              ⟨some 33, .bin .eql (.tmp 32) (.const (.int .i64 (0))), none⟩,
              ⟨some 34, .mv (.tmp 33), none⟩,
              ⟨some 35, .mv (.tmp 5), some (34, true)⟩,
              ⟨some 36, .un .not (.tmp 35), some (34, true)⟩,
              ⟨some 37, .pick (.tmp 34) (.tmp 36) (.const (.bool false)), none⟩,
              ⟨some 38, .mv (.tmp 37), none⟩,
              ⟨some 39, .mv (.tmp 6), some (38, true)⟩,
              ⟨some 40, .un .not (.tmp 39), some (38, true)⟩,
              ⟨some 41, .pick (.tmp 38) (.tmp 40) (.const (.bool false)), none⟩] [0, 4, 5, 6, 7, 8, 41] []) <|
           .cond (.tmp 41)
             (.exit 1)
             (.skip)) <|
          .seq (.region [⟨some 42, .mv (.tmp 8), none⟩,
             ⟨some 43, .call (.func F.spec_l03Digit) [(.tmp 42)] [], none⟩,
             ⟨some 9, .mv (.tmp 43), none⟩] [0, 4, 6, 7, 9] []) <|
          .seq (.seq (.region [⟨some 44, .mv (.tmp 9), none⟩,
              ⟨some 45, .bin .lss (.tmp 44) (.const (.int .i64 (0))), none⟩] [0, 4, 6, 7, 9, 45] []) <|
           .cond (.tmp 45)
             (.seq (.region [⟨some 2, .mv (.const (.int .i64 (0))), none⟩,
                ⟨some 3, .mv (.const (.bool false)), none⟩] [2, 3] []) <|
             .ret)
             (.skip)) <|
          .seq (.region [⟨some 5, .mv (.const (.bool true)), none⟩] [0, 4, 5, 6, 7, 9] []) <|
          .region [⟨some 46, .mv (.tmp 4), none⟩,
            ⟨some 47, .bin .mul (.const (.int .i64 (10))) (.tmp 46), none⟩,
            ⟨some 48, .mv (.tmp 9), none⟩,
            ⟨some 49, .bin .add (.tmp 47) (.tmp 48), none⟩,
            ⟨some 4, .mv (.tmp 49), none⟩] [0, 4, 5, 6, 7] [])) <|
       .region [⟨some 14, .mv (.tmp 7), none⟩,
         ⟨some 15, .bin .add (.tmp 14) (.const (.int .i64 (1))), none⟩,
         ⟨some 7, .mv (.tmp 15), none⟩] [0, 4, 5, 6, 7] []))) <|
  .seq (.seq (.region [⟨some 50, .mv (.tmp 6), none⟩] [4, 50] []) <|
   .cond (.tmp 50)
     (.seq (.region [⟨some 51, .mv (.tmp 4), none⟩,
        ⟨some 52, .un .neg (.tmp 51), none⟩,
        ⟨some 53, .mv (.tmp 4), none⟩,
        ⟨some 54, .bin .neq (.tmp 53) (.const (.int .i64 (0))), none⟩,
        ⟨some 2, .mv (.tmp 52), none⟩,
        ⟨some 3, .mv (.tmp 54), none⟩] [2, 3] []) <|
     .ret)
     (.skip)) <|
  .seq (.region [⟨some 55, .mv (.tmp 4), none⟩,
     ⟨some 2, .mv (.tmp 55), none⟩,
     ⟨some 3, .mv (.const (.bool true)), none⟩] [2, 3] []) <|
  .ret
theorem Cd.spec_l03Number_rs : Tryz.f55.results.toList = [.tmp 2, .tmp 3] := rfl
theorem Cd.spec_l03Number_nt : Tryz.f55.ntmps = 56 := rfl
theorem Cd.spec_l03Number_ok : CodeIsR Tryz.prog 55 Tryz.f55 Cd.spec_l03Number := ⟨Tryz.func55, by kernel_rfl, by decide +kernel⟩
/-- loop.example/g01012/spec.l02Part DRAWS -/
def Cd.spec_l02Part : ACode :=
  .seq (.region [⟨some 3, .box (.tmp 1), none⟩,
     ⟨some 4, .mv (.const (.slice none 0 0)), none⟩] [0, 3] []) <|
  .seq (.region [⟨some 5, .mv (.tmp 0), none⟩,
     ⟨some 6, .nilc (.tmp 5), none⟩,
     ⟨some 7, .fieldAddr 0 (.tmp 6), none⟩,
     ⟨some 8, .load false 1 (.tmp 7), none⟩,
     ⟨some 9, .fieldAddr 0 (.tmp 3), none⟩,
     ⟨some 10, .load false 1 (.tmp 9), none⟩,
     ⟨some 11, .fieldAddr 1 (.tmp 3), none⟩,
     ⟨some 12, .load false 1 (.tmp 11), none⟩,
     ⟨some 13, .slc 1 (.tmp 8) (some (.tmp 10)) (some (.tmp 12)), none⟩,
     ⟨some 4, .mv (.tmp 13), none⟩] [4] [5, 7, 8, 6, 9, 10, 11, 12, 13]) <|
  .ret
theorem Cd.spec_l02Part_rs : Tryz.f56.results.toList = [.tmp 4] := rfl
theorem Cd.spec_l02Part_nt : Tryz.f56.ntmps = 14 := rfl
theorem Cd.spec_l02Part_ok : CodeIsR Tryz.prog 56 Tryz.f56 Cd.spec_l02Part := ⟨Tryz.func56, by kernel_rfl, by decide +kernel⟩
/-- loop.example/g01012/spec.l18Digits -/
def Cd.spec_l18Digits : ACode :=
  .seq (.region [⟨some 2, .mv (.const (.int .i64 (0))), none⟩] [0] []) <|
  .seq (.seq (.region [⟨some 4, .mv (.tmp 0), none⟩,
      ⟨some 5, .bin .lss (.tmp 4) (.const (.int .i64 (0))), none⟩] [0, 5] []) <|
   .cond (.tmp 5)
     (.region [⟨some 6, .mv (.tmp 0), none⟩,
       ⟨some 7, .un .neg (.tmp 6), none⟩,
       ⟨some 0, .mv (.tmp 7), none⟩] [0] [])
     (.skip)) <|
  .seq (.region [⟨some 3, .mv (.const (.int .i64 (0))), none⟩] [0, 3] []) <|
  .seq (.block 0 (
     .loop (
       .seq (.seq (.region [⟨some 8, .mv (.tmp 0), none⟩,
           ⟨some 9, .bin .gtr (.tmp 8) (.const (.int .i64 (0))), none⟩] [0, 3, 9] []) <|
        .cond (.tmp 9)
          (.skip)
          (.exit 0)) <|
       .seq (.block 1 (
          .region [⟨some 12, .mv (.tmp 3), none⟩,
            ⟨some 13, .mv (.tmp 0), none⟩,
            ⟨some 14, .bin .rem (.tmp 13) (.const (.int .i64 (10))), none⟩,
            ⟨some 15, .bin .add (.tmp 12) (.tmp 14), none⟩,
            ⟨some 3, .mv (.tmp 15), none⟩] [0, 3] [])) <|
       .region [⟨some 10, .mv (.tmp 0), none⟩,
         ⟨some 11, .bin .quo (.tmp 10) (.const (.int .i64 (10))), none⟩,
         ⟨some 0, .mv (.tmp 11), none⟩] [0, 3] []))) <|
  .seq (.region [⟨some 16, .mv (.tmp 3), none⟩,
     ⟨some 2, .mv (.tmp 16), none⟩] [2] []) <|
  .ret
theorem Cd.spec_l18Digits_rs : Tryz.f57.results.toList = [.tmp 2] := rfl
theorem Cd.spec_l18Digits_nt : Tryz.f57.ntmps = 17 := rfl
theorem Cd.spec_l18Digits_ok : CodeIsR Tryz.prog 57 Tryz.f57 Cd.spec_l18Digits := ⟨Tryz.func57, by kernel_rfl, by decide +kernel⟩
/-- loop.example/g01012/spec.l18Two -/
def Cd.spec_l18Two : ACode :=
  .seq (.region [⟨some 2, .box (.tmp 0), none⟩,
     ⟨some 3, .box (.tmp 1), none⟩,
     ⟨some 4, .mv (.const (.int .i64 (0))), none⟩] [2, 3] []) <|
  .seq (.seq (.region [⟨some 5, .load true 3 (.tmp 2), none⟩,
      ⟨some 6, .call (.func F.spec_l18Ok) [(.tmp 5)] [], none⟩,
      ⟨some 7, .un .not (.tmp 6), none⟩,
      ⟨some 8, .mv (.tmp 7), none⟩,
      ⟨some 9, .load true 3 (.tmp 3), some (8, false)⟩,
      ⟨some 10, .call (.func F.spec_l18Ok) [(.tmp 9)] [], some (8, false)⟩,
      ⟨some 11, .un .not (.tmp 10), some (8, false)⟩,
      ⟨some 12, .pick (.tmp 8) (.const (.bool true)) (.tmp 11), none⟩] [12] []) <|
   .cond (.tmp 12)
     (.seq (.region [⟨some 4, .mv (.const (.int .i64 (1))), none⟩] [4] []) <|
     .ret)
     (.skip)) <|
  .seq (.region [⟨some 4, .mv (.const (.int .i64 (0))), none⟩] [4] []) <|
  .ret
theorem Cd.spec_l18Two_rs : Tryz.f58.results.toList = [.tmp 4] := rfl
theorem Cd.spec_l18Two_nt : Tryz.f58.ntmps = 13 := rfl
theorem Cd.spec_l18Two_ok : CodeIsR Tryz.prog 58 Tryz.f58 Cd.spec_l18Two := ⟨Tryz.func58, by kernel_rfl, by decide +kernel⟩
/-- loop.example/g01012/spec.l18Ok -/
def Cd.spec_l18Ok : ACode :=
  .seq (.region [⟨some 1, .box (.tmp 0), none⟩,
     ⟨some 2, .mv (.const (.bool false)), none⟩] [1] []) <|
  .seq (.region [⟨some 3, .fieldAddr 0 (.tmp 1), none⟩,
     ⟨some 4, .load false 1 (.tmp 3), none⟩,
     ⟨some 5, .call (.func F.spec_l00In) [(.tmp 4), (.const (.int .i64 (0))), (.const (.int .i64 (1000000)))] [], none⟩,
     ⟨some 6, .mv (.tmp 5), none⟩,
     ⟨some 7, .fieldAddr 1 (.tmp 1), some (6, true)⟩,
     ⟨some 8, .load false 1 (.tmp 7), some (6, true)⟩,
     ⟨some 9, .call (.func F.spec_l00In) [(.tmp 8), (.const (.int .i64 (-1000000000000000))), (.const (.int .i64 (1000000000000000)))] [], some (6, true)⟩,
     ⟨some 10, .pick (.tmp 6) (.tmp 9) (.const (.bool false)), none⟩,
     ⟨some 11, .mv (.tmp 10), none⟩,
     ⟨some 12, .fieldAddr 2 (.tmp 1), some (11, true)⟩,
     ⟨some 13, .load false 1 (.tmp 12), some (11, true)⟩,
     ⟨some 14, .call (.func F.spec_l00In) [(.tmp 13), (.const (.int .i64 (0))), (.const (.int .i64 (1000000000)))] [], some (11, true)⟩,
     ⟨some 15, .pick (.tmp 11) (.tmp 14) (.const (.bool false)), none⟩,
     ⟨some 2, .mv (.tmp 15), none⟩] [2] []) <|
  .ret
theorem Cd.spec_l18Ok_rs : Tryz.f59.results.toList = [.tmp 2] := rfl
theorem Cd.spec_l18Ok_nt : Tryz.f59.ntmps = 16 := rfl
theorem Cd.spec_l18Ok_ok : CodeIsR Tryz.prog 59 Tryz.f59 Cd.spec_l18Ok := ⟨Tryz.func59, by kernel_rfl, by decide +kernel⟩
/-- loop.example/g01012/laws.toTotalS -/
def Cd.laws_toTotalS : ACode :=
  .seq (.region [⟨some 2, .mv (.const (.slice none 0 0)), none⟩] [0] []) <|
  .seq (.region [⟨some 5, .mv (.tmp 0), none⟩,
     ⟨some 6, .len (.tmp 5), none⟩,
     ⟨some 7, .mk 2 24 [.v (.string ⟨#[]⟩), .v (.int .i64 (0))] (.tmp 6), none⟩,
     ⟨some 3, .mv (.tmp 7), none⟩] [0, 3] []) <|
  .seq (.seq (.region [⟨some 4, .mv (.const (.int .i64 (0))), none⟩] [0, 3, 4] []) <|
   .block 0 (
     .loop (
       .seq (.seq (.region [⟨some 8, .mv (.tmp 4), none⟩,
           ⟨some 9, .mv (.tmp 0), none⟩,
           ⟨some 10, .len (.tmp 9), none⟩,
           ⟨some 11, .bin .lss (.tmp 8) (.tmp 10), none⟩] [0, 3, 4, 11] []) <|
        .cond (.tmp 11)
          (.skip)
          (.exit 0)) <|
       .seq (.block 1 (
          .region [⟨some 14, .mv (.tmp 3), none⟩,
            ⟨some 15, .mv (.tmp 4), none⟩,
            ⟨some 16, .mv (.tmp 0), none⟩,
            ⟨some 17, .mv (.tmp 4), none⟩,
            ⟨some 18, .idxSl 2 (.tmp 16) (.tmp 17), none⟩,
            ⟨some 19, .load true 2 (.tmp 18), none⟩,
            ⟨some 20, .call (.func F.laws_toTotal) [(.tmp 19)] [], none⟩,
            ⟨some 21, .idxSl 2 (.tmp 14) (.tmp 15), none⟩,
            ⟨none, .store 2 (.tmp 21) (.tmp 20), none⟩] [0, 3, 4] [])) <|
       .region [⟨some 12, .mv (.tmp 4), none⟩,
         ⟨some 13, .bin .add (.tmp 12) (.const (.int .i64 (1))), none⟩,
         ⟨some 4, .mv (.tmp 13), none⟩] [0, 3, 4] []))) <|
  .seq (.region [⟨some 22, .mv (.tmp 3), none⟩,
     ⟨some 2, .mv (.tmp 22), none⟩] [2] []) <|
  .ret
theorem Cd.laws_toTotalS_rs : Tryz.f60.results.toList = [.tmp 2] := rfl
theorem Cd.laws_toTotalS_nt : Tryz.f60.ntmps = 23 := rfl
theorem Cd.laws_toTotalS_ok : CodeIsR Tryz.prog 60 Tryz.f60 Cd.laws_toTotalS := ⟨Tryz.func60, by kernel_rfl, by decide +kernel⟩
/-- loop.example/g01012/impl.ValidOffice DRAWS -/
def Cd.impl_ValidOffice : ACode :=
  .seq (.region [⟨some 1, .box (.tmp 0), none⟩,
     ⟨some 2, .mv (.const (.bool false)), none⟩] [1] []) <|
  .seq (.seq (.region [⟨some 5, .fieldAddr 0 (.tmp 1), none⟩,
      ⟨some 6, .load false 1 (.tmp 5), none⟩,
      ⟨some 7, .len (.tmp 6), none⟩,
      ⟨some 8, .bin .neq (.tmp 7) (.const (.int .i64 (6))), none⟩,
      ⟨some 9, .mv (.tmp 8), none⟩,
      ⟨some 10, .fieldAddr 1 (.tmp 1), some (9, false)⟩,
      ⟨some 11, .load false 1 (.tmp 10), some (9, false)⟩,
      ⟨some 12, .len (.tmp 11), some (9, false)⟩,
      ⟨some 13, .bin .gtr (.tmp 12) (.const (.int .i64 (20))), some (9, false)⟩,
      ⟨some 14, .pick (.tmp 9) (.const (.bool true)) (.tmp 13), none⟩] [1, 14] []) <|
   .cond (.tmp 14)
     (.seq (.region [⟨some 2, .mv (.const (.bool false)), none⟩] [2] []) <|
     .ret)
     (.skip)) <|
  .seq (.seq (.region [⟨some 15, .fieldAddr 0 (.tmp 1), none⟩,
      ⟨some 16, .load false 1 (.tmp 15), none⟩,
      ⟨some 17, .len (.tmp 16), none⟩,
      ⟨some 18, .mv (.const (.int .i64 (0))), none⟩] [1, 16, 17, 18] []) <|
   .block 0 (
     .loop (
       .seq (.region [⟨some 19, .bin .lss (.tmp 18) (.tmp 17), none⟩] [1, 16, 17, 18, 19] []) <|
       .seq (.cond (.tmp 19)
          (.skip)
          (.exit 0)) <|
       .seq (.block 1 (
          .seq (.region [⟨some 20, .idxSl 1 (.tmp 16) (.tmp 18), none⟩,
             ⟨some 21, .load false 1 (.tmp 20), none⟩,
             ⟨some 4, .mv (.tmp 21), none⟩] [1, 4, 16, 17, 18] []) <|
          .seq (.region [⟨some 22, .mv (.tmp 4), none⟩,
             ⟨some 23, .call (.func F.impl_ValidDeck) [(.tmp 22)] [], none⟩,
             ⟨some 24, .un .not (.tmp 23), none⟩,
             ⟨some 25, .mv (.tmp 24), none⟩,
             ⟨some 26, .mv (.tmp 4), some (25, false)⟩,
             ⟨some 27, .len (.tmp 26), some (25, false)⟩,
             ⟨some 28, .bin .gtr (.tmp 27) (.const (.int .i64 (0))), some (25, false)⟩,
             ⟨some 29, .mv (.tmp 28), some (25, false)⟩,
             ⟨some 30, .mv (.tmp 4), some (29, true)⟩,
             ⟨some 31, .idxSl 1 (.tmp 30) (.const (.int .i64 (0))), some (29, true)⟩,
             ⟨some 32, .load true 1 (.tmp 31), some (29, true)⟩,
             ⟨some 33, .call (.func F._impl_Card__columns) [(.tmp 32)] [], some (29, true)⟩,
             ⟨some 34, .load true 2 (.tmp 1), some (29, true)⟩,
             ⟨some 35, .call (.func F.impl_officeColumns) [(.tmp 34)] [], some (29, true)⟩,
             ⟨some 36, .bin .neq (.tmp 33) (.tmp 35), some (29, true)⟩,
             ⟨some 37, .pick (.tmp 29) (.tmp 36) (.const (.bool false)), some (25, false)⟩,
             ⟨some 38, .pick (.tmp 25) (.const (.bool true)) (.tmp 37), none⟩] [1, 16, 17, 18, 38] [22, 24, 25, 26, 23, 27, 28, 29, 30, 31, 32, 33, 34, 35, 36, 37, 38]) <|
          .cond (.tmp 38)
            (.seq (.region [⟨some 2, .mv (.const (.bool false)), none⟩] [2] []) <|
            .ret)
            (.skip))) <|
       .region [⟨some 39, .bin .add (.tmp 18) (.const (.int .i64 (1))), none⟩,
         ⟨some 18, .mv (.tmp 39), none⟩] [1, 16, 17, 18] []))) <|
  .seq (.region [⟨some 2, .mv (.const (.bool true)), none⟩] [2] []) <|
  .ret
theorem Cd.impl_ValidOffice_rs : Tryz.f61.results.toList = [.tmp 2] := rfl
theorem Cd.impl_ValidOffice_nt : Tryz.f61.ntmps = 40 := rfl
theorem Cd.impl_ValidOffice_ok : CodeIsR Tryz.prog 61 Tryz.f61 Cd.impl_ValidOffice := ⟨Tryz.func61, by kernel_rfl, by decide +kernel⟩
/-- loop.example/g01012/impl.inside -/
def Cd.impl_inside : ACode :=
  .seq (.region [⟨some 6, .mv (.const (.bool false)), none⟩] [0, 1, 2] []) <|
  .seq (.region [⟨some 7, .mv (.tmp 0), none⟩,
     ⟨some 8, .mv (.tmp 1), none⟩,
     ⟨some 9, .bin .geq (.tmp 7) (.tmp 8), none⟩,
     ⟨some 10, .mv (.tmp 9), none⟩,
     ⟨some 11, .mv (.tmp 0), some (10, true)⟩,
     ⟨some 12, .mv (.tmp 2), some (10, true)⟩,
     ⟨some 13, .bin .leq (.tmp 11) (.tmp 12), some (10, true)⟩,
     ⟨some 14, .pick (.tmp 10) (.tmp 13) (.const (.bool false)), none⟩,
     ⟨some 6, .mv (.tmp 14), none⟩] [6] []) <|
  .ret
theorem Cd.impl_inside_rs : Tryz.f62.results.toList = [.tmp 6] := rfl
theorem Cd.impl_inside_nt : Tryz.f62.ntmps = 15 := rfl
theorem Cd.impl_inside_ok : CodeIsR Tryz.prog 62 Tryz.f62 Cd.impl_inside := ⟨Tryz.func62, by kernel_rfl, by decide +kernel⟩
/-- loop.example/g01012/impl.isTray -/
def Cd.impl_isTray : ACode :=
  .seq (.region [⟨some 2, .mv (.const (.bool false)), none⟩] [0] []) <|
  .seq (.region [⟨some 3, .mv (.tmp 0), none⟩,
     ⟨some 4, .call (.func F.impl_inside) [(.tmp 3), (.const (.int .i64 (0))), (.const (.int .i64 (5)))] [], none⟩,
     ⟨some 2, .mv (.tmp 4), none⟩] [2] []) <|
  .ret
theorem Cd.impl_isTray_rs : Tryz.f63.results.toList = [.tmp 2] := rfl
theorem Cd.impl_isTray_nt : Tryz.f63.ntmps = 5 := rfl
theorem Cd.impl_isTray_ok : CodeIsR Tryz.prog 63 Tryz.f63 Cd.impl_isTray := ⟨Tryz.func63, by kernel_rfl, by decide +kernel⟩
/-- loop.example/g01012/impl.takesTwo -/
def Cd.impl_takesTwo : ACode :=
  .seq (.region [⟨some 2, .mv (.const (.bool false)), none⟩] [0] []) <|
  .seq (.region [⟨some 3, .mv (.tmp 0), none⟩,
     ⟨some 4, .call (.func F.impl_inside) [(.tmp 3), (.const (.int .i64 (2))), (.const (.int .i64 (4)))] [], none⟩,
     ⟨some 2, .mv (.tmp 4), none⟩] [2] []) <|
  .ret
theorem Cd.impl_takesTwo_rs : Tryz.f64.results.toList = [.tmp 2] := rfl
theorem Cd.impl_takesTwo_nt : Tryz.f64.ntmps = 5 := rfl
theorem Cd.impl_takesTwo_ok : CodeIsR Tryz.prog 64 Tryz.f64 Cd.impl_takesTwo := ⟨Tryz.func64, by kernel_rfl, by decide +kernel⟩
/-- loop.example/g01012/impl.isField -/
def Cd.impl_isField : ACode :=
  .seq (.region [⟨some 2, .box (.tmp 0), none⟩,
     ⟨some 4, .mv (.const (.bool false)), none⟩] [1, 2] []) <|
  .seq (.region [⟨some 5, .fieldAddr 0 (.tmp 2), none⟩,
     ⟨some 6, .load false 1 (.tmp 5), none⟩,
     ⟨some 7, .bin .leq (.const (.int .i64 (0))) (.tmp 6), none⟩,
     ⟨some 8, .mv (.tmp 7), none⟩,
     ⟨some 9, .fieldAddr 0 (.tmp 2), some (8, true)⟩,
     ⟨some 10, .load false 1 (.tmp 9), some (8, true)⟩,
     ⟨some 11, .fieldAddr 1 (.tmp 2), some (8, true)⟩,
     ⟨some 12, .load false 1 (.tmp 11), some (8, true)⟩,
     ⟨some 13, .bin .lss (.tmp 10) (.tmp 12), some (8, true)⟩,
     ⟨some 14, .pick (.tmp 8) (.tmp 13) (.const (.bool false)), none⟩,
     ⟨some 15, .mv (.tmp 14), none⟩,
     ⟨some 16, .fieldAddr 1 (.tmp 2), some (15, true)⟩,
     ⟨some 17, .load false 1 (.tmp 16), some (15, true)⟩,
     ⟨some 18, .mv (.tmp 1), some (15, true)⟩,
     ⟨some 19, .bin .leq (.tmp 17) (.tmp 18), some (15, true)⟩,
     ⟨some 20, .pick (.tmp 15) (.tmp 19) (.const (.bool false)), none⟩,
     ⟨some 4, .mv (.tmp 20), none⟩] [4] []) <|
  .ret
theorem Cd.impl_isField_rs : Tryz.f65.results.toList = [.tmp 4] := rfl
theorem Cd.impl_isField_nt : Tryz.f65.ntmps = 21 := rfl
theorem Cd.impl_isField_ok : CodeIsR Tryz.prog 65 Tryz.f65 Cd.impl_isField := ⟨Tryz.func65, by kernel_rfl, by decide +kernel⟩
/-- loop.example/g01012/impl.areCharacters -/
def Cd.impl_areCharacters : ACode :=
  .seq (.region [⟨some 2, .mv (.const (.bool false)), none⟩] [0] []) <|
  .seq (.seq (.region [⟨some 3, .mv (.const (.int .i64 (0))), none⟩] [0, 3] []) <|
   .block 0 (
     .loop (
       .seq (.seq (.region [⟨some 4, .mv (.tmp 3), none⟩,
           ⟨some 5, .mv (.tmp 0), none⟩,
           ⟨some 6, .lenS (.tmp 5), none⟩,
           ⟨some 7, .bin .lss (.tmp 4) (.tmp 6), none⟩] [0, 3, 7] []) <|
        .cond (.tmp 7)
          (.skip)
          (.exit 0)) <|
       .seq (.block 1 (
          .seq (.region [⟨some 10, .mv (.tmp 0), none⟩,
             ⟨some 11, .mv (.tmp 3), none⟩,
             ⟨some 12, .idxStr (.tmp 10) (.tmp 11), none⟩,
             ⟨some 13, .call (.func F.impl_isCharacter) [(.tmp 12)] [], none⟩,
             ⟨some 14, .un .not (.tmp 13), none⟩] [0, 3, 14] []) <|
          .cond (.tmp 14)
            (.seq (.region [⟨some 2, .mv (.const (.bool false)), none⟩] [2] []) <|
            .ret)
            (.skip))) <|
       .region [⟨some 8, .mv (.tmp 3), none⟩,
         ⟨some 9, .bin .add (.tmp 8) (.const (.int .i64 (1))), none⟩,
         ⟨some 3, .mv (.tmp 9), none⟩] [0, 3] []))) <|
  .seq (.region [⟨some 2, .mv (.const (.bool true)), none⟩] [2] []) <|
  .ret
theorem Cd.impl_areCharacters_rs : Tryz.f66.results.toList = [.tmp 2] := rfl
theorem Cd.impl_areCharacters_nt : Tryz.f66.ntmps = 15 := rfl
theorem Cd.impl_areCharacters_ok : CodeIsR Tryz.prog 66 Tryz.f66 Cd.impl_areCharacters := ⟨Tryz.func66, by kernel_rfl, by decide +kernel⟩
/-- (loop.example/g01012/impl.Card).columns -/
def Cd._impl_Card__columns : ACode :=
  .seq (.region [⟨some 1, .box (.tmp 0), none⟩,
     ⟨some 2, .mv (.const (.int .i64 (0))), none⟩] [1] []) <|
  .seq (.region [⟨some 3, .fieldAddr 0 (.tmp 1), none⟩,
     ⟨some 4, .load false 1 (.tmp 3), none⟩,
     ⟨some 5, .call (.func F.impl_size_int64_) [(.tmp 4)] [], none⟩,
     ⟨some 2, .mv (.tmp 5), none⟩] [2] []) <|
  .ret
theorem Cd._impl_Card__columns_rs : Tryz.f67.results.toList = [.tmp 2] := rfl
theorem Cd._impl_Card__columns_nt : Tryz.f67.ntmps = 6 := rfl
theorem Cd._impl_Card__columns_ok : CodeIsR Tryz.prog 67 Tryz.f67 Cd._impl_Card__columns := ⟨Tryz.func67, by kernel_rfl, by decide +kernel⟩
/-- loop.example/g01012/impl.size[loop.example/g01012/impl.Card] -/
def Cd.impl_size_impl_Card_ : ACode :=
  .seq (.region [⟨some 2, .mv (.const (.int .i64 (0))), none⟩] [0] []) <|
  .seq (.region [⟨some 3, .mv (.tmp 0), none⟩,
     ⟨some 4, .len (.tmp 3), none⟩,
     ⟨some 2, .mv (.tmp 4), none⟩] [2] []) <|
  .ret
theorem Cd.impl_size_impl_Card__rs : Tryz.f68.results.toList = [.tmp 2] := rfl
theorem Cd.impl_size_impl_Card__nt : Tryz.f68.ntmps = 5 := rfl
theorem Cd.impl_size_impl_Card__ok : CodeIsR Tryz.prog 68 Tryz.f68 Cd.impl_size_impl_Card_ := ⟨Tryz.func68, by kernel_rfl, by decide +kernel⟩
/-- loop.example/g01012/impl.numberIn DRAWS -/
def Cd.impl_numberIn : ACode :=
  .seq (.region [⟨some 2, .box (.tmp 0), none⟩,
     ⟨some 3, .box (.tmp 1), none⟩,
     ⟨some 4, .mv (.const (.int .i64 (0))), none⟩,
     ⟨some 5, .mv (.const (.bool false)), none⟩] [2, 3] []) <|
  .seq (.region [⟨some 14, .fieldAddr 0 (.tmp 2), none⟩,
     ⟨some 15, .load false 1 (.tmp 14), none⟩,
     ⟨some 16, .fieldAddr 0 (.tmp 3), none⟩,
     ⟨some 17, .load false 1 (.tmp 16), none⟩,
     ⟨some 18, .fieldAddr 1 (.tmp 3), none⟩,
     ⟨some 19, .load false 1 (.tmp 18), none⟩,
     ⟨some 20, .slc 1 (.tmp 15) (some (.tmp 17)) (some (.tmp 19)), none⟩,
     ⟨some 21, .call (.func F.impl_copyInts) [(.tmp 20)] [], none⟩,
     ⟨some 6, .mv (.tmp 21), none⟩] [6] []) <|
  .seq (.seq (.region [⟨some 22, .mv (.tmp 6), none⟩,
      ⟨some 23, .call (.func F.slices_ContainsFunc___int64_int64_) [(.tmp 22), (.func F.impl_numberIn_1)] [], none⟩,
      ⟨some 24, .un .not (.tmp 23), none⟩] [6, 24] []) <|
   .cond (.tmp 24)
     (.seq (.region [⟨some 4, .mv (.const (.int .i64 (0))), none⟩,
        ⟨some 5, .mv (.const (.bool true)), none⟩] [4, 5] []) <|
     .ret)
     (.skip)) <|
  .seq (.region [⟨some 25, .mv (.tmp 6), none⟩,
     ⟨some 26, .len (.tmp 25), none⟩,
     ⟨some 27, .bin .sub (.tmp 26) (.const (.int .i64 (1))), none⟩,
     ⟨some 7, .mv (.tmp 27), none⟩] [6, 7] []) <|
  .seq (.region [⟨some 28, .mv (.tmp 6), none⟩,
     ⟨some 29, .mv (.tmp 7), none⟩,
     ⟨some 30, .idxSl 1 (.tmp 28) (.tmp 29), none⟩,
     ⟨some 31, .load false 1 (.tmp 30), none⟩,
     ⟨some 32, .call (.func F.impl_bitOf) [(.const (.int .i64 (11)))] [], none⟩,
     ⟨some 33, .bin .and (.tmp 31) (.tmp 32), none⟩,
     ⟨some 34, .bin .neq (.tmp 33) (.const (.int .i64 (0))), none⟩,
     ⟨some 8, .mv (.tmp 34), none⟩] [6, 7, 8] [28, 29, 31, 32, 30, 33, 34]) <|
  .seq (.region [⟨some 35, .mv (.tmp 6), none⟩,
     ⟨some 36, .mv (.tmp 7), none⟩,
     ⟨some 37, .idxSl 1 (.tmp 35) (.tmp 36), none⟩,
     ⟨some 38, .load false 1 (.tmp 37), none⟩,
     ⟨some 39, .call (.func F.impl_bitOf) [(.const (.int .i64 (11)))] [], none⟩,
     ⟨some 40, .bin .andNot (.tmp 38) (.tmp 39), none⟩,
     ⟨some 41, .idxSl 1 (.tmp 35) (.tmp 36), none⟩,
     ⟨none, .store 1 (.tmp 41) (.tmp 40), none⟩] [6, 7, 8] [35, 36, 38, 39, 37, 40]) <|
  .seq (.region [⟨some 9, .mv (.const (.int .i64 (0))), none⟩,
     ⟨some 10, .mv (.const (.bool false)), none⟩] [6, 7, 8, 9, 10] []) <|
  .seq (.seq (.region [⟨some 42, .mv (.tmp 6), none⟩,
      ⟨some 43, .len (.tmp 42), none⟩,
      ⟨some 44, .mv (.const (.int .i64 (0))), none⟩] [6, 7, 8, 9, 10, 42, 43, 44] []) <|
   .block 0 (
     .loop (
       .seq (.region [⟨some 45, .bin .lss (.tmp 44) (.tmp 43), none⟩] [6, 7, 8, 9, 10, 42, 43, 44, 45] []) <|
       .seq (.cond (.tmp 45)
          (.skip)
          (.exit 0)) <|
       .seq (.block 1 (
          .seq (.region [⟨some 46, .idxSl 1 (.tmp 42) (.tmp 44), none⟩,
             ⟨some 47, .load false 1 (.tmp 46), none⟩,
             ⟨some 12, .mv (.tmp 47), none⟩] [6, 7, 8, 9, 10, 12, 42, 43, 44] []) <|
          .seq (.region [⟨some 48, .mv (.tmp 12), none⟩,
             ⟨some 49, .call (.func F.impl_digitOf) [(.tmp 48)] [], none⟩,
             ⟨some 13, .mv (.tmp 49), none⟩] [6, 7, 8, 9, 10, 12, 13, 42, 43, 44] []) <|
          .seq (.block 2 (
             .seq (.region [⟨some 51, .mv (.tmp 12), none⟩,
                ⟨some 52, .bin .eql (.tmp 51) (.const (.int .i64 (0))), none⟩,
                ⟨some 53, .mv (.tmp 52), none⟩,
                ⟨some 54, .mv (.tmp 10), some (53, true)⟩,
                ⟨some 55, .un .not (.tmp 54), some (53, true)⟩,
                ⟨some 56, .pick (.tmp 53) (.tmp 55) (.const (.bool false)), none⟩,
                ⟨some 50, .mv (.tmp 56), none⟩] [6, 7, 8, 9, 10, 13, 42, 43, 44, 50] []) <|
             .cond (.tmp 50)
               (.exit 1)
               (.seq (.region [⟨some 58, .mv (.tmp 13), none⟩,
                  ⟨some 59, .bin .lss (.tmp 58) (.const (.int .i64 (0))), none⟩,
                  ⟨some 57, .mv (.tmp 59), none⟩] [6, 7, 8, 9, 13, 42, 43, 44, 57] []) <|
               .cond (.tmp 57)
                 (.seq (.region [⟨some 4, .mv (.const (.int .i64 (0))), none⟩,
                    ⟨some 5, .mv (.const (.bool false)), none⟩] [4, 5] []) <|
                 .ret)
                 (.skip)))) <|
          .seq (.region [⟨some 10, .mv (.const (.bool true)), none⟩] [6, 7, 8, 9, 10, 13, 42, 43, 44] []) <|
          .region [⟨some 60, .mv (.tmp 9), none⟩,
            ⟨some 61, .bin .mul (.const (.int .i64 (10))) (.tmp 60), none⟩,
            ⟨some 62, .mv (.tmp 13), none⟩,
            ⟨some 63, .bin .add (.tmp 61) (.tmp 62), none⟩,
            ⟨some 9, .mv (.tmp 63), none⟩] [6, 7, 8, 9, 10, 42, 43, 44] [])) <|
       .region [⟨some 64, .bin .add (.tmp 44) (.const (.int .i64 (1))), none⟩,
         ⟨some 44, .mv (.tmp 64), none⟩] [6, 7, 8, 9, 10, 42, 43, 44] []))) <|
  .seq (.seq (.region [⟨some 65, .mv (.tmp 10), none⟩,
      ⟨some 66, .un .not (.tmp 65), none⟩,
      ⟨some 67, .mv (.tmp 66), none⟩,
      ⟨some 68, .mv (.tmp 6), some (67, false)⟩,
      ⟨some 69, .mv (.tmp 7), some (67, false)⟩,
      ⟨some 70, .idxSl 1 (.tmp 68) (.tmp 69), some (67, false)⟩,
      ⟨some 71, .load false 1 (.tmp 70), some (67, false)⟩,
      ⟨some 72, .bin .eql (.tmp 71) (.const (.int .i64 (0))), some (67, false)⟩,
      ⟨some 73, .pick (.tmp 67) (.const (.bool true)) (.tmp 72), none⟩,
      ⟨some 74, .mv (.tmp 73), none⟩,
      ⟨some 75, .mv (.tmp 8), some (74, false)⟩,
      ⟨some 76, .mv (.tmp 75), some (74, false)⟩,
      ⟨some 77, .mv (.tmp 9), some (76, true)⟩,
      ⟨some 78, .bin .eql (.tmp 77) (.const (.int .i64 (0))), some (76, true)⟩,
      ⟨some 79, .pick (.tmp 76) (.tmp 78) (.const (.bool false)), some (74, false)⟩,
      ⟨some 80, .pick (.tmp 74) (.const (.bool true)) (.tmp 79), none⟩] [8, 9, 80] []) <|
   .cond (.tmp 80)
     (.seq (.region [⟨some 4, .mv (.const (.int .i64 (0))), none⟩,
        ⟨some 5, .mv (.const (.bool false)), none⟩] [4, 5] []) <|
     .ret)
     (.skip)) <|
  .seq (.seq (.region [⟨some 81, .mv (.tmp 8), none⟩] [9, 81] []) <|
   .cond (.tmp 81)
     (.region [⟨some 82, .mv (.tmp 9), none⟩,
       ⟨some 83, .un .neg (.tmp 82), none⟩,
       ⟨some 9, .mv (.tmp 83), none⟩] [9] [])
     (.skip)) <|
  .seq (.region [⟨some 84, .mv (.tmp 9), none⟩,
     ⟨some 4, .mv (.tmp 84), none⟩,
     ⟨some 5, .mv (.const (.bool true)), none⟩] [4, 5] []) <|
  .ret
theorem Cd.impl_numberIn_rs : Tryz.f69.results.toList = [.tmp 4, .tmp 5] := rfl
theorem Cd.impl_numberIn_nt : Tryz.f69.ntmps = 85 := rfl
theorem Cd.impl_numberIn_ok : CodeIsR Tryz.prog 69 Tryz.f69 Cd.impl_numberIn := ⟨Tryz.func69, by kernel_rfl, by decide +kernel⟩
/-- loop.example/g01012/impl.digitSum -/
def Cd.impl_digitSum : ACode :=
  .seq (.region [⟨some 2, .mv (.const (.int .i64 (0))), none⟩] [0] []) <|
  .seq (.region [⟨some 3, .mv (.const (.int .i64 (0))), none⟩] [0, 3] []) <|
  .seq (.seq (.region [⟨some 6, .mv (.tmp 0), none⟩,
      ⟨some 7, .call (.func F.impl_digitList) [(.tmp 6)] [], none⟩,
      ⟨some 8, .len (.tmp 7), none⟩,
      ⟨some 9, .mv (.const (.int .i64 (0))), none⟩] [3, 7, 8, 9] []) <|
   .block 0 (
     .loop (
       .seq (.region [⟨some 10, .bin .lss (.tmp 9) (.tmp 8), none⟩] [3, 7, 8, 9, 10] []) <|
       .seq (.cond (.tmp 10)
          (.skip)
          (.exit 0)) <|
       .seq (.block 1 (
          .seq (.region [⟨some 11, .idxSl 1 (.tmp 7) (.tmp 9), none⟩,
             ⟨some 12, .load false 1 (.tmp 11), none⟩,
             ⟨some 5, .mv (.tmp 12), none⟩] [3, 5, 7, 8, 9] []) <|
          .region [⟨some 13, .mv (.tmp 3), none⟩,
            ⟨some 14, .mv (.tmp 5), none⟩,
            ⟨some 15, .bin .add (.tmp 13) (.tmp 14), none⟩,
            ⟨some 3, .mv (.tmp 15), none⟩] [3, 7, 8, 9] [])) <|
       .region [⟨some 16, .bin .add (.tmp 9) (.const (.int .i64 (1))), none⟩,
         ⟨some 9, .mv (.tmp 16), none⟩] [3, 7, 8, 9] []))) <|
  .seq (.region [⟨some 17, .mv (.tmp 3), none⟩,
     ⟨some 2, .mv (.tmp 17), none⟩] [2] []) <|
  .ret
theorem Cd.impl_digitSum_rs : Tryz.f70.results.toList = [.tmp 2] := rfl
theorem Cd.impl_digitSum_nt : Tryz.f70.ntmps = 18 := rfl
theorem Cd.impl_digitSum_ok : CodeIsR Tryz.prog 70 Tryz.f70 Cd.impl_digitSum := ⟨Tryz.func70, by kernel_rfl, by decide +kernel⟩
/-- loop.example/g01012/laws.eqTotalS DRAWS -/
def Cd.laws_eqTotalS : ACode :=
  .seq (.region [⟨some 4, .mv (.const (.bool false)), none⟩] [0, 1] []) <|
  .seq (.seq (.region [⟨some 6, .mv (.tmp 0), none⟩,
      ⟨some 7, .len (.tmp 6), none⟩,
      ⟨some 8, .mv (.tmp 1), none⟩,
      ⟨some 9, .len (.tmp 8), none⟩,
      ⟨some 10, .bin .neq (.tmp 7) (.tmp 9), none⟩] [0, 1, 10] []) <|
   .cond (.tmp 10)
     (.seq (.region [⟨some 4, .mv (.const (.bool false)), none⟩] [4] []) <|
     .ret)
     (.skip)) <|
  .seq (.seq (.region [⟨some 5, .mv (.const (.int .i64 (0))), none⟩] [0, 1, 5] []) <|
   .block 0 (
     .loop (
       .seq (.seq (.region [⟨some 11, .mv (.tmp 5), none⟩,
           ⟨some 12, .mv (.tmp 0), none⟩,
           ⟨some 13, .len (.tmp 12), none⟩,
           ⟨some 14, .bin .lss (.tmp 11) (.tmp 13), none⟩] [0, 1, 5, 14] []) <|
        .cond (.tmp 14)
          (.skip)
          (.exit 0)) <|
       .seq (.block 1 (
          .seq (.region [⟨some 17, .mv (.tmp 0), none⟩,
             ⟨some 18, .mv (.tmp 5), none⟩,
             ⟨some 19, .idxSl 2 (.tmp 17) (.tmp 18), none⟩,
             ⟨some 20, .load true 2 (.tmp 19), none⟩,
             ⟨some 21, .mv (.tmp 1), none⟩,
             ⟨some 22, .mv (.tmp 5), none⟩,
             ⟨some 23, .idxSl 2 (.tmp 21) (.tmp 22), none⟩,
             ⟨some 24, .load true 2 (.tmp 23), none⟩,
             ⟨some 25, .call (.func F.laws_eqTotal) [(.tmp 20), (.tmp 24)] [], none⟩,
             ⟨some 26, .un .not (.tmp 25), none⟩] [0, 1, 5, 26] [17, 18, 20, 21, 19, 22, 23, 24, 25, 26]) <|
          .cond (.tmp 26)
            (.seq (.region [⟨some 4, .mv (.const (.bool false)), none⟩] [4] []) <|
            .ret)
            (.skip))) <|
       .region [⟨some 15, .mv (.tmp 5), none⟩,
         ⟨some 16, .bin .add (.tmp 15) (.const (.int .i64 (1))), none⟩,
         ⟨some 5, .mv (.tmp 16), none⟩] [0, 1, 5] []))) <|
  .seq (.region [⟨some 4, .mv (.const (.bool true)), none⟩] [4] []) <|
  .ret
theorem Cd.laws_eqTotalS_rs : Tryz.f71.results.toList = [.tmp 4] := rfl
theorem Cd.laws_eqTotalS_nt : Tryz.f71.ntmps = 27 := rfl
theorem Cd.laws_eqTotalS_ok : CodeIsR Tryz.prog 71 Tryz.f71 Cd.laws_eqTotalS := ⟨Tryz.func71, by kernel_rfl, by decide +kernel⟩
/-- loop.example/g01012/laws.szInt64S -/
def Cd.laws_szInt64S : ACode :=
  .seq (.region [⟨some 4, .mv (.const (.int .i64 (0))), none⟩] [0, 1] []) <|
  .seq (.region [⟨some 5, .mv (.tmp 1), none⟩,
     ⟨some 6, .mv (.tmp 0), none⟩,
     ⟨some 7, .len (.tmp 6), none⟩,
     ⟨some 8, .bin .sub (.tmp 5) (.tmp 7), none⟩,
     ⟨some 1, .mv (.tmp 8), none⟩] [1] []) <|
  .seq (.seq (.region [⟨some 9, .mv (.tmp 1), none⟩,
      ⟨some 10, .bin .lss (.tmp 9) (.const (.int .i64 (0))), none⟩] [1, 10] []) <|
   .cond (.tmp 10)
     (.seq (.region [⟨some 4, .mv (.const (.int .i64 (-1))), none⟩] [4] []) <|
     .ret)
     (.skip)) <|
  .seq (.region [⟨some 11, .mv (.tmp 1), none⟩,
     ⟨some 4, .mv (.tmp 11), none⟩] [4] []) <|
  .ret
theorem Cd.laws_szInt64S_rs : Tryz.f72.results.toList = [.tmp 4] := rfl
theorem Cd.laws_szInt64S_nt : Tryz.f72.ntmps = 12 := rfl
theorem Cd.laws_szInt64S_ok : CodeIsR Tryz.prog 72 Tryz.f72 Cd.laws_szInt64S := ⟨Tryz.func72, by kernel_rfl, by decide +kernel⟩
/-- loop.example/g01012/spec.l02Ok -/
def Cd.spec_l02Ok : ACode :=
  .seq (.region [⟨some 2, .mv (.const (.bool false)), none⟩] [0] []) <|
  .seq (.seq (.region [⟨some 3, .mv (.const (.int .i64 (0))), none⟩] [0, 3] []) <|
   .block 0 (
     .loop (
       .seq (.seq (.region [⟨some 4, .mv (.tmp 3), none⟩,
           ⟨some 5, .mv (.tmp 0), none⟩,
           ⟨some 6, .nilc (.tmp 5), none⟩,
           ⟨some 7, .fieldAddr 0 (.tmp 6), none⟩,
           ⟨some 8, .load false 1 (.tmp 7), none⟩,
           ⟨some 9, .len (.tmp 8), none⟩,
           ⟨some 10, .bin .lss (.tmp 4) (.tmp 9), none⟩] [0, 3, 10] []) <|
        .cond (.tmp 10)
          (.skip)
          (.exit 0)) <|
       .seq (.block 1 (
          .seq (.region [⟨some 13, .mv (.tmp 0), none⟩,
             ⟨some 14, .nilc (.tmp 13), none⟩,
             ⟨some 15, .fieldAddr 0 (.tmp 14), none⟩,
             ⟨some 16, .load false 1 (.tmp 15), none⟩,
             ⟨some 17, .mv (.tmp 3), none⟩,
             ⟨some 18, .idxSl 1 (.tmp 16) (.tmp 17), none⟩,
             ⟨some 19, .load false 1 (.tmp 18), none⟩,
             ⟨some 20, .call (.func F.spec_l00In) [(.tmp 19), (.const (.int .i64 (0))), (.const (.int .i64 (4095)))] [], none⟩,
             ⟨some 21, .un .not (.tmp 20), none⟩] [0, 3, 21] []) <|
          .cond (.tmp 21)
            (.seq (.region [⟨some 2, .mv (.const (.bool false)), none⟩] [2] []) <|
            .ret)
            (.skip))) <|
       .region [⟨some 11, .mv (.tmp 3), none⟩,
         ⟨some 12, .bin .add (.tmp 11) (.const (.int .i64 (1))), none⟩,
         ⟨some 3, .mv (.tmp 12), none⟩] [0, 3] []))) <|
  .seq (.region [⟨some 22, .mv (.tmp 0), none⟩,
     ⟨some 23, .nilc (.tmp 22), none⟩,
     ⟨some 24, .fieldAddr 0 (.tmp 23), none⟩,
     ⟨some 25, .load false 1 (.tmp 24), none⟩,
     ⟨some 26, .len (.tmp 25), none⟩,
     ⟨some 27, .call (.func F.spec_l00In) [(.tmp 26), (.const (.int .i64 (1))), (.const (.int .i64 (20)))] [], none⟩,
     ⟨some 2, .mv (.tmp 27), none⟩] [2] []) <|
  .ret
theorem Cd.spec_l02Ok_rs : Tryz.f73.results.toList = [.tmp 2] := rfl
theorem Cd.spec_l02Ok_nt : Tryz.f73.ntmps = 28 := rfl
theorem Cd.spec_l02Ok_ok : CodeIsR Tryz.prog 73 Tryz.f73 Cd.spec_l02Ok := ⟨Tryz.func73, by kernel_rfl, by decide +kernel⟩
/-- loop.example/g01012/laws.toInt64S -/
def Cd.laws_toInt64S : ACode :=
  .seq (.region [⟨some 2, .mv (.const (.slice none 0 0)), none⟩] [0] []) <|
  .seq (.region [⟨some 5, .mv (.tmp 0), none⟩,
     ⟨some 6, .len (.tmp 5), none⟩,
     ⟨some 7, .mk 1 8 [.v (.int .i64 (0))] (.tmp 6), none⟩,
     ⟨some 3, .mv (.tmp 7), none⟩] [0, 3] []) <|
  .seq (.seq (.region [⟨some 4, .mv (.const (.int .i64 (0))), none⟩] [0, 3, 4] []) <|
   .block 0 (
     .loop (
       .seq (.seq (.region [⟨some 8, .mv (.tmp 4), none⟩,
           ⟨some 9, .mv (.tmp 0), none⟩,
           ⟨some 10, .len (.tmp 9), none⟩,
           ⟨some 11, .bin .lss (.tmp 8) (.tmp 10), none⟩] [0, 3, 4, 11] []) <|
        .cond (.tmp 11)
          (.skip)
          (.exit 0)) <|
       .seq (.block 1 (
          .region [⟨some 14, .mv (.tmp 3), none⟩,
            ⟨some 15, .mv (.tmp 4), none⟩,
            ⟨some 16, .mv (.tmp 0), none⟩,
            ⟨some 17, .mv (.tmp 4), none⟩,
            ⟨some 18, .idxSl 1 (.tmp 16) (.tmp 17), none⟩,
            ⟨some 19, .load false 1 (.tmp 18), none⟩,
            ⟨some 20, .idxSl 1 (.tmp 14) (.tmp 15), none⟩,
            ⟨none, .store 1 (.tmp 20) (.tmp 19), none⟩] [0, 3, 4] [])) <|
       .region [⟨some 12, .mv (.tmp 4), none⟩,
         ⟨some 13, .bin .add (.tmp 12) (.const (.int .i64 (1))), none⟩,
         ⟨some 4, .mv (.tmp 13), none⟩] [0, 3, 4] []))) <|
  .seq (.region [⟨some 21, .mv (.tmp 3), none⟩,
     ⟨some 2, .mv (.tmp 21), none⟩] [2] []) <|
  .ret
theorem Cd.laws_toInt64S_rs : Tryz.f77.results.toList = [.tmp 2] := rfl
theorem Cd.laws_toInt64S_nt : Tryz.f77.ntmps = 22 := rfl
theorem Cd.laws_toInt64S_ok : CodeIsR Tryz.prog 77 Tryz.f77 Cd.laws_toInt64S := ⟨Tryz.func77, by kernel_rfl, by decide +kernel⟩
/-- loop.example/g01012/impl.ValidCard -/
def Cd.impl_ValidCard : ACode :=
  .seq (.region [⟨some 1, .box (.tmp 0), none⟩,
     ⟨some 2, .mv (.const (.bool false)), none⟩] [1] []) <|
  .seq (.region [⟨some 3, .load true 1 (.tmp 1), none⟩,
     ⟨some 4, .call (.func F._impl_Card__columns) [(.tmp 3)] [], none⟩,
     ⟨some 5, .call (.func F.impl_inside) [(.tmp 4), (.const (.int .i64 (1))), (.const (.int .i64 (20)))] [], none⟩,
     ⟨some 6, .mv (.tmp 5), none⟩,
     ⟨some 7, .fieldAddr 0 (.tmp 1), some (6, true)⟩,
     ⟨some 8, .load false 1 (.tmp 7), some (6, true)⟩,
     ⟨some 9, .call (.func F.slices_ContainsFunc___int64_int64_) [(.tmp 8), (.func F.impl_ValidCard_1)] [], some (6, true)⟩,
     ⟨some 10, .un .not (.tmp 9), some (6, true)⟩,
     ⟨some 11, .pick (.tmp 6) (.tmp 10) (.const (.bool false)), none⟩,
     ⟨some 2, .mv (.tmp 11), none⟩] [2] []) <|
  .ret
theorem Cd.impl_ValidCard_rs : Tryz.f78.results.toList = [.tmp 2] := rfl
theorem Cd.impl_ValidCard_nt : Tryz.f78.ntmps = 12 := rfl
theorem Cd.impl_ValidCard_ok : CodeIsR Tryz.prog 78 Tryz.f78 Cd.impl_ValidCard := ⟨Tryz.func78, by kernel_rfl, by decide +kernel⟩
/-- loop.example/g01012/impl.newDeck -/
def Cd.impl_newDeck : ACode :=
  .seq (.region [⟨some 2, .mv (.const (.slice none 0 0)), none⟩] [0] []) <|
  .seq (.naming 3 (
     .region [⟨some 6, .bslice 1 0 [.v (.slice none 0 0)] [], none⟩,
       ⟨some 3, .mv (.tmp 6), none⟩] [0, 3] [])) <|
  .seq (.seq (.region [⟨some 7, .mv (.tmp 0), none⟩,
      ⟨some 8, .len (.tmp 7), none⟩,
      ⟨some 9, .mv (.const (.int .i64 (0))), none⟩] [3, 7, 8, 9] []) <|
   .block 0 (
     .loop (
       .seq (.region [⟨some 10, .bin .lss (.tmp 9) (.tmp 8), none⟩] [3, 7, 8, 9, 10] []) <|
       .seq (.cond (.tmp 10)
          (.skip)
          (.exit 0)) <|
       .seq (.block 1 (
          .seq (.region [⟨some 11, .idxSl 1 (.tmp 7) (.tmp 9), none⟩,
             ⟨some 12, .load true 1 (.tmp 11), none⟩,
             ⟨some 5, .alloc [.v (.slice none 0 0)], none⟩,
             ⟨none, .store 1 (.tmp 5) (.tmp 12), none⟩] [3, 5, 7, 8, 9] []) <|
          .naming 3 (
            .region [⟨some 13, .mv (.tmp 3), none⟩,
              ⟨some 14, .load true 1 (.tmp 5), none⟩,
              ⟨some 15, .call (.func F.impl_newCard) [(.tmp 14)] [], none⟩,
              ⟨some 16, .bslice 1 1 [.v (.slice none 0 0)] [(0, (.tmp 15))], none⟩,
              ⟨some 17, .append 1 24 (.tmp 13) (.tmp 16), none⟩,
              ⟨some 3, .mv (.tmp 17), none⟩] [3, 7, 8, 9] []))) <|
       .region [⟨some 18, .bin .add (.tmp 9) (.const (.int .i64 (1))), none⟩,
         ⟨some 9, .mv (.tmp 18), none⟩] [3, 7, 8, 9] []))) <|
  .seq (.region [⟨some 19, .mv (.tmp 3), none⟩,
     ⟨some 2, .mv (.tmp 19), none⟩] [2] []) <|
  .ret
theorem Cd.impl_newDeck_rs : Tryz.f83.results.toList = [.tmp 2] := rfl
theorem Cd.impl_newDeck_nt : Tryz.f83.ntmps = 20 := rfl
theorem Cd.impl_newDeck_ok : CodeIsR Tryz.prog 83 Tryz.f83 Cd.impl_newDeck := ⟨Tryz.func83, by kernel_rfl, by decide +kernel⟩
/-- loop.example/g01012/laws.eqInt64S DRAWS -/
def Cd.laws_eqInt64S : ACode :=
  .seq (.region [⟨some 4, .mv (.const (.bool false)), none⟩] [0, 1] []) <|
  .seq (.seq (.region [⟨some 6, .mv (.tmp 0), none⟩,
      ⟨some 7, .len (.tmp 6), none⟩,
      ⟨some 8, .mv (.tmp 1), none⟩,
      ⟨some 9, .len (.tmp 8), none⟩,
      ⟨some 10, .bin .neq (.tmp 7) (.tmp 9), none⟩] [0, 1, 10] []) <|
   .cond (.tmp 10)
     (.seq (.region [⟨some 4, .mv (.const (.bool false)), none⟩] [4] []) <|
     .ret)
     (.skip)) <|
  .seq (.seq (.region [⟨some 5, .mv (.const (.int .i64 (0))), none⟩] [0, 1, 5] []) <|
   .block 0 (
     .loop (
       .seq (.seq (.region [⟨some 11, .mv (.tmp 5), none⟩,
           ⟨some 12, .mv (.tmp 0), none⟩,
           ⟨some 13, .len (.tmp 12), none⟩,
           ⟨some 14, .bin .lss (.tmp 11) (.tmp 13), none⟩] [0, 1, 5, 14] []) <|
        .cond (.tmp 14)
          (.skip)
          (.exit 0)) <|
       .seq (.block 1 (
          .seq (.region [⟨some 17, .mv (.tmp 0), none⟩,
             ⟨some 18, .mv (.tmp 5), none⟩,
             ⟨some 19, .idxSl 1 (.tmp 17) (.tmp 18), none⟩,
             ⟨some 20, .load false 1 (.tmp 19), none⟩,
             ⟨some 21, .mv (.tmp 1), none⟩,
             ⟨some 22, .mv (.tmp 5), none⟩,
             ⟨some 23, .idxSl 1 (.tmp 21) (.tmp 22), none⟩,
             ⟨some 24, .load false 1 (.tmp 23), none⟩,
             ⟨some 25, .bin .neq (.tmp 20) (.tmp 24), none⟩] [0, 1, 5, 25] [17, 18, 20, 21, 19, 22, 23, 24, 25]) <|
          .cond (.tmp 25)
            (.seq (.region [⟨some 4, .mv (.const (.bool false)), none⟩] [4] []) <|
            .ret)
            (.skip))) <|
       .region [⟨some 15, .mv (.tmp 5), none⟩,
         ⟨some 16, .bin .add (.tmp 15) (.const (.int .i64 (1))), none⟩,
         ⟨some 5, .mv (.tmp 16), none⟩] [0, 1, 5] []))) <|
  .seq (.region [⟨some 4, .mv (.const (.bool true)), none⟩] [4] []) <|
  .ret
theorem Cd.laws_eqInt64S_rs : Tryz.f86.results.toList = [.tmp 4] := rfl
theorem Cd.laws_eqInt64S_nt : Tryz.f86.ntmps = 26 := rfl
theorem Cd.laws_eqInt64S_ok : CodeIsR Tryz.prog 86 Tryz.f86 Cd.laws_eqInt64S := ⟨Tryz.func86, by kernel_rfl, by decide +kernel⟩
/-- loop.example/g01012/laws.szTotal -/
def Cd.laws_szTotal : ACode :=
  .seq (.region [⟨some 2, .box (.tmp 0), none⟩,
     ⟨some 4, .mv (.const (.int .i64 (0))), none⟩] [1, 2] []) <|
  .seq (.region [⟨some 5, .mv (.tmp 1), none⟩,
     ⟨some 6, .fieldAddr 0 (.tmp 2), none⟩,
     ⟨some 7, .load false 1 (.tmp 6), none⟩,
     ⟨some 8, .lenS (.tmp 7), none⟩,
     ⟨some 9, .bin .sub (.tmp 5) (.tmp 8), none⟩,
     ⟨some 1, .mv (.tmp 9), none⟩] [1] []) <|
  .seq (.seq (.region [⟨some 10, .mv (.tmp 1), none⟩,
      ⟨some 11, .bin .lss (.tmp 10) (.const (.int .i64 (0))), none⟩] [1, 11] []) <|
   .cond (.tmp 11)
     (.seq (.region [⟨some 4, .mv (.const (.int .i64 (-1))), none⟩] [4] []) <|
     .ret)
     (.skip)) <|
  .seq (.region [⟨some 12, .mv (.tmp 1), none⟩,
     ⟨some 4, .mv (.tmp 12), none⟩] [4] []) <|
  .ret
theorem Cd.laws_szTotal_rs : Tryz.f87.results.toList = [.tmp 4] := rfl
theorem Cd.laws_szTotal_nt : Tryz.f87.ntmps = 13 := rfl
theorem Cd.laws_szTotal_ok : CodeIsR Tryz.prog 87 Tryz.f87 Cd.laws_szTotal := ⟨Tryz.func87, by kernel_rfl, by decide +kernel⟩
/-- loop.example/g01012/spec.l03Code -/
def Cd.spec_l03Code : ACode :=
  .seq (.region [⟨some 2, .mv (.const (.int .i64 (0))), none⟩] [0] []) <|
  .seq (.region [⟨some 4, .mv (.tmp 0), none⟩,
     ⟨some 5, .conv .i64 (.tmp 4), none⟩,
     ⟨some 3, .mv (.tmp 5), none⟩] [0, 3] []) <|
  .seq (.block 0 (
     .seq (.region [⟨some 7, .mv (.tmp 0), none⟩,
        ⟨some 8, .bin .eql (.tmp 7) (.const (.int .u8 (32))), none⟩,
        ⟨some 6, .mv (.tmp 8), none⟩] [0, 3, 6] []) <|
     .cond (.tmp 6)
       (.seq (.region [⟨some 2, .mv (.const (.int .i64 (0))), none⟩] [2] []) <|
       .ret)
       (.seq (.region [⟨some 10, .mv (.tmp 0), none⟩,
          ⟨some 11, .bin .eql (.tmp 10) (.const (.int .u8 (38))), none⟩,
          ⟨some 9, .mv (.tmp 11), none⟩] [0, 3, 9] []) <|
       .cond (.tmp 9)
         (.seq (.region [⟨some 2, .mv (.const (.int .i64 (1))), none⟩] [2] []) <|
         .ret)
         (.seq (.region [⟨some 13, .mv (.tmp 0), none⟩,
            ⟨some 14, .bin .eql (.tmp 13) (.const (.int .u8 (45))), none⟩,
            ⟨some 12, .mv (.tmp 14), none⟩] [0, 3, 12] []) <|
         .cond (.tmp 12)
           (.seq (.region [⟨some 2, .mv (.const (.int .i64 (2))), none⟩] [2] []) <|
           .ret)
           (.seq (.region [⟨some 16, .mv (.tmp 0), none⟩,
              ⟨some 17, .bin .eql (.tmp 16) (.const (.int .u8 (47))), none⟩,
              ⟨some 15, .mv (.tmp 17), none⟩] [0, 3, 15] []) <|
           .cond (.tmp 15)
             (.seq (.region [⟨some 18, .call (.func F.spec_l02Bit) [(.const (.int .i64 (1)))] [], none⟩,
                ⟨some 19, .bin .or (.const (.int .i64 (4))) (.tmp 18), none⟩,
                ⟨some 2, .mv (.tmp 19), none⟩] [2] []) <|
             .ret)
             (.seq (.region [⟨some 21, .mv (.tmp 0), none⟩,
                ⟨some 22, .call (.func F.spec_l01Digit) [(.tmp 21)] [], none⟩,
                ⟨some 20, .mv (.tmp 22), none⟩] [0, 3, 20] []) <|
             .cond (.tmp 20)
               (.seq (.region [⟨some 23, .mv (.tmp 3), none⟩,
                  ⟨some 24, .bin .sub (.tmp 23) (.const (.int .i64 (48))), none⟩,
                  ⟨some 25, .call (.func F.spec_l02Bit) [(.tmp 24)] [], none⟩,
                  ⟨some 2, .mv (.tmp 25), none⟩] [2] []) <|
               .ret)
               (.seq (.region [⟨some 27, .mv (.tmp 0), none⟩,
                  ⟨some 28, .bin .geq (.tmp 27) (.const (.int .u8 (65))), none⟩,
                  ⟨some 29, .mv (.tmp 28), none⟩,
                  ⟨some 30, .mv (.tmp 0), some (29, true)⟩,
                  ⟨some 31, .bin .leq (.tmp 30) (.const (.int .u8 (73))), some (29, true)⟩,
                  ⟨some 32, .pick (.tmp 29) (.tmp 31) (.const (.bool false)), none⟩,
                  ⟨some 26, .mv (.tmp 32), none⟩] [0, 3, 26] []) <|
               .cond (.tmp 26)
                 (.seq (.region [⟨some 33, .mv (.tmp 3), none⟩,
                    ⟨some 34, .bin .sub (.tmp 33) (.const (.int .i64 (65))), none⟩,
                    ⟨some 35, .bin .add (.tmp 34) (.const (.int .i64 (1))), none⟩,
                    ⟨some 36, .call (.func F.spec_l02Bit) [(.tmp 35)] [], none⟩,
                    ⟨some 37, .bin .or (.const (.int .i64 (1))) (.tmp 36), none⟩,
                    ⟨some 2, .mv (.tmp 37), none⟩] [2] []) <|
                 .ret)
                 (.seq (.region [⟨some 39, .mv (.tmp 0), none⟩,
                    ⟨some 40, .bin .geq (.tmp 39) (.const (.int .u8 (74))), none⟩,
                    ⟨some 41, .mv (.tmp 40), none⟩,
                    ⟨some 42, .mv (.tmp 0), some (41, true)⟩,
                    ⟨some 43, .bin .leq (.tmp 42) (.const (.int .u8 (82))), some (41, true)⟩,
                    ⟨some 44, .pick (.tmp 41) (.tmp 43) (.const (.bool false)), none⟩,
                    ⟨some 38, .mv (.tmp 44), none⟩] [0, 3, 38] []) <|
                 .cond (.tmp 38)
                   (.seq (.region [⟨some 45, .mv (.tmp 3), none⟩,
                      ⟨some 46, .bin .sub (.tmp 45) (.const (.int .i64 (74))), none⟩,
                      ⟨some 47, .bin .add (.tmp 46) (.const (.int .i64 (1))), none⟩,
                      ⟨some 48, .call (.func F.spec_l02Bit) [(.tmp 47)] [], none⟩,
                      ⟨some 49, .bin .or (.const (.int .i64 (2))) (.tmp 48), none⟩,
                      ⟨some 2, .mv (.tmp 49), none⟩] [2] []) <|
                   .ret)
                   (.seq (.region [⟨some 51, .mv (.tmp 0), none⟩,
                      ⟨some 52, .bin .geq (.tmp 51) (.const (.int .u8 (83))), none⟩,
                      ⟨some 53, .mv (.tmp 52), none⟩,
                      ⟨some 54, .mv (.tmp 0), some (53, true)⟩,
                      ⟨some 55, .bin .leq (.tmp 54) (.const (.int .u8 (90))), some (53, true)⟩,
                      ⟨some 56, .pick (.tmp 53) (.tmp 55) (.const (.bool false)), none⟩,
                      ⟨some 50, .mv (.tmp 56), none⟩] [3, 50] []) <|
                   .cond (.tmp 50)
                     (.seq (.region [⟨some 57, .mv (.tmp 3), none⟩,
                        ⟨some 58, .bin .sub (.tmp 57) (.const (.int .i64 (83))), none⟩,
                        ⟨some 59, .bin .add (.tmp 58) (.const (.int .i64 (2))), none⟩,
                        ⟨some 60, .call (.func F.spec_l02Bit) [(.tmp 59)] [], none⟩,
                        ⟨some 61, .bin .or (.const (.int .i64 (4))) (.tmp 60), none⟩,
                        ⟨some 2, .mv (.tmp 61), none⟩] [2] []) <|
                     .ret)
                     (.skip)))))))))) <|
  .seq (.region [⟨some 2, .mv (.const (.int .i64 (-1))), none⟩] [2] []) <|
  .ret
theorem Cd.spec_l03Code_rs : Tryz.f88.results.toList = [.tmp 2] := rfl
theorem Cd.spec_l03Code_nt : Tryz.f88.ntmps = 62 := rfl
theorem Cd.spec_l03Code_ok : CodeIsR Tryz.prog 88 Tryz.f88 Cd.spec_l03Code := ⟨Tryz.func88, by kernel_rfl, by decide +kernel⟩
/-- loop.example/g01012/spec.l03Digit -/
def Cd.spec_l03Digit : ACode :=
  .seq (.region [⟨some 2, .mv (.const (.int .i64 (0))), none⟩] [0] []) <|
  .seq (.seq (.region [⟨some 3, .mv (.const (.int .i64 (0))), none⟩] [0, 3] []) <|
   .block 0 (
     .loop (
       .seq (.seq (.region [⟨some 4, .mv (.tmp 3), none⟩,
           ⟨some 5, .bin .leq (.tmp 4) (.const (.int .i64 (9))), none⟩] [0, 3, 5] []) <|
        .cond (.tmp 5)
          (.skip)
          (.exit 0)) <|
       .seq (.block 1 (
          .seq (.region [⟨some 8, .mv (.tmp 0), none⟩,
             ⟨some 9, .mv (.tmp 3), none⟩,
             ⟨some 10, .call (.func F.spec_l02Bit) [(.tmp 9)] [], none⟩,
             ⟨some 11, .bin .eql (.tmp 8) (.tmp 10), none⟩] [0, 3, 11] []) <|
          .cond (.tmp 11)
            (.seq (.region [⟨some 12, .mv (.tmp 3), none⟩,
               ⟨some 2, .mv (.tmp 12), none⟩] [2] []) <|
            .ret)
            (.skip))) <|
       .region [⟨some 6, .mv (.tmp 3), none⟩,
         ⟨some 7, .bin .add (.tmp 6) (.const (.int .i64 (1))), none⟩,
         ⟨some 3, .mv (.tmp 7), none⟩] [0, 3] []))) <|
  .seq (.region [⟨some 2, .mv (.const (.int .i64 (-1))), none⟩] [2] []) <|
  .ret
theorem Cd.spec_l03Digit_rs : Tryz.f89.results.toList = [.tmp 2] := rfl
theorem Cd.spec_l03Digit_nt : Tryz.f89.ntmps = 13 := rfl
theorem Cd.spec_l03Digit_ok : CodeIsR Tryz.prog 89 Tryz.f89 Cd.spec_l03Digit := ⟨Tryz.func89, by kernel_rfl, by decide +kernel⟩
/-- loop.example/g01012/laws.toTotal -/
def Cd.laws_toTotal : ACode :=
  .seq (.region [⟨some 1, .box (.tmp 0), none⟩,
     ⟨some 2, .alloc [.v (.string ⟨#[]⟩), .v (.int .i64 (0))], none⟩] [1, 2] []) <|
  .seq (.region [⟨some 3, .alloc [.v (.string ⟨#[]⟩), .v (.int .i64 (0))], none⟩] [1, 2, 3] []) <|
  .seq (.region [⟨some 4, .fieldAddr 0 (.tmp 1), none⟩,
     ⟨some 5, .load false 1 (.tmp 4), none⟩,
     ⟨some 6, .fieldAddr 0 (.tmp 3), none⟩,
     ⟨none, .store 1 (.tmp 6) (.tmp 5), none⟩] [1, 2, 3] []) <|
  .seq (.region [⟨some 7, .fieldAddr 1 (.tmp 1), none⟩,
     ⟨some 8, .load false 1 (.tmp 7), none⟩,
     ⟨some 9, .fieldAddr 1 (.tmp 3), none⟩,
     ⟨none, .store 1 (.tmp 9) (.tmp 8), none⟩] [2, 3] []) <|
  .seq (.region [⟨some 10, .load true 2 (.tmp 3), none⟩,
     ⟨none, .store 2 (.tmp 2) (.tmp 10), none⟩] [2] []) <|
  .ret
theorem Cd.laws_toTotal_rs : Tryz.f90.results.toList = [.cell 2 131] := rfl
theorem Cd.laws_toTotal_nt : Tryz.f90.ntmps = 11 := rfl
theorem Cd.laws_toTotal_ok : CodeIsR Tryz.prog 90 Tryz.f90 Cd.laws_toTotal := ⟨Tryz.func90, by kernel_rfl, by decide +kernel⟩
/-- loop.example/g01012/impl.isCharacter -/
def Cd.impl_isCharacter : ACode :=
  .seq (.region [⟨some 2, .mv (.const (.bool false)), none⟩] [0] []) <|
  .seq (.region [⟨some 3, .mv (.tmp 0), none⟩,
     ⟨some 4, .call (.func F.strings_IndexByte) [(.const (.string ⟨#[32, 38, 65, 66, 67, 68, 69, 70, 71, 72, 73, 45, 74, 75, 76, 77, 78, 79, 80, 81, 82, 47, 83, 84, 85, 86, 87, 88, 89, 90, 48, 49, 50, 51, 52, 53, 54, 55, 56, 57]⟩)), (.tmp 3)] [], none⟩,
     ⟨some 5, .bin .geq (.tmp 4) (.const (.int .i64 (0))), none⟩,
     ⟨some 2, .mv (.tmp 5), none⟩] [2] []) <|
  .ret
theorem Cd.impl_isCharacter_rs : Tryz.f91.results.toList = [.tmp 2] := rfl
theorem Cd.impl_isCharacter_nt : Tryz.f91.ntmps = 6 := rfl
theorem Cd.impl_isCharacter_ok : CodeIsR Tryz.prog 91 Tryz.f91 Cd.impl_isCharacter := ⟨Tryz.func91, by kernel_rfl, by decide +kernel⟩
/-- loop.example/g01012/impl.size[int64] -/
def Cd.impl_size_int64_ : ACode :=
  .seq (.region [⟨some 2, .mv (.const (.int .i64 (0))), none⟩] [0] []) <|
  .seq (.region [⟨some 3, .mv (.tmp 0), none⟩,
     ⟨some 4, .len (.tmp 3), none⟩,
     ⟨some 2, .mv (.tmp 4), none⟩] [2] []) <|
  .ret
theorem Cd.impl_size_int64__rs : Tryz.f92.results.toList = [.tmp 2] := rfl
theorem Cd.impl_size_int64__nt : Tryz.f92.ntmps = 5 := rfl
theorem Cd.impl_size_int64__ok : CodeIsR Tryz.prog 92 Tryz.f92 Cd.impl_size_int64_ := ⟨Tryz.func92, by kernel_rfl, by decide +kernel⟩
/-- loop.example/g01012/impl.copyInts -/
def Cd.impl_copyInts : ACode :=
  .seq (.region [⟨some 2, .mv (.const (.slice none 0 0)), none⟩] [0] []) <|
  .seq (.region [⟨some 3, .bslice 1 0 [.v (.int .i64 (0))] [], none⟩,
     ⟨some 4, .mv (.tmp 0), none⟩,
     ⟨some 5, .append 1 8 (.tmp 3) (.tmp 4), none⟩,
     ⟨some 2, .mv (.tmp 5), none⟩] [2] []) <|
  .ret
theorem Cd.impl_copyInts_rs : Tryz.f93.results.toList = [.tmp 2] := rfl
theorem Cd.impl_copyInts_nt : Tryz.f93.ntmps = 6 := rfl
theorem Cd.impl_copyInts_ok : CodeIsR Tryz.prog 93 Tryz.f93 Cd.impl_copyInts := ⟨Tryz.func93, by kernel_rfl, by decide +kernel⟩
/-- slices.ContainsFunc[[]int64,int64] -/
def Cd.slices_ContainsFunc___int64_int64_ : ACode :=
  .seq (.region [⟨some 4, .mv (.const (.bool false)), none⟩] [0, 1] []) <|
  .seq (.region [⟨some 5, .mv (.tmp 0), none⟩,
     ⟨some 6, .mv (.tmp 1), none⟩,
     ⟨some 7, .call (.func F.slices_IndexFunc___int64_int64_) [(.tmp 5), (.tmp 6)] [], none⟩,
     ⟨some 8, .bin .geq (.tmp 7) (.const (.int .i64 (0))), none⟩,
     ⟨some 4, .mv (.tmp 8), none⟩] [4] []) <|
  .ret
theorem Cd.slices_ContainsFunc___int64_int64__rs : Tryz.f94.results.toList = [.tmp 4] := rfl
theorem Cd.slices_ContainsFunc___int64_int64__nt : Tryz.f94.ntmps = 9 := rfl
theorem Cd.slices_ContainsFunc___int64_int64__ok : CodeIsR Tryz.prog 94 Tryz.f94 Cd.slices_ContainsFunc___int64_int64_ := ⟨Tryz.func94, by kernel_rfl, by decide +kernel⟩
/-- loop.example/g01012/impl.numberIn$1 -/
def Cd.impl_numberIn_1 : ACode :=
  .seq (.region [⟨some 2, .mv (.const (.bool false)), none⟩] [0] []) <|
  .seq (.region [⟨some 3, .mv (.tmp 0), none⟩,
     ⟨some 4, .bin .neq (.tmp 3) (.const (.int .i64 (0))), none⟩,
     ⟨some 2, .mv (.tmp 4), none⟩] [2] []) <|
  .ret
theorem Cd.impl_numberIn_1_rs : Tryz.f95.results.toList = [.tmp 2] := rfl
theorem Cd.impl_numberIn_1_nt : Tryz.f95.ntmps = 5 := rfl
theorem Cd.impl_numberIn_1_ok : CodeIsR Tryz.prog 95 Tryz.f95 Cd.impl_numberIn_1 := ⟨Tryz.func95, by kernel_rfl, by decide +kernel⟩
/-- loop.example/g01012/impl.bitOf -/
def Cd.impl_bitOf : ACode :=
  .seq (.region [⟨some 2, .mv (.const (.int .i64 (0))), none⟩] [0] []) <|
  .seq (.block 0 (
     .seq (.region [⟨some 4, .mv (.tmp 0), none⟩,
        ⟨some 5, .bin .eql (.tmp 4) (.const (.int .i64 (12))), none⟩,
        ⟨some 3, .mv (.tmp 5), none⟩] [0, 3] []) <|
     .cond (.tmp 3)
       (.seq (.region [⟨some 2, .mv (.const (.int .i64 (1))), none⟩] [2] []) <|
       .ret)
       (.seq (.region [⟨some 7, .mv (.tmp 0), none⟩,
          ⟨some 8, .bin .eql (.tmp 7) (.const (.int .i64 (11))), none⟩,
          ⟨some 6, .mv (.tmp 8), none⟩] [0, 6] []) <|
       .cond (.tmp 6)
         (.seq (.region [⟨some 2, .mv (.const (.int .i64 (2))), none⟩] [2] []) <|
         .ret)
         (.seq (.region [⟨some 10, .mv (.tmp 0), none⟩,
            ⟨some 11, .call (.func F.impl_inside) [(.tmp 10), (.const (.int .i64 (0))), (.const (.int .i64 (9)))] [], none⟩,
            ⟨some 9, .mv (.tmp 11), none⟩] [0, 9] []) <|
         .cond (.tmp 9)
           (.seq (.region [⟨some 12, .mv (.tmp 0), none⟩,
              ⟨some 13, .bin .shl (.const (.int .i64 (4))) (.tmp 12), none⟩,
              ⟨some 2, .mv (.tmp 13), none⟩] [2] []) <|
           .ret)
           (.skip))))) <|
  .seq (.region [⟨some 2, .mv (.const (.int .i64 (0))), none⟩] [2] []) <|
  .ret
theorem Cd.impl_bitOf_rs : Tryz.f96.results.toList = [.tmp 2] := rfl
theorem Cd.impl_bitOf_nt : Tryz.f96.ntmps = 14 := rfl
theorem Cd.impl_bitOf_ok : CodeIsR Tryz.prog 96 Tryz.f96 Cd.impl_bitOf := ⟨Tryz.func96, by kernel_rfl, by decide +kernel⟩
/-- loop.example/g01012/impl.digitOf -/
def Cd.impl_digitOf : ACode :=
  .seq (.region [⟨some 2, .mv (.const (.int .i64 (0))), none⟩] [0] []) <|
  .seq (.seq (.region [⟨some 4, .mv (.const (.int .i64 (0))), none⟩] [0, 4] []) <|
   .block 0 (
     .loop (
       .seq (.region [⟨some 5, .bin .lss (.tmp 4) (.const (.int .i64 (10))), none⟩] [0, 4, 5] []) <|
       .seq (.cond (.tmp 5)
          (.skip)
          (.exit 0)) <|
       .seq (.block 1 (
          .seq (.region [⟨some 6, .mv (.tmp 4), none⟩,
             ⟨some 3, .mv (.tmp 6), none⟩] [0, 3, 4] []) <|
          .seq (.region [⟨some 7, .mv (.tmp 3), none⟩,
             ⟨some 8, .call (.func F.impl_bitOf) [(.tmp 7)] [], none⟩,
             ⟨some 9, .mv (.tmp 0), none⟩,
             ⟨some 10, .bin .eql (.tmp 8) (.tmp 9), none⟩] [0, 3, 4, 10] []) <|
          .cond (.tmp 10)
            (.seq (.region [⟨some 11, .mv (.tmp 3), none⟩,
               ⟨some 2, .mv (.tmp 11), none⟩] [2] []) <|
            .ret)
            (.skip))) <|
       .region [⟨some 12, .bin .add (.tmp 4) (.const (.int .i64 (1))), none⟩,
         ⟨some 4, .mv (.tmp 12), none⟩] [0, 4] []))) <|
  .seq (.region [⟨some 2, .mv (.const (.int .i64 (-1))), none⟩] [2] []) <|
  .ret
theorem Cd.impl_digitOf_rs : Tryz.f97.results.toList = [.tmp 2] := rfl
theorem Cd.impl_digitOf_nt : Tryz.f97.ntmps = 13 := rfl
theorem Cd.impl_digitOf_ok : CodeIsR Tryz.prog 97 Tryz.f97 Cd.impl_digitOf := ⟨Tryz.func97, by kernel_rfl, by decide +kernel⟩
/-- loop.example/g01012/impl.digitList -/
def Cd.impl_digitList : ACode :=
  .seq (.region [⟨some 2, .mv (.const (.slice none 0 0)), none⟩] [0] []) <|
  .seq (.region [⟨some 3, .mv (.tmp 0), none⟩,
     ⟨some 4, .call (.func F.impl_absOf) [(.tmp 3)] [], none⟩,
     ⟨some 5, .call (.func F.impl_digitsOf) [(.tmp 4)] [], none⟩,
     ⟨some 6, .mv (.tmp 0), none⟩,
     ⟨some 7, .call (.func F.impl_absOf) [(.tmp 6)] [], none⟩,
     ⟨some 8, .call (.func F.impl_wheelsShow) [(.tmp 5), (.tmp 7)] [], none⟩,
     ⟨some 9, .field false 0 1 (.tmp 8), none⟩,
     ⟨some 2, .mv (.tmp 9), none⟩] [2] []) <|
  .ret
theorem Cd.impl_digitList_rs : Tryz.f98.results.toList = [.tmp 2] := rfl
theorem Cd.impl_digitList_nt : Tryz.f98.ntmps = 10 := rfl
theorem Cd.impl_digitList_ok : CodeIsR Tryz.prog 98 Tryz.f98 Cd.impl_digitList := ⟨Tryz.func98, by kernel_rfl, by decide +kernel⟩
/-- loop.example/g01012/laws.eqTotal -/
def Cd.laws_eqTotal : ACode :=
  .seq (.region [⟨some 2, .box (.tmp 0), none⟩,
     ⟨some 3, .box (.tmp 1), none⟩,
     ⟨some 4, .mv (.const (.bool false)), none⟩] [2, 3] []) <|
  .seq (.seq (.region [⟨some 5, .fieldAddr 0 (.tmp 2), none⟩,
      ⟨some 6, .load false 1 (.tmp 5), none⟩,
      ⟨some 7, .fieldAddr 0 (.tmp 3), none⟩,
      ⟨some 8, .load false 1 (.tmp 7), none⟩,
      ⟨some 9, .binS .neq (.tmp 6) (.tmp 8), none⟩] [2, 3, 9] []) <|
   .cond (.tmp 9)
     (.seq (.region [⟨some 4, .mv (.const (.bool false)), none⟩] [4] []) <|
     .ret)
     (.skip)) <|
  .seq (.seq (.region [⟨some 10, .fieldAddr 1 (.tmp 2), none⟩,
      ⟨some 11, .load false 1 (.tmp 10), none⟩,
      ⟨some 12, .fieldAddr 1 (.tmp 3), none⟩,
      ⟨some 13, .load false 1 (.tmp 12), none⟩,
      ⟨some 14, .bin .neq (.tmp 11) (.tmp 13), none⟩] [14] []) <|
   .cond (.tmp 14)
     (.seq (.region [⟨some 4, .mv (.const (.bool false)), none⟩] [4] []) <|
     .ret)
     (.skip)) <|
  .seq (.region [⟨some 4, .mv (.const (.bool true)), none⟩] [4] []) <|
  .ret
theorem Cd.laws_eqTotal_rs : Tryz.f99.results.toList = [.tmp 4] := rfl
theorem Cd.laws_eqTotal_nt : Tryz.f99.ntmps = 15 := rfl
theorem Cd.laws_eqTotal_ok : CodeIsR Tryz.prog 99 Tryz.f99 Cd.laws_eqTotal := ⟨Tryz.func99, by kernel_rfl, by decide +kernel⟩
/-- loop.example/g01012/impl.ValidCard$1 -/
def Cd.impl_ValidCard_1 : ACode :=
  .seq (.region [⟨some 2, .mv (.const (.bool false)), none⟩] [0] []) <|
  .seq (.region [⟨some 3, .mv (.tmp 0), none⟩,
     ⟨some 4, .call (.func F.impl_inside) [(.tmp 3), (.const (.int .i64 (0))), (.const (.int .i64 (4095)))] [], none⟩,
     ⟨some 5, .un .not (.tmp 4), none⟩,
     ⟨some 2, .mv (.tmp 5), none⟩] [2] []) <|
  .ret
theorem Cd.impl_ValidCard_1_rs : Tryz.f104.results.toList = [.tmp 2] := rfl
theorem Cd.impl_ValidCard_1_nt : Tryz.f104.ntmps = 6 := rfl
theorem Cd.impl_ValidCard_1_ok : CodeIsR Tryz.prog 104 Tryz.f104 Cd.impl_ValidCard_1 := ⟨Tryz.func104, by kernel_rfl, by decide +kernel⟩
/-- loop.example/g01012/impl.newCard -/
def Cd.impl_newCard : ACode :=
  .seq (.region [⟨some 1, .box (.tmp 0), none⟩,
     ⟨some 2, .alloc [.v (.slice none 0 0)], none⟩] [1, 2] []) <|
  .seq (.region [⟨some 3, .fieldAddr 0 (.tmp 1), none⟩,
     ⟨some 4, .load false 1 (.tmp 3), none⟩,
     ⟨some 5, .call (.func F.impl_copyInts) [(.tmp 4)] [], none⟩,
     ⟨some 6, .build [.v (.slice none 0 0)] [(0, 1, (.tmp 5))], none⟩,
     ⟨none, .store 1 (.tmp 2) (.tmp 6), none⟩] [2] []) <|
  .ret
theorem Cd.impl_newCard_rs : Tryz.f108.results.toList = [.cell 2 85] := rfl
theorem Cd.impl_newCard_nt : Tryz.f108.ntmps = 7 := rfl
theorem Cd.impl_newCard_ok : CodeIsR Tryz.prog 108 Tryz.f108 Cd.impl_newCard := ⟨Tryz.func108, by kernel_rfl, by decide +kernel⟩
/-- loop.example/g01012/spec.l02Bit -/
def Cd.spec_l02Bit : ACode :=
  .seq (.region [⟨some 2, .mv (.const (.int .i64 (0))), none⟩] [0] []) <|
  .seq (.block 0 (
     .seq (.region [⟨some 4, .mv (.tmp 0), none⟩,
        ⟨some 5, .bin .eql (.tmp 4) (.const (.int .i64 (12))), none⟩,
        ⟨some 3, .mv (.tmp 5), none⟩] [0, 3] []) <|
     .cond (.tmp 3)
       (.seq (.region [⟨some 2, .mv (.const (.int .i64 (1))), none⟩] [2] []) <|
       .ret)
       (.seq (.region [⟨some 7, .mv (.tmp 0), none⟩,
          ⟨some 8, .bin .eql (.tmp 7) (.const (.int .i64 (11))), none⟩,
          ⟨some 6, .mv (.tmp 8), none⟩] [0, 6] []) <|
       .cond (.tmp 6)
         (.seq (.region [⟨some 2, .mv (.const (.int .i64 (2))), none⟩] [2] []) <|
         .ret)
         (.seq (.region [⟨some 10, .mv (.tmp 0), none⟩,
            ⟨some 11, .call (.func F.spec_l00In) [(.tmp 10), (.const (.int .i64 (0))), (.const (.int .i64 (9)))] [], none⟩,
            ⟨some 9, .mv (.tmp 11), none⟩] [0, 9] []) <|
         .cond (.tmp 9)
           (.seq (.region [⟨some 12, .mv (.tmp 0), none⟩,
              ⟨some 13, .conv .u64 (.tmp 12), none⟩,
              ⟨some 14, .bin .shl (.const (.int .i64 (4))) (.tmp 13), none⟩,
              ⟨some 2, .mv (.tmp 14), none⟩] [2] []) <|
           .ret)
           (.skip))))) <|
  .seq (.region [⟨some 2, .mv (.const (.int .i64 (0))), none⟩] [2] []) <|
  .ret
theorem Cd.spec_l02Bit_rs : Tryz.f112.results.toList = [.tmp 2] := rfl
theorem Cd.spec_l02Bit_nt : Tryz.f112.ntmps = 15 := rfl
theorem Cd.spec_l02Bit_ok : CodeIsR Tryz.prog 112 Tryz.f112 Cd.spec_l02Bit := ⟨Tryz.func112, by kernel_rfl, by decide +kernel⟩
/-- loop.example/g01012/spec.l01Digit -/
def Cd.spec_l01Digit : ACode :=
  .seq (.region [⟨some 2, .mv (.const (.bool false)), none⟩] [0] []) <|
  .seq (.region [⟨some 3, .mv (.tmp 0), none⟩,
     ⟨some 4, .bin .geq (.tmp 3) (.const (.int .u8 (48))), none⟩,
     ⟨some 5, .mv (.tmp 4), none⟩,
     ⟨some 6, .mv (.tmp 0), some (5, true)⟩,
     ⟨some 7, .bin .leq (.tmp 6) (.const (.int .u8 (57))), some (5, true)⟩,
     ⟨some 8, .pick (.tmp 5) (.tmp 7) (.const (.bool false)), none⟩,
     ⟨some 2, .mv (.tmp 8), none⟩] [2] []) <|
  .ret
theorem Cd.spec_l01Digit_rs : Tryz.f113.results.toList = [.tmp 2] := rfl
theorem Cd.spec_l01Digit_nt : Tryz.f113.ntmps = 9 := rfl
theorem Cd.spec_l01Digit_ok : CodeIsR Tryz.prog 113 Tryz.f113 Cd.spec_l01Digit := ⟨Tryz.func113, by kernel_rfl, by decide +kernel⟩
/-- strings.IndexByte -/
def Cd.strings_IndexByte : ACode :=
  .seq (.region [⟨some 4, .mv (.const (.int .i64 (0))), none⟩] [0, 1] []) <|
  .seq (.region [⟨some 5, .mv (.tmp 0), none⟩,
     ⟨some 6, .mv (.tmp 1), none⟩,
     ⟨some 7, .call (.func F.internal_stringslite_IndexByte) [(.tmp 5), (.tmp 6)] [], none⟩,
     ⟨some 4, .mv (.tmp 7), none⟩] [4] []) <|
  .ret
theorem Cd.strings_IndexByte_rs : Tryz.f114.results.toList = [.tmp 4] := rfl
theorem Cd.strings_IndexByte_nt : Tryz.f114.ntmps = 8 := rfl
theorem Cd.strings_IndexByte_ok : CodeIsR Tryz.prog 114 Tryz.f114 Cd.strings_IndexByte := ⟨Tryz.func114, by kernel_rfl, by decide +kernel⟩
/-- slices.IndexFunc[[]int64,int64] -/
def Cd.slices_IndexFunc___int64_int64_ : ACode :=
  .seq (.region [⟨some 4, .mv (.const (.int .i64 (0))), none⟩] [0, 1] []) <|
  .seq (.seq (.region [⟨some 6, .mv (.tmp 0), none⟩,
      ⟨some 7, .len (.tmp 6), none⟩,
      ⟨some 8, .mv (.const (.int .i64 (0))), none⟩] [0, 1, 7, 8] []) <|
   .block 0 (
     .loop (
       .seq (.region [⟨some 9, .bin .lss (.tmp 8) (.tmp 7), none⟩] [0, 1, 7, 8, 9] []) <|
       .seq (.cond (.tmp 9)
          (.skip)
          (.exit 0)) <|
       .seq (.block 1 (
          .seq (.region [⟨some 10, .mv (.tmp 8), none⟩,
             ⟨some 5, .mv (.tmp 10), none⟩] [0, 1, 5, 7, 8] []) <|
          .seq (.region [⟨some 11, .mv (.tmp 1), none⟩,
             ⟨some 12, .mv (.tmp 0), none⟩,
             ⟨some 13, .mv (.tmp 5), none⟩,
             ⟨some 14, .idxSl 1 (.tmp 12) (.tmp 13), none⟩,
             ⟨some 15, .load false 1 (.tmp 14), none⟩,
             ⟨some 16, .call (.tmp 11) [(.tmp 15)] [], none⟩] [0, 1, 5, 7, 8, 16] []) <|
          .cond (.tmp 16)
            (.seq (.region [⟨some 17, .mv (.tmp 5), none⟩,
               ⟨some 4, .mv (.tmp 17), none⟩] [4] []) <|
            .ret)
            (.skip))) <|
       .region [⟨some 18, .bin .add (.tmp 8) (.const (.int .i64 (1))), none⟩,
         ⟨some 8, .mv (.tmp 18), none⟩] [0, 1, 7, 8] []))) <|
  .seq (.region [⟨some 4, .mv (.const (.int .i64 (-1))), none⟩] [4] []) <|
  .ret
theorem Cd.slices_IndexFunc___int64_int64__rs : Tryz.f115.results.toList = [.tmp 4] := rfl
theorem Cd.slices_IndexFunc___int64_int64__nt : Tryz.f115.ntmps = 19 := rfl
theorem Cd.slices_IndexFunc___int64_int64__ok : CodeIsR Tryz.prog 115 Tryz.f115 Cd.slices_IndexFunc___int64_int64_ := ⟨Tryz.func115, by kernel_rfl, by decide +kernel⟩
/-- loop.example/g01012/impl.wheelsShow -/
def Cd.impl_wheelsShow : ACode :=
  .seq (.region [⟨some 4, .alloc [.v (.slice none 0 0)], none⟩] [0, 1, 4] []) <|
  .seq (.region [⟨some 6, .bslice 1 0 [.v (.int .i64 (0))] [], none⟩,
     ⟨some 7, .build [.v (.slice none 0 0)] [(0, 1, (.tmp 6))], none⟩,
     ⟨some 5, .alloc [.v (.slice none 0 0)], none⟩,
     ⟨none, .store 1 (.tmp 5) (.tmp 7), none⟩] [0, 1, 4, 5] []) <|
  .seq (.seq (.region [⟨some 8, .mv (.tmp 0), none⟩,
      ⟨some 9, .mv (.const (.int .i64 (0))), none⟩] [1, 4, 5, 8, 9] []) <|
   .block 0 (
     .loop (
       .seq (.region [⟨some 10, .bin .lss (.tmp 9) (.tmp 8), none⟩] [1, 4, 5, 8, 9, 10] []) <|
       .seq (.cond (.tmp 10)
          (.skip)
          (.exit 0)) <|
       .seq (.block 1 (
          .seq (.region [⟨some 11, .fieldAddr 0 (.tmp 5), none⟩,
             ⟨some 12, .load false 1 (.tmp 11), none⟩,
             ⟨some 13, .mv (.tmp 1), none⟩,
             ⟨some 14, .bin .rem (.tmp 13) (.const (.int .i64 (10))), none⟩,
             ⟨some 15, .bslice 1 1 [.v (.int .i64 (0))] [(0, (.tmp 14))], none⟩,
             ⟨some 16, .append 1 8 (.tmp 12) (.tmp 15), none⟩,
             ⟨some 17, .fieldAddr 0 (.tmp 5), none⟩,
             ⟨none, .store 1 (.tmp 17) (.tmp 16), none⟩] [1, 4, 5, 8, 9] []) <|
          .region [⟨some 18, .mv (.tmp 1), none⟩,
            ⟨some 19, .bin .quo (.tmp 18) (.const (.int .i64 (10))), none⟩,
            ⟨some 1, .mv (.tmp 19), none⟩] [1, 4, 5, 8, 9] [])) <|
       .region [⟨some 20, .bin .add (.tmp 9) (.const (.int .i64 (1))), none⟩,
         ⟨some 9, .mv (.tmp 20), none⟩] [1, 4, 5, 8, 9] []))) <|
  .seq (.region [⟨some 21, .load true 1 (.tmp 5), none⟩,
     ⟨none, .store 1 (.tmp 4) (.tmp 21), none⟩] [4] []) <|
  .ret
theorem Cd.impl_wheelsShow_rs : Tryz.f116.results.toList = [.cell 4 151] := rfl
theorem Cd.impl_wheelsShow_nt : Tryz.f116.ntmps = 22 := rfl
theorem Cd.impl_wheelsShow_ok : CodeIsR Tryz.prog 116 Tryz.f116 Cd.impl_wheelsShow := ⟨Tryz.func116, by kernel_rfl, by decide +kernel⟩
/-- loop.example/g01012/impl.digitsOf -/
def Cd.impl_digitsOf : ACode :=
  .seq (.region [⟨some 2, .mv (.const (.int .i64 (0))), none⟩] [0] []) <|
  .seq (.region [⟨some 3, .mv (.tmp 0), none⟩,
     ⟨some 4, .call (.func F.impl_Decimal) [(.tmp 3)] [], none⟩,
     ⟨some 5, .lenS (.tmp 4), none⟩,
     ⟨some 2, .mv (.tmp 5), none⟩] [2] []) <|
  .ret
theorem Cd.impl_digitsOf_rs : Tryz.f117.results.toList = [.tmp 2] := rfl
theorem Cd.impl_digitsOf_nt : Tryz.f117.ntmps = 6 := rfl
theorem Cd.impl_digitsOf_ok : CodeIsR Tryz.prog 117 Tryz.f117 Cd.impl_digitsOf := ⟨Tryz.func117, by kernel_rfl, by decide +kernel⟩
/-- loop.example/g01012/impl.absOf -/
def Cd.impl_absOf : ACode :=
  .seq (.region [⟨some 2, .mv (.const (.int .i64 (0))), none⟩] [0] []) <|
  .seq (.region [⟨some 3, .mv (.tmp 0), none⟩,
     ⟨some 4, .mv (.tmp 0), none⟩,
     ⟨some 5, .un .neg (.tmp 4), none⟩,
     ⟨some 6, .mm true (.tmp 3) (.tmp 5), none⟩,
     ⟨some 2, .mv (.tmp 6), none⟩] [2] []) <|
  .ret
theorem Cd.impl_absOf_rs : Tryz.f118.results.toList = [.tmp 2] := rfl
theorem Cd.impl_absOf_nt : Tryz.f118.ntmps = 7 := rfl
theorem Cd.impl_absOf_ok : CodeIsR Tryz.prog 118 Tryz.f118 Cd.impl_absOf := ⟨Tryz.func118, by kernel_rfl, by decide +kernel⟩
/-- internal/stringslite.IndexByte -/
def Cd.internal_stringslite_IndexByte : ACode :=
  .seq (.region [⟨some 4, .mv (.const (.int .i64 (0))), none⟩] [0, 1] []) <|
  .seq (.region [⟨some 5, .mv (.tmp 0), none⟩,
     ⟨some 6, .mv (.tmp 1), none⟩,
     ⟨some 7, .idxB (.tmp 5) (.tmp 6), none⟩,
     ⟨some 4, .mv (.tmp 7), none⟩] [4] []) <|
  .ret
theorem Cd.internal_stringslite_IndexByte_rs : Tryz.f125.results.toList = [.tmp 4] := rfl
theorem Cd.internal_stringslite_IndexByte_nt : Tryz.f125.ntmps = 8 := rfl
theorem Cd.internal_stringslite_IndexByte_ok : CodeIsR Tryz.prog 125 Tryz.f125 Cd.internal_stringslite_IndexByte := ⟨Tryz.func125, by kernel_rfl, by decide +kernel⟩
/-- loop.example/g01012/impl.Decimal -/
def Cd.impl_Decimal : ACode :=
  .seq (.region [⟨some 2, .mv (.const (.string ⟨#[]⟩)), none⟩] [0] []) <|
  .seq (.region [⟨some 3, .mv (.tmp 0), none⟩,
     ⟨some 4, .call (.func F.strconv_FormatInt) [(.tmp 3), (.const (.int .i64 (10)))] [], none⟩,
     ⟨some 2, .mv (.tmp 4), none⟩] [2] []) <|
  .ret
theorem Cd.impl_Decimal_rs : Tryz.f126.results.toList = [.tmp 2] := rfl
theorem Cd.impl_Decimal_nt : Tryz.f126.ntmps = 5 := rfl
theorem Cd.impl_Decimal_ok : CodeIsR Tryz.prog 126 Tryz.f126 Cd.impl_Decimal := ⟨Tryz.func126, by kernel_rfl, by decide +kernel⟩
/-- strconv.FormatInt -/
def Cd.strconv_FormatInt : ACode :=
  .seq (.region [⟨some 4, .mv (.const (.string ⟨#[]⟩)), none⟩] [0, 1] []) <|
  .seq (.region [⟨some 5, .mv (.tmp 0), none⟩,
     ⟨some 6, .mv (.tmp 1), none⟩,
     ⟨some 7, .call (.func F.internal_strconv_FormatInt) [(.tmp 5), (.tmp 6)] [], none⟩,
     ⟨some 4, .mv (.tmp 7), none⟩] [4] []) <|
  .ret
theorem Cd.strconv_FormatInt_rs : Tryz.f132.results.toList = [.tmp 4] := rfl
theorem Cd.strconv_FormatInt_nt : Tryz.f132.ntmps = 8 := rfl
theorem Cd.strconv_FormatInt_ok : CodeIsR Tryz.prog 132 Tryz.f132 Cd.strconv_FormatInt := ⟨Tryz.func132, by kernel_rfl, by decide +kernel⟩
end Go.Proofs.YtgeeipfdkamhmaaGreatDoor
