/- The code of each function, resolved. -/
import Derived.Test.YthpokkcbbpapdaaDoorDtC
import Derived.Test.YthpokkcbbpapdaaDoorRows
namespace Go.Proofs.YthpokkcbbpapdaaDoor
open Go.Vs
set_option maxRecDepth 100000
theorem Tryd.own : ownKnob Tryd.prog.godebug = none := by kernel_rfl
theorem Tryd.laidOut : laidOutB Tryd.prog = true := by kernel_rfl
theorem Tryd.mixed : Tryd.prog.follows .mixedOrders = true := Tryd.checked.mixed
namespace F
abbrev main_main : FuncId := 0
abbrev gosem_cut : FuncId := 1
abbrev gosem_cut_init : FuncId := 2
abbrev laws_FnExactCyclesOfDeck : FuncId := 3
abbrev laws_FnExactCalculateCard : FuncId := 4
abbrev laws_FnExactCalculateDeck : FuncId := 5
abbrev laws_FnExactControlText : FuncId := 6
abbrev laws_FnExactFaultText : FuncId := 7
abbrev laws_FnExactSpecText : FuncId := 8
abbrev laws_FnExactTotalsText : FuncId := 9
abbrev laws_FnExactStepText : FuncId := 10
abbrev laws_FnExactReadControl : FuncId := 11
abbrev laws_szCardS : FuncId := 12
abbrev spec_CyclesOfDeck : FuncId := 13
abbrev laws_toCardS : FuncId := 14
abbrev laws_toField : FuncId := 15
abbrev impl_CyclesOfDeck : FuncId := 16
abbrev laws_eqCardS : FuncId := 17
abbrev laws_szCard : FuncId := 18
abbrev spec_CalculateCard : FuncId := 19
abbrev laws_toCard : FuncId := 20
abbrev impl_CalculateCard : FuncId := 21
abbrev laws_eqCard : FuncId := 22
abbrev laws_markCard : FuncId := 23
abbrev laws_heldCard : FuncId := 24
abbrev spec_CalculateDeck : FuncId := 25
abbrev impl_CalculateDeck : FuncId := 26
abbrev laws_markCardS : FuncId := 27
abbrev laws_heldCardS : FuncId := 28
abbrev spec_ControlText : FuncId := 29
abbrev laws_toControl : FuncId := 30
abbrev impl_ControlText : FuncId := 31
abbrev spec_FaultText : FuncId := 32
abbrev laws_toFault : FuncId := 33
abbrev impl_FaultText : FuncId := 34
abbrev laws_szSpec : FuncId := 35
abbrev spec_SpecText : FuncId := 36
abbrev laws_toSpec : FuncId := 37
abbrev impl_SpecText : FuncId := 38
abbrev laws_szTotalS : FuncId := 39
abbrev spec_TotalsText : FuncId := 40
abbrev laws_toTotalS : FuncId := 41
abbrev impl_TotalsText : FuncId := 42
abbrev laws_eqTotalS : FuncId := 43
abbrev laws_szStep : FuncId := 44
abbrev spec_StepText : FuncId := 45
abbrev laws_toStep : FuncId := 46
abbrev impl_StepText : FuncId := 47
abbrev spec_ReadControl : FuncId := 48
abbrev impl_ReadControl : FuncId := 49
abbrev laws_eqControl : FuncId := 50
abbrev spec_l02Deck : FuncId := 51
abbrev spec_l14Kind : FuncId := 52
abbrev spec_l14Fields : FuncId := 53
abbrev spec_l07Width : FuncId := 54
abbrev spec_l14Read : FuncId := 55
abbrev spec_l14Do : FuncId := 56
abbrev impl_ValidDeck : FuncId := 57
abbrev impl_calcCode : FuncId := 58
abbrev impl_deckColumns : FuncId := 59
abbrev impl_calculated : FuncId := 60
abbrev laws_szInt64S : FuncId := 61
abbrev spec_l02Ok : FuncId := 62
abbrev spec_l14Card : FuncId := 63
abbrev laws_toInt64S : FuncId := 64
abbrev impl_ValidCard : FuncId := 65
abbrev _impl_Card__columns : FuncId := 66
abbrev impl_calculatedCard : FuncId := 67
abbrev laws_eqInt64S : FuncId := 68
abbrev laws_markInt64S : FuncId := 69
abbrev laws_heldInt64S : FuncId := 70
abbrev spec_l18Ok : FuncId := 71
abbrev spec_l18Text : FuncId := 72
abbrev impl_isPlainControl : FuncId := 73
abbrev impl_Decimal : FuncId := 74
abbrev spec_l19Form : FuncId := 75
abbrev spec_l01Dec : FuncId := 76
abbrev impl_isFault : FuncId := 77
abbrev impl_inside : FuncId := 78
abbrev spec_l16Ok : FuncId := 79
abbrev spec_l16Text : FuncId := 80
abbrev impl_ValidSpec : FuncId := 81
abbrev impl_span : FuncId := 82
abbrev laws_szTotal : FuncId := 83
abbrev laws_toTotal : FuncId := 84
abbrev strings_Join : FuncId := 85
abbrev laws_eqTotal : FuncId := 86
abbrev spec_l15Step : FuncId := 87
abbrev spec_l15Both : FuncId := 88
abbrev spec_l15Field : FuncId := 89
abbrev impl_ValidStep : FuncId := 90
abbrev impl_takesTwo : FuncId := 91
abbrev spec_l01Split : FuncId := 92
abbrev spec_l01Number : FuncId := 93
abbrev strings_Split : FuncId := 94
abbrev impl_ReadDecimal : FuncId := 95
abbrev spec_l00In : FuncId := 96
abbrev spec_l02Field : FuncId := 97
abbrev spec_l03Number : FuncId := 98
abbrev spec_l02Part : FuncId := 99
abbrev spec_ProductBy : FuncId := 100
abbrev spec_QuotientBy : FuncId := 101
abbrev spec_l14Number : FuncId := 102
abbrev impl_isCalc : FuncId := 103
abbrev slices_ContainsFunc___impl_Field_impl_Field_ : FuncId := 104
abbrev impl_calcCode_1 : FuncId := 105
abbrev impl_isNumberField : FuncId := 106
abbrev impl_numberIn : FuncId := 107
abbrev impl_Calculate : FuncId := 108
abbrev spec_l03Put : FuncId := 109
abbrev spec_l02Own : FuncId := 110
abbrev slices_ContainsFunc___int64_int64_ : FuncId := 111
abbrev impl_ValidCard_1 : FuncId := 112
abbrev impl_size_int64_ : FuncId := 113
abbrev impl_digitsOf : FuncId := 114
abbrev impl_absOf : FuncId := 115
abbrev impl_calculatedCard_1 : FuncId := 116
abbrev impl_punchNumber : FuncId := 117
abbrev strconv_FormatInt : FuncId := 118
abbrev spec_l09Text : FuncId := 119
abbrev impl_isField : FuncId := 120
abbrev impl_areCharacters : FuncId := 121
abbrev __strings_Builder__Grow : FuncId := 122
abbrev __strings_Builder__WriteString : FuncId := 123
abbrev __strings_Builder__String : FuncId := 124
abbrev spec_l15Tray : FuncId := 125
abbrev impl_isTray : FuncId := 126
abbrev spec_l01Digit : FuncId := 127
abbrev strings_genSplit : FuncId := 128
abbrev strconv_ParseInt : FuncId := 129
abbrev strings_TrimPrefix : FuncId := 130
abbrev spec_l03Digit : FuncId := 131
abbrev spec_l14Factor : FuncId := 132
abbrev spec_l14Times : FuncId := 133
abbrev spec_l14Size : FuncId := 134
abbrev spec_l14Divide : FuncId := 135
abbrev slices_IndexFunc___impl_Field_impl_Field_ : FuncId := 136
abbrev impl_copyInts : FuncId := 137
abbrev impl_numberIn_1 : FuncId := 138
abbrev impl_bitOf : FuncId := 139
abbrev impl_digitOf : FuncId := 140
abbrev impl_isNumber : FuncId := 141
abbrev impl_ProductBy : FuncId := 142
abbrev impl_QuotientBy : FuncId := 143
abbrev spec_l02Bit : FuncId := 144
abbrev spec_l00Own : FuncId := 145
abbrev slices_IndexFunc___int64_int64_ : FuncId := 146
abbrev impl_newCard : FuncId := 147
abbrev internal_strconv_FormatInt : FuncId := 148
abbrev spec_l03Code : FuncId := 149
abbrev impl_isCharacter : FuncId := 150
abbrev __strings_Builder__copyCheck : FuncId := 151
abbrev __strings_Builder__grow : FuncId := 152
abbrev strings_explode : FuncId := 153
abbrev strings_Count : FuncId := 154
abbrev strings_Index : FuncId := 155
abbrev internal_strconv_ParseInt : FuncId := 156
abbrev strconv_toError : FuncId := 157
abbrev internal_stringslite_TrimPrefix : FuncId := 158
abbrev spec_l14Parts : FuncId := 159
abbrev spec_l00Max : FuncId := 160
abbrev impl_isFactor : FuncId := 161
abbrev impl_digitList : FuncId := 162
abbrev impl_digitSum : FuncId := 163
abbrev internal_strconv_small : FuncId := 164
abbrev internal_strconv_numDigits : FuncId := 165
abbrev internal_strconv_formatBase10 : FuncId := 166
abbrev internal_strconv_formatBits : FuncId := 167
abbrev strings_IndexByte : FuncId := 168
abbrev internal_abi_NoEscape : FuncId := 169
abbrev internal_bytealg_MakeNoZero : FuncId := 170
abbrev unicode_utf8_RuneCountInString : FuncId := 171
abbrev unicode_utf8_DecodeRuneInString : FuncId := 172
abbrev internal_bytealg_CountString : FuncId := 173
abbrev internal_stringslite_Index : FuncId := 174
abbrev internal_strconv_ParseUint : FuncId := 175
abbrev strconv_syntaxError : FuncId := 176
abbrev strconv_rangeError : FuncId := 177
abbrev strconv_baseError : FuncId := 178
abbrev strconv_bitSizeError : FuncId := 179
abbrev internal_stringslite_HasPrefix : FuncId := 180
abbrev impl_wheelsShow : FuncId := 181
abbrev internal_strconv_log10Pow2 : FuncId := 182
abbrev math_bits_Len64 : FuncId := 183
abbrev internal_strconv_bool2_int_ : FuncId := 184
abbrev internal_strconv_isPowerOfTwo : FuncId := 185
abbrev math_bits_TrailingZeros : FuncId := 186
abbrev internal_stringslite_IndexByte : FuncId := 187
abbrev unicode_utf8_decodeRuneInStringSlow : FuncId := 188
abbrev internal_bytealg_IndexString : FuncId := 189
abbrev internal_bytealg_Cutover : FuncId := 190
abbrev internal_bytealg_IndexRabinKarp_string_ : FuncId := 191
abbrev internal_strconv_lower : FuncId := 192
abbrev internal_strconv_underscoreOK : FuncId := 193
abbrev internal_stringslite_Clone : FuncId := 194
abbrev errors_New : FuncId := 195
abbrev strconv_Itoa : FuncId := 196
abbrev math_bits_TrailingZeros32 : FuncId := 197
abbrev math_bits_TrailingZeros64 : FuncId := 198
abbrev internal_bytealg_IndexByteString : FuncId := 199
abbrev internal_bytealg_hashStr_string_ : FuncId := 200
abbrev internal_strconv_Itoa : FuncId := 201
abbrev _runtime_boundsError__Error : FuncId := 202
abbrev _runtime_boundsError__RuntimeError : FuncId := 203
abbrev _runtime_errorString__Error : FuncId := 204
abbrev _runtime_errorString__RuntimeError : FuncId := 205
abbrev _runtime_plainError__Error : FuncId := 206
abbrev _runtime_plainError__RuntimeError : FuncId := 207
abbrev _runtime_errorAddressString__Error : FuncId := 208
abbrev _runtime_errorAddressString__RuntimeError : FuncId := 209
abbrev __runtime_TypeAssertionError__Error : FuncId := 210
abbrev __runtime_TypeAssertionError__RuntimeError : FuncId := 211
abbrev __runtime_PanicNilError__Error : FuncId := 212
abbrev __runtime_PanicNilError__RuntimeError : FuncId := 213
abbrev __internal_abi_Type__Align : FuncId := 214
abbrev _internal_runtime_maps_unhashableTypeError__Error : FuncId := 215
abbrev _internal_runtime_maps_unhashableTypeError__RuntimeError : FuncId := 216
abbrev _impl_Control__plus : FuncId := 217
abbrev __strings_Builder__Reset : FuncId := 218
abbrev _internal_strconv_Error__Error : FuncId := 219
abbrev __strconv_NumError__Error : FuncId := 220
abbrev __errors_errorString__Error : FuncId := 221
abbrev _internal_abi_Kind__String : FuncId := 222
abbrev var_s_door__gosem_cut_vars_holds_initialisers_alone__see_the_manifest_s_row_cutvarsword__look_11__test_files_too_ : FuncId := 223
abbrev var_s_door__internal_strconv_uint64pow10_is_laid_by_its_own_initialiser__plain_data__look_11_ : FuncId := 224
abbrev var_s_door__math_bits_deBruijn32tab_is_laid_by_its_own_initialiser__plain_data__look_11_ : FuncId := 225
abbrev var_s_door__math_bits_deBruijn64tab_is_laid_by_its_own_initialiser__plain_data__look_11_ : FuncId := 226
abbrev var_s_door__strconv_ErrRange_is_laid_by_its_own_call_of_errors_New_on_one_literal__look_11_ : FuncId := 227
abbrev var_s_door__strconv_ErrSyntax_is_laid_by_its_own_call_of_errors_New_on_one_literal__look_11_ : FuncId := 228
abbrev var_s_door__the_look_of_gosem_cut_vars_went_over_the_folder_that_the_caller_named_as_the_repository_s_root__look_11_ : FuncId := 229
abbrev var_s_door__unicode_utf8_acceptRanges_is_laid_by_its_own_initialiser__plain_data__look_11_ : FuncId := 230
abbrev var_s_door__unicode_utf8_first_is_laid_by_its_text_alone__pinned_1_ : FuncId := 231
abbrev gosem_cut_vars : FuncId := 232
end F
theorem Ld.t30 : ldOf Tryd.prog 30 = some (true, 2) := by kernel_rfl
theorem Ld.t38 : ldOf Tryd.prog 38 = some (true, 1) := by kernel_rfl
theorem Ld.t52 : ldOf Tryd.prog 52 = some (true, 3) := by kernel_rfl
theorem Ld.t58 : ldOf Tryd.prog 58 = some (true, 4) := by kernel_rfl
theorem Ld.t66 : ldOf Tryd.prog 66 = some (true, 7) := by kernel_rfl
theorem Ld.t81 : ldOf Tryd.prog 81 = some (true, 9) := by kernel_rfl
theorem Ld.t120 : ldOf Tryd.prog 120 = some (true, 2) := by kernel_rfl
theorem Ld.t201 : ldOf Tryd.prog 201 = some (true, 1) := by kernel_rfl
attribute [go_sem] Ld.t30 Ld.t38 Ld.t52 Ld.t58 Ld.t66 Ld.t81 Ld.t120 Ld.t201
/-- loop.example/g01012/laws.FnExactCalculateCard DRAWS -/
def Cd.laws_FnExactCalculateCard : ACode :=
  .seq (.region [⟨some 6, .box (.tmp 1), none⟩,
     ⟨some 7, .box (.tmp 2), none⟩,
     ⟨some 8, .box (.tmp 3), none⟩,
     ⟨some 9, .box (.tmp 4), none⟩,
     ⟨some 10, .mv (.const (.bool false)), none⟩] [0, 6, 7, 8, 9] []) <|
  .seq (.region [⟨some 11, .mv (.const (.int .i64 (1048576))), none⟩] [0, 6, 7, 8, 9, 11] []) <|
  .seq (.region [⟨some 22, .load true 1 (.tmp 6), none⟩,
     ⟨some 23, .mv (.tmp 11), none⟩,
     ⟨some 24, .call (.func F.laws_szCard) [(.tmp 22), (.tmp 23)] [], none⟩,
     ⟨some 11, .mv (.tmp 24), none⟩] [0, 6, 7, 8, 9, 11] []) <|
  .seq (.seq (.region [⟨some 25, .mv (.tmp 11), none⟩,
      ⟨some 26, .bin .lss (.tmp 25) (.const (.int .i64 (0))), none⟩] [0, 6, 7, 8, 9, 26] []) <|
   .cond (.tmp 26)
     (.seq (.region [⟨some 10, .mv (.const (.bool true)), none⟩] [10] []) <|
     .ret)
     (.skip)) <|
  .seq (.region [⟨some 28, .mv (.tmp 0), none⟩,
     ⟨some 29, .load true 1 (.tmp 6), none⟩,
     ⟨some 30, .call (.func F.laws_toCard) [(.tmp 29)] [], none⟩,
     ⟨some 31, .load true 2 (.tmp 7), none⟩,
     ⟨some 32, .call (.func F.laws_toField) [(.tmp 31)] [], none⟩,
     ⟨some 33, .load true 2 (.tmp 8), none⟩,
     ⟨some 34, .call (.func F.laws_toField) [(.tmp 33)] [], none⟩,
     ⟨some 35, .load true 2 (.tmp 9), none⟩,
     ⟨some 36, .call (.func F.laws_toField) [(.tmp 35)] [], none⟩,
     ⟨some 37, .call (.func F.spec_CalculateCard) [(.tmp 28), (.tmp 30), (.tmp 32), (.tmp 34), (.tmp 36)] [], none⟩,
     ⟨some 27, .mv (.tmp 37), none⟩,
     ⟨some 38, .extract (.tmp 27) 0, none⟩,
     ⟨some 39, .extract (.tmp 27) 1, none⟩,
     ⟨some 12, .alloc [.v (.slice none 0 0)], none⟩,
     ⟨none, .store 1 (.tmp 12) (.tmp 38), none⟩,
     ⟨some 13, .mv (.tmp 39), none⟩] [0, 6, 7, 8, 9, 12, 13] [28, 29, 30, 31, 32, 33, 34, 35, 36, 37, 27, 38, 39, 12]) <|
  .seq (.region [⟨some 40, .load true 1 (.tmp 6), none⟩,
     ⟨some 41, .call (.func F.laws_toCard) [(.tmp 40)] [], none⟩,
     ⟨some 14, .alloc [.v (.slice none 0 0)], none⟩,
     ⟨none, .store 1 (.tmp 14) (.tmp 41), none⟩] [0, 6, 7, 8, 9, 12, 13, 14] []) <|
  .seq (.region [⟨some 43, .mv (.tmp 0), none⟩,
     ⟨some 44, .load true 1 (.tmp 14), none⟩,
     ⟨some 45, .load true 2 (.tmp 7), none⟩,
     ⟨some 46, .call (.func F.laws_toField) [(.tmp 45)] [], none⟩,
     ⟨some 47, .load true 2 (.tmp 8), none⟩,
     ⟨some 48, .call (.func F.laws_toField) [(.tmp 47)] [], none⟩,
     ⟨some 49, .load true 2 (.tmp 9), none⟩,
     ⟨some 50, .call (.func F.laws_toField) [(.tmp 49)] [], none⟩,
     ⟨some 51, .call (.func F.impl_CalculateCard) [(.tmp 43), (.tmp 44), (.tmp 46), (.tmp 48), (.tmp 50)] [], none⟩,
     ⟨some 42, .mv (.tmp 51), none⟩,
     ⟨some 52, .extract (.tmp 42) 0, none⟩,
     ⟨some 53, .extract (.tmp 42) 1, none⟩,
     ⟨some 15, .alloc [.v (.slice none 0 0)], none⟩,
     ⟨none, .store 1 (.tmp 15) (.tmp 52), none⟩,
     ⟨some 16, .mv (.tmp 53), none⟩] [0, 6, 7, 8, 9, 12, 13, 14, 15, 16] [43, 44, 45, 46, 47, 48, 49, 50, 51, 42, 52, 53, 15]) <|
  .seq (.seq (.region [⟨some 54, .load true 1 (.tmp 15), none⟩,
      ⟨some 55, .load true 1 (.tmp 12), none⟩,
      ⟨some 56, .call (.func F.laws_eqCard) [(.tmp 54), (.tmp 55)] [], none⟩,
      ⟨some 57, .un .not (.tmp 56), none⟩,
      ⟨some 58, .mv (.tmp 57), none⟩,
      ⟨some 59, .mv (.tmp 16), some (58, false)⟩,
      ⟨some 60, .mv (.tmp 13), some (58, false)⟩,
      ⟨some 61, .bin .neq (.tmp 59) (.tmp 60), some (58, false)⟩,
      ⟨some 62, .pick (.tmp 58) (.const (.bool true)) (.tmp 61), none⟩] [0, 6, 7, 8, 9, 12, 13, 14, 15, 16, 62] []) <|
   .cond (.tmp 62)
     (.seq (.region [⟨some 10, .mv (.const (.bool false)), none⟩] [10] []) <|
     .ret)
     (.skip)) <|
  .seq (.seq (.region [⟨some 63, .load true 1 (.tmp 14), none⟩,
      ⟨some 64, .load true 1 (.tmp 6), none⟩,
      ⟨some 65, .call (.func F.laws_toCard) [(.tmp 64)] [], none⟩,
      ⟨some 66, .call (.func F.laws_eqCard) [(.tmp 63), (.tmp 65)] [], none⟩,
      ⟨some 67, .un .not (.tmp 66), none⟩] [0, 6, 7, 8, 9, 12, 13, 14, 15, 16, 67] [63, 64, 65, 66, 67]) <|
   .cond (.tmp 67)
     (.seq (.region [⟨some 10, .mv (.const (.bool false)), none⟩] [10] []) <|
     .ret)
     (.skip)) <|
  .seq (.region [⟨some 17, .mv (.const (.int .i64 (1))), none⟩] [0, 6, 7, 8, 9, 12, 13, 14, 15, 16, 17] []) <|
  .seq (.region [⟨some 68, .load true 1 (.tmp 14), none⟩,
     ⟨some 69, .mv (.tmp 17), none⟩,
     ⟨some 70, .call (.func F.laws_markCard) [(.tmp 68), (.tmp 69)] [0], none⟩,
     ⟨some 17, .mv (.tmp 70), none⟩] [0, 6, 7, 8, 9, 12, 13, 15, 16, 17] []) <|
  .seq (.seq (.region [⟨some 71, .mv (.tmp 17), none⟩,
      ⟨some 72, .bin .lss (.tmp 71) (.const (.int .i64 (0))), none⟩,
      ⟨some 73, .mv (.tmp 72), none⟩,
      ⟨some 74, .load true 1 (.tmp 15), some (73, false)⟩,
      ⟨some 75, .load true 1 (.tmp 12), some (73, false)⟩,
      ⟨some 76, .call (.func F.laws_eqCard) [(.tmp 74), (.tmp 75)] [], some (73, false)⟩,
      ⟨some 77, .un .not (.tmp 76), some (73, false)⟩,
      ⟨some 78, .pick (.tmp 73) (.const (.bool true)) (.tmp 77), none⟩,
      ⟨some 79, .mv (.tmp 78), none⟩,
      ⟨some 80, .mv (.tmp 16), some (79, false)⟩,
      ⟨some 81, .mv (.tmp 13), some (79, false)⟩,
      ⟨some 82, .bin .neq (.tmp 80) (.tmp 81), some (79, false)⟩,
      ⟨some 83, .pick (.tmp 79) (.const (.bool true)) (.tmp 82), none⟩] [0, 6, 7, 8, 9, 12, 13, 15, 83] []) <|
   .cond (.tmp 83)
     (.seq (.region [⟨some 10, .mv (.const (.bool false)), none⟩] [10] []) <|
     .ret)
     (.skip)) <|
  .seq (.region [⟨some 18, .mv (.const (.int .i64 (1))), none⟩] [0, 6, 7, 8, 9, 12, 13, 15, 18] []) <|
  .seq (.region [⟨some 84, .load true 1 (.tmp 15), none⟩,
     ⟨some 85, .mv (.tmp 18), none⟩,
     ⟨some 86, .call (.func F.laws_markCard) [(.tmp 84), (.tmp 85)] [0], none⟩,
     ⟨some 18, .mv (.tmp 86), none⟩] [0, 6, 7, 8, 9, 12, 13, 15, 18] []) <|
  .seq (.region [⟨some 19, .mv (.const (.int .i64 (1))), none⟩] [0, 6, 7, 8, 9, 12, 13, 15, 18, 19] []) <|
  .seq (.region [⟨some 87, .load true 1 (.tmp 15), none⟩,
     ⟨some 88, .mv (.tmp 19), none⟩,
     ⟨some 89, .call (.func F.laws_heldCard) [(.tmp 87), (.tmp 88)] [], none⟩,
     ⟨some 19, .mv (.tmp 89), none⟩] [0, 6, 7, 8, 9, 12, 13, 15, 18, 19] []) <|
  .seq (.seq (.region [⟨some 90, .mv (.tmp 19), none⟩,
      ⟨some 91, .bin .lss (.tmp 90) (.const (.int .i64 (0))), none⟩] [0, 6, 7, 8, 9, 12, 13, 15, 18, 19, 91] []) <|
   .cond (.tmp 91)
     (.seq (.region [⟨some 10, .mv (.const (.bool false)), none⟩] [10] []) <|
     .ret)
     (.skip)) <|
  .seq (.seq (.region [⟨some 92, .mv (.tmp 19), none⟩,
      ⟨some 93, .mv (.tmp 18), none⟩,
      ⟨some 94, .bin .neq (.tmp 92) (.tmp 93), none⟩] [0, 6, 7, 8, 9, 12, 13, 15, 18, 94] []) <|
   .cond (.tmp 94)
     (.seq (.region [⟨some 10, .mv (.const (.bool false)), none⟩] [10] []) <|
     .ret)
     (.skip)) <|
  .seq (.region [⟨some 96, .mv (.tmp 0), none⟩,
     ⟨some 97, .load true 1 (.tmp 6), none⟩,
     ⟨some 98, .call (.func F.laws_toCard) [(.tmp 97)] [], none⟩,
     ⟨some 99, .load true 2 (.tmp 7), none⟩,
     ⟨some 100, .call (.func F.laws_toField) [(.tmp 99)] [], none⟩,
     ⟨some 101, .load true 2 (.tmp 8), none⟩,
     ⟨some 102, .call (.func F.laws_toField) [(.tmp 101)] [], none⟩,
     ⟨some 103, .load true 2 (.tmp 9), none⟩,
     ⟨some 104, .call (.func F.laws_toField) [(.tmp 103)] [], none⟩,
     ⟨some 105, .call (.func F.impl_CalculateCard) [(.tmp 96), (.tmp 98), (.tmp 100), (.tmp 102), (.tmp 104)] [], none⟩,
     ⟨some 95, .mv (.tmp 105), none⟩,
     ⟨some 106, .extract (.tmp 95) 0, none⟩,
     ⟨some 107, .extract (.tmp 95) 1, none⟩,
     ⟨some 20, .alloc [.v (.slice none 0 0)], none⟩,
     ⟨none, .store 1 (.tmp 20) (.tmp 106), none⟩,
     ⟨some 21, .mv (.tmp 107), none⟩] [12, 13, 15, 18, 20, 21] [96, 97, 98, 99, 100, 101, 102, 103, 104, 105, 95, 106, 107, 20]) <|
  .seq (.seq (.region [⟨some 108, .load true 1 (.tmp 20), none⟩,
      ⟨some 109, .load true 1 (.tmp 12), none⟩,
      ⟨some 110, .call (.func F.laws_eqCard) [(.tmp 108), (.tmp 109)] [], none⟩,
      ⟨some 111, .un .not (.tmp 110), none⟩,
      ⟨some 112, .mv (.tmp 111), none⟩,
      ⟨some 113, .mv (.tmp 21), some (112, false)⟩,
      ⟨some 114, .mv (.tmp 13), some (112, false)⟩,
      ⟨some 115, .bin .neq (.tmp 113) (.tmp 114), some (112, false)⟩,
      ⟨some 116, .pick (.tmp 112) (.const (.bool true)) (.tmp 115), none⟩] [15, 18, 116] []) <|
   .cond (.tmp 116)
     (.seq (.region [⟨some 10, .mv (.const (.bool false)), none⟩] [10] []) <|
     .ret)
     (.skip)) <|
  .seq (.region [⟨some 19, .mv (.const (.int .i64 (1))), none⟩] [15, 18, 19] []) <|
  .seq (.region [⟨some 117, .load true 1 (.tmp 15), none⟩,
     ⟨some 118, .mv (.tmp 19), none⟩,
     ⟨some 119, .call (.func F.laws_heldCard) [(.tmp 117), (.tmp 118)] [], none⟩,
     ⟨some 19, .mv (.tmp 119), none⟩] [18, 19] []) <|
  .seq (.seq (.region [⟨some 120, .mv (.tmp 19), none⟩,
      ⟨some 121, .bin .lss (.tmp 120) (.const (.int .i64 (0))), none⟩] [18, 19, 121] []) <|
   .cond (.tmp 121)
     (.seq (.region [⟨some 10, .mv (.const (.bool false)), none⟩] [10] []) <|
     .ret)
     (.skip)) <|
  .seq (.seq (.region [⟨some 122, .mv (.tmp 19), none⟩,
      ⟨some 123, .mv (.tmp 18), none⟩,
      ⟨some 124, .bin .neq (.tmp 122) (.tmp 123), none⟩] [124] []) <|
   .cond (.tmp 124)
     (.seq (.region [⟨some 10, .mv (.const (.bool false)), none⟩] [10] []) <|
     .ret)
     (.skip)) <|
  .seq (.region [⟨some 10, .mv (.const (.bool true)), none⟩] [10] []) <|
  .ret
theorem Cd.laws_FnExactCalculateCard_rs : Tryd.f4.results.toList = [.tmp 10] := rfl
theorem Cd.laws_FnExactCalculateCard_nt : Tryd.f4.ntmps = 125 := rfl
theorem Cd.laws_FnExactCalculateCard_ok : CodeIsR Tryd.prog 4 Tryd.f4 Cd.laws_FnExactCalculateCard := ⟨Tryd.func4, by kernel_rfl, by decide +kernel⟩
/-- loop.example/g01012/laws.szCardS -/
def Cd.laws_szCardS : ACode :=
  .seq (.region [⟨some 4, .mv (.const (.int .i64 (0))), none⟩] [0, 1] []) <|
  .seq (.region [⟨some 6, .mv (.tmp 1), none⟩,
     ⟨some 7, .mv (.tmp 0), none⟩,
     ⟨some 8, .len (.tmp 7), none⟩,
     ⟨some 9, .bin .sub (.tmp 6) (.tmp 8), none⟩,
     ⟨some 1, .mv (.tmp 9), none⟩] [0, 1] []) <|
  .seq (.seq (.region [⟨some 10, .mv (.tmp 1), none⟩,
      ⟨some 11, .bin .lss (.tmp 10) (.const (.int .i64 (0))), none⟩] [0, 1, 11] []) <|
   .cond (.tmp 11)
     (.seq (.region [⟨some 4, .mv (.const (.int .i64 (-1))), none⟩] [4] []) <|
     .ret)
     (.skip)) <|
  .seq (.seq (.region [⟨some 5, .mv (.const (.int .i64 (0))), none⟩] [0, 1, 5] []) <|
   .block 0 (
     .loop (
       .seq (.seq (.region [⟨some 12, .mv (.tmp 5), none⟩,
           ⟨some 13, .mv (.tmp 0), none⟩,
           ⟨some 14, .len (.tmp 13), none⟩,
           ⟨some 15, .bin .lss (.tmp 12) (.tmp 14), none⟩] [0, 1, 5, 15] []) <|
        .cond (.tmp 15)
          (.skip)
          (.exit 0)) <|
       .seq (.block 1 (
          .seq (.region [⟨some 18, .mv (.tmp 0), none⟩,
             ⟨some 19, .mv (.tmp 5), none⟩,
             ⟨some 20, .idxSl 1 (.tmp 18) (.tmp 19), none⟩,
             ⟨some 21, .load true 1 (.tmp 20), none⟩,
             ⟨some 22, .mv (.tmp 1), none⟩,
             ⟨some 23, .call (.func F.laws_szCard) [(.tmp 21), (.tmp 22)] [], none⟩,
             ⟨some 1, .mv (.tmp 23), none⟩] [0, 1, 5] []) <|
          .seq (.region [⟨some 24, .mv (.tmp 1), none⟩,
             ⟨some 25, .bin .lss (.tmp 24) (.const (.int .i64 (0))), none⟩] [0, 1, 5, 25] []) <|
          .cond (.tmp 25)
            (.seq (.region [⟨some 4, .mv (.const (.int .i64 (-1))), none⟩] [4] []) <|
            .ret)
            (.skip))) <|
       .region [⟨some 16, .mv (.tmp 5), none⟩,
         ⟨some 17, .bin .add (.tmp 16) (.const (.int .i64 (1))), none⟩,
         ⟨some 5, .mv (.tmp 17), none⟩] [0, 1, 5] []))) <|
  .seq (.region [⟨some 26, .mv (.tmp 1), none⟩,
     ⟨some 4, .mv (.tmp 26), none⟩] [4] []) <|
  .ret
theorem Cd.laws_szCardS_rs : Tryd.f12.results.toList = [.tmp 4] := rfl
theorem Cd.laws_szCardS_nt : Tryd.f12.ntmps = 27 := rfl
theorem Cd.laws_szCardS_ok : CodeIsR Tryd.prog 12 Tryd.f12 Cd.laws_szCardS := ⟨Tryd.func12, by kernel_rfl, by decide +kernel⟩
/-- loop.example/g01012/laws.toCardS -/
def Cd.laws_toCardS : ACode :=
  .seq (.region [⟨some 2, .mv (.const (.slice none 0 0)), none⟩] [0] []) <|
  .seq (.region [⟨some 5, .mv (.tmp 0), none⟩,
     ⟨some 6, .len (.tmp 5), none⟩,
     ⟨some 7, .mk 1 24 [.v (.slice none 0 0)] (.tmp 6), none⟩,
     ⟨some 3, .mv (.tmp 7), none⟩] [0, 3] []) <|
  .seq (.seq (.region [⟨some 4, .mv (.const (.int .i64 (0))), none⟩] [0, 3, 4] []) <|
   .block 0 (
     .loop (
       .seq (.seq (.region [⟨some 8, .mv (.tmp 4), none⟩,
           ⟨some 9, .mv (.tmp 0), none⟩,
           ⟨some 10, .len (.tmp 9), none⟩,
           ⟨some 11, .bin .lss (.tmp 8) (.tmp 10), none⟩] [0, 3, 4, 11] []) <|
        .cond (.tmp 11)
          (.skip)
          (.exit 0)) <|
       .seq (.block 1 (
          .region [⟨some 14, .mv (.tmp 3), none⟩,
            ⟨some 15, .mv (.tmp 4), none⟩,
            ⟨some 16, .mv (.tmp 0), none⟩,
            ⟨some 17, .mv (.tmp 4), none⟩,
            ⟨some 18, .idxSl 1 (.tmp 16) (.tmp 17), none⟩,
            ⟨some 19, .load true 1 (.tmp 18), none⟩,
            ⟨some 20, .call (.func F.laws_toCard) [(.tmp 19)] [], none⟩,
            ⟨some 21, .idxSl 1 (.tmp 14) (.tmp 15), none⟩,
            ⟨none, .store 1 (.tmp 21) (.tmp 20), none⟩] [0, 3, 4] [])) <|
       .region [⟨some 12, .mv (.tmp 4), none⟩,
         ⟨some 13, .bin .add (.tmp 12) (.const (.int .i64 (1))), none⟩,
         ⟨some 4, .mv (.tmp 13), none⟩] [0, 3, 4] []))) <|
  .seq (.region [⟨some 22, .mv (.tmp 3), none⟩,
     ⟨some 2, .mv (.tmp 22), none⟩] [2] []) <|
  .ret
theorem Cd.laws_toCardS_rs : Tryd.f14.results.toList = [.tmp 2] := rfl
theorem Cd.laws_toCardS_nt : Tryd.f14.ntmps = 23 := rfl
theorem Cd.laws_toCardS_ok : CodeIsR Tryd.prog 14 Tryd.f14 Cd.laws_toCardS := ⟨Tryd.func14, by kernel_rfl, by decide +kernel⟩
/-- loop.example/g01012/laws.toField -/
def Cd.laws_toField : ACode :=
  .seq (.region [⟨some 1, .box (.tmp 0), none⟩,
     ⟨some 2, .alloc [.v (.int .i64 (0)), .v (.int .i64 (0))], none⟩] [1, 2] []) <|
  .seq (.region [⟨some 3, .alloc [.v (.int .i64 (0)), .v (.int .i64 (0))], none⟩] [1, 2, 3] []) <|
  .seq (.region [⟨some 4, .fieldAddr 0 (.tmp 1), none⟩,
     ⟨some 5, .load false 1 (.tmp 4), none⟩,
     ⟨some 6, .fieldAddr 0 (.tmp 3), none⟩,
     ⟨none, .store 1 (.tmp 6) (.tmp 5), none⟩] [1, 2, 3] []) <|
  .seq (.region [⟨some 7, .fieldAddr 1 (.tmp 1), none⟩,
     ⟨some 8, .load false 1 (.tmp 7), none⟩,
     ⟨some 9, .fieldAddr 1 (.tmp 3), none⟩,
     ⟨none, .store 1 (.tmp 9) (.tmp 8), none⟩] [2, 3] []) <|
  .seq (.region [⟨some 10, .load true 2 (.tmp 3), none⟩,
     ⟨none, .store 2 (.tmp 2) (.tmp 10), none⟩] [2] []) <|
  .ret
theorem Cd.laws_toField_rs : Tryd.f15.results.toList = [.cell 2 30] := rfl
theorem Cd.laws_toField_nt : Tryd.f15.ntmps = 11 := rfl
theorem Cd.laws_toField_ok : CodeIsR Tryd.prog 15 Tryd.f15 Cd.laws_toField := ⟨Tryd.func15, by kernel_rfl, by decide +kernel⟩
/-- loop.example/g01012/laws.eqCardS DRAWS -/
def Cd.laws_eqCardS : ACode :=
  .seq (.region [⟨some 4, .mv (.const (.bool false)), none⟩] [0, 1] []) <|
  .seq (.seq (.region [⟨some 6, .mv (.tmp 0), none⟩,
      ⟨some 7, .len (.tmp 6), none⟩,
      ⟨some 8, .mv (.tmp 1), none⟩,
      ⟨some 9, .len (.tmp 8), none⟩,
      ⟨some 10, .bin .neq (.tmp 7) (.tmp 9), none⟩] [0, 1, 10] []) <|
   .cond (.tmp 10)
     (.seq (.region [⟨some 4, .mv (.const (.bool false)), none⟩] [4] []) <|
     .ret)
     (.skip)) <|
  .seq (.seq (.region [⟨some 5, .mv (.const (.int .i64 (0))), none⟩] [0, 1, 5] []) <|
   .block 0 (
     .loop (
       .seq (.seq (.region [⟨some 11, .mv (.tmp 5), none⟩,
           ⟨some 12, .mv (.tmp 0), none⟩,
           ⟨some 13, .len (.tmp 12), none⟩,
           ⟨some 14, .bin .lss (.tmp 11) (.tmp 13), none⟩] [0, 1, 5, 14] []) <|
        .cond (.tmp 14)
          (.skip)
          (.exit 0)) <|
       .seq (.block 1 (
          .seq (.region [⟨some 17, .mv (.tmp 0), none⟩,
             ⟨some 18, .mv (.tmp 5), none⟩,
             ⟨some 19, .idxSl 1 (.tmp 17) (.tmp 18), none⟩,
             ⟨some 20, .load true 1 (.tmp 19), none⟩,
             ⟨some 21, .mv (.tmp 1), none⟩,
             ⟨some 22, .mv (.tmp 5), none⟩,
             ⟨some 23, .idxSl 1 (.tmp 21) (.tmp 22), none⟩,
             ⟨some 24, .load true 1 (.tmp 23), none⟩,
             ⟨some 25, .call (.func F.laws_eqCard) [(.tmp 20), (.tmp 24)] [], none⟩,
             ⟨some 26, .un .not (.tmp 25), none⟩] [0, 1, 5, 26] [17, 18, 20, 21, 19, 22, 23, 24, 25, 26]) <|
          .cond (.tmp 26)
            (.seq (.region [⟨some 4, .mv (.const (.bool false)), none⟩] [4] []) <|
            .ret)
            (.skip))) <|
       .region [⟨some 15, .mv (.tmp 5), none⟩,
         ⟨some 16, .bin .add (.tmp 15) (.const (.int .i64 (1))), none⟩,
         ⟨some 5, .mv (.tmp 16), none⟩] [0, 1, 5] []))) <|
  .seq (.region [⟨some 4, .mv (.const (.bool true)), none⟩] [4] []) <|
  .ret
theorem Cd.laws_eqCardS_rs : Tryd.f17.results.toList = [.tmp 4] := rfl
theorem Cd.laws_eqCardS_nt : Tryd.f17.ntmps = 27 := rfl
theorem Cd.laws_eqCardS_ok : CodeIsR Tryd.prog 17 Tryd.f17 Cd.laws_eqCardS := ⟨Tryd.func17, by kernel_rfl, by decide +kernel⟩
/-- loop.example/g01012/laws.szCard -/
def Cd.laws_szCard : ACode :=
  .seq (.region [⟨some 2, .box (.tmp 0), none⟩,
     ⟨some 4, .mv (.const (.int .i64 (0))), none⟩] [1, 2] []) <|
  .seq (.region [⟨some 5, .fieldAddr 0 (.tmp 2), none⟩,
     ⟨some 6, .load false 1 (.tmp 5), none⟩,
     ⟨some 7, .mv (.tmp 1), none⟩,
     ⟨some 8, .call (.func F.laws_szInt64S) [(.tmp 6), (.tmp 7)] [], none⟩,
     ⟨some 1, .mv (.tmp 8), none⟩] [1] []) <|
  .seq (.seq (.region [⟨some 9, .mv (.tmp 1), none⟩,
      ⟨some 10, .bin .lss (.tmp 9) (.const (.int .i64 (0))), none⟩] [1, 10] []) <|
   .cond (.tmp 10)
     (.seq (.region [⟨some 4, .mv (.const (.int .i64 (-1))), none⟩] [4] []) <|
     .ret)
     (.skip)) <|
  .seq (.region [⟨some 11, .mv (.tmp 1), none⟩,
     ⟨some 4, .mv (.tmp 11), none⟩] [4] []) <|
  .ret
theorem Cd.laws_szCard_rs : Tryd.f18.results.toList = [.tmp 4] := rfl
theorem Cd.laws_szCard_nt : Tryd.f18.ntmps = 12 := rfl
theorem Cd.laws_szCard_ok : CodeIsR Tryd.prog 18 Tryd.f18 Cd.laws_szCard := ⟨Tryd.func18, by kernel_rfl, by decide +kernel⟩
/-- loop.example/g01012/spec.CalculateCard -/
def Cd.spec_CalculateCard : ACode :=
  .seq (.region [⟨some 6, .box (.tmp 1), none⟩,
     ⟨some 7, .box (.tmp 2), none⟩,
     ⟨some 8, .box (.tmp 3), none⟩,
     ⟨some 9, .box (.tmp 4), none⟩,
     ⟨some 10, .alloc [.v (.slice none 0 0)], none⟩,
     ⟨some 11, .mv (.const (.int .i64 (0))), none⟩] [0, 6, 7, 8, 9, 10] []) <|
  .seq (.seq (.region [⟨some 15, .call (.func F.spec_l02Ok) [(.tmp 6)] [], none⟩,
      ⟨some 16, .un .not (.tmp 15), none⟩] [0, 6, 7, 8, 9, 10, 16] []) <|
   .cond (.tmp 16)
     (.seq (.region [⟨some 17, .build [.v (.slice none 0 0)] [], none⟩,
        ⟨none, .store 1 (.tmp 10) (.tmp 17), none⟩,
        ⟨some 11, .mv (.const (.int .i64 (1))), none⟩] [10, 11] []) <|
     .ret)
     (.skip)) <|
  .seq (.seq (.region [⟨some 18, .mv (.tmp 0), none⟩,
      ⟨some 19, .call (.func F.spec_l14Kind) [(.tmp 18)] [], none⟩,
      ⟨some 20, .un .not (.tmp 19), none⟩,
      ⟨some 21, .mv (.tmp 20), none⟩,
      ⟨some 22, .load true 2 (.tmp 7), some (21, false)⟩,
      ⟨some 23, .load true 2 (.tmp 8), some (21, false)⟩,
      ⟨some 24, .load true 2 (.tmp 9), some (21, false)⟩,
      ⟨some 25, .bslice 2 3 [.v (.int .i64 (0)), .v (.int .i64 (0))] [(0, (.tmp 22)), (1, (.tmp 23)), (2, (.tmp 24))], some (21, false)⟩,
      ⟨some 26, .fieldAddr 0 (.tmp 6), some (21, false)⟩,
      ⟨some 27, .load false 1 (.tmp 26), some (21, false)⟩,
      ⟨some 28, .len (.tmp 27), some (21, false)⟩,
      ⟨some 29, .call (.func F.spec_l14Fields) [(.tmp 25), (.tmp 28)] [], some (21, false)⟩,
      ⟨some 30, .un .not (.tmp 29), some (21, false)⟩,
      ⟨some 31, .pick (.tmp 21) (.const (.bool true)) (.tmp 30), none⟩] [0, 6, 7, 8, 9, 10, 31] []) <|
   .cond (.tmp 31)
     (.seq (.region [⟨some 32, .build [.v (.slice none 0 0)] [], none⟩,
        ⟨none, .store 1 (.tmp 10) (.tmp 32), none⟩,
        ⟨some 11, .mv (.const (.int .i64 (2))), none⟩] [10, 11] []) <|
     .ret)
     (.skip)) <|
  .seq (.region [⟨some 34, .mv (.tmp 0), none⟩,
     ⟨some 35, .load true 2 (.tmp 7), none⟩,
     ⟨some 36, .load true 2 (.tmp 8), none⟩,
     ⟨some 37, .load true 2 (.tmp 9), none⟩,
     ⟨some 38, .call (.func F.spec_l14Card) [(.tmp 34), (.tmp 6), (.tmp 35), (.tmp 36), (.tmp 37)] [], none⟩,
     ⟨some 33, .mv (.tmp 38), none⟩,
     ⟨some 39, .extract (.tmp 33) 0, none⟩,
     ⟨some 40, .extract (.tmp 33) 1, none⟩,
     ⟨some 41, .extract (.tmp 33) 2, none⟩,
     ⟨some 12, .alloc [.v (.slice none 0 0)], none⟩,
     ⟨none, .store 1 (.tmp 12) (.tmp 39), none⟩,
     ⟨some 13, .mv (.tmp 40), none⟩,
     ⟨some 14, .mv (.tmp 41), none⟩] [10, 12, 14] []) <|
  .seq (.region [⟨some 42, .load true 1 (.tmp 12), none⟩,
     ⟨some 43, .mv (.tmp 14), none⟩,
     ⟨none, .store 1 (.tmp 10) (.tmp 42), none⟩,
     ⟨some 11, .mv (.tmp 43), none⟩] [10, 11] []) <|
  .ret
theorem Cd.spec_CalculateCard_rs : Tryd.f19.results.toList = [.cell 10 38, .tmp 11] := rfl
theorem Cd.spec_CalculateCard_nt : Tryd.f19.ntmps = 44 := rfl
theorem Cd.spec_CalculateCard_ok : CodeIsR Tryd.prog 19 Tryd.f19 Cd.spec_CalculateCard := ⟨Tryd.func19, by kernel_rfl, by decide +kernel⟩
/-- loop.example/g01012/laws.toCard -/
def Cd.laws_toCard : ACode :=
  .seq (.region [⟨some 1, .box (.tmp 0), none⟩,
     ⟨some 2, .alloc [.v (.slice none 0 0)], none⟩] [1, 2] []) <|
  .seq (.region [⟨some 3, .alloc [.v (.slice none 0 0)], none⟩] [1, 2, 3] []) <|
  .seq (.region [⟨some 4, .fieldAddr 0 (.tmp 1), none⟩,
     ⟨some 5, .load false 1 (.tmp 4), none⟩,
     ⟨some 6, .call (.func F.laws_toInt64S) [(.tmp 5)] [], none⟩,
     ⟨some 7, .fieldAddr 0 (.tmp 3), none⟩,
     ⟨none, .store 1 (.tmp 7) (.tmp 6), none⟩] [2, 3] []) <|
  .seq (.region [⟨some 8, .load true 1 (.tmp 3), none⟩,
     ⟨none, .store 1 (.tmp 2) (.tmp 8), none⟩] [2] []) <|
  .ret
theorem Cd.laws_toCard_rs : Tryd.f20.results.toList = [.cell 2 38] := rfl
theorem Cd.laws_toCard_nt : Tryd.f20.ntmps = 9 := rfl
theorem Cd.laws_toCard_ok : CodeIsR Tryd.prog 20 Tryd.f20 Cd.laws_toCard := ⟨Tryd.func20, by kernel_rfl, by decide +kernel⟩
/-- loop.example/g01012/impl.CalculateCard DRAWS -/
def Cd.impl_CalculateCard : ACode :=
  .seq (.region [⟨some 6, .box (.tmp 1), none⟩,
     ⟨some 7, .box (.tmp 2), none⟩,
     ⟨some 8, .box (.tmp 3), none⟩,
     ⟨some 9, .box (.tmp 4), none⟩,
     ⟨some 10, .alloc [.v (.slice none 0 0)], none⟩,
     ⟨some 11, .mv (.const (.int .i64 (0))), none⟩] [0, 6, 7, 8, 9, 10] []) <|
  .seq (.seq (.region [⟨some 13, .load true 1 (.tmp 6), none⟩,
      ⟨some 14, .call (.func F.impl_ValidCard) [(.tmp 13)] [], none⟩,
      ⟨some 15, .un .not (.tmp 14), none⟩] [0, 6, 7, 8, 9, 10, 15] []) <|
   .cond (.tmp 15)
     (.seq (.region [⟨some 16, .build [.v (.slice none 0 0)] [], none⟩,
        ⟨none, .store 1 (.tmp 10) (.tmp 16), none⟩,
        ⟨some 11, .mv (.const (.int .i64 (1))), none⟩] [10, 11] []) <|
     .ret)
     (.skip)) <|
  .seq (.seq (.region [⟨some 17, .mv (.tmp 0), none⟩,
      ⟨some 18, .load true 1 (.tmp 6), none⟩,
      ⟨some 19, .call (.func F._impl_Card__columns) [(.tmp 18)] [], none⟩,
      ⟨some 20, .load true 2 (.tmp 7), none⟩,
      ⟨some 21, .load true 2 (.tmp 8), none⟩,
      ⟨some 22, .load true 2 (.tmp 9), none⟩,
      ⟨some 23, .bslice 2 3 [.v (.int .i64 (0)), .v (.int .i64 (0))] [(0, (.tmp 20)), (1, (.tmp 21)), (2, (.tmp 22))], none⟩,
      ⟨some 24, .call (.func F.impl_calcCode) [(.tmp 17), (.tmp 19), (.tmp 23)] [], none⟩,
      ⟨some 12, .mv (.tmp 24), none⟩] [0, 6, 7, 8, 9, 10, 12] [17, 18, 19, 20, 21, 22, 23, 24]) <|
   .seq (.region [⟨some 25, .mv (.tmp 12), none⟩,
      ⟨some 26, .bin .neq (.tmp 25) (.const (.int .i64 (0))), none⟩] [0, 6, 7, 8, 9, 10, 12, 26] []) <|
   .cond (.tmp 26)
     (.seq (.region [⟨some 27, .build [.v (.slice none 0 0)] [], none⟩,
        ⟨some 28, .mv (.tmp 12), none⟩,
        ⟨none, .store 1 (.tmp 10) (.tmp 27), none⟩,
        ⟨some 11, .mv (.tmp 28), none⟩] [10, 11] []) <|
     .ret)
     (.skip)) <|
  .seq (.region [⟨some 29, .mv (.tmp 0), none⟩,
     ⟨some 30, .load true 1 (.tmp 6), none⟩,
     ⟨some 31, .load true 2 (.tmp 7), none⟩,
     ⟨some 32, .load true 2 (.tmp 8), none⟩,
     ⟨some 33, .load true 2 (.tmp 9), none⟩,
     ⟨some 34, .call (.func F.impl_calculatedCard) [(.tmp 29), (.tmp 30), (.tmp 31), (.tmp 32), (.tmp 33)] [], none⟩,
     ⟨some 35, .extract (.tmp 34) 0, none⟩,
     ⟨some 36, .extract (.tmp 34) 1, none⟩,
     ⟨none, .store 1 (.tmp 10) (.tmp 35), none⟩,
     ⟨some 11, .mv (.tmp 36), none⟩] [10, 11] []) <|
  .ret
theorem Cd.impl_CalculateCard_rs : Tryd.f21.results.toList = [.cell 10 38, .tmp 11] := rfl
theorem Cd.impl_CalculateCard_nt : Tryd.f21.ntmps = 37 := rfl
theorem Cd.impl_CalculateCard_ok : CodeIsR Tryd.prog 21 Tryd.f21 Cd.impl_CalculateCard := ⟨Tryd.func21, by kernel_rfl, by decide +kernel⟩
/-- loop.example/g01012/laws.eqCard -/
def Cd.laws_eqCard : ACode :=
  .seq (.region [⟨some 2, .box (.tmp 0), none⟩,
     ⟨some 3, .box (.tmp 1), none⟩,
     ⟨some 4, .mv (.const (.bool false)), none⟩] [2, 3] []) <|
  .seq (.seq (.region [⟨some 5, .fieldAddr 0 (.tmp 2), none⟩,
      ⟨some 6, .load false 1 (.tmp 5), none⟩,
      ⟨some 7, .fieldAddr 0 (.tmp 3), none⟩,
      ⟨some 8, .load false 1 (.tmp 7), none⟩,
      ⟨some 9, .call (.func F.laws_eqInt64S) [(.tmp 6), (.tmp 8)] [], none⟩,
      ⟨some 10, .un .not (.tmp 9), none⟩] [10] []) <|
   .cond (.tmp 10)
     (.seq (.region [⟨some 4, .mv (.const (.bool false)), none⟩] [4] []) <|
     .ret)
     (.skip)) <|
  .seq (.region [⟨some 4, .mv (.const (.bool true)), none⟩] [4] []) <|
  .ret
theorem Cd.laws_eqCard_rs : Tryd.f22.results.toList = [.tmp 4] := rfl
theorem Cd.laws_eqCard_nt : Tryd.f22.ntmps = 11 := rfl
theorem Cd.laws_eqCard_ok : CodeIsR Tryd.prog 22 Tryd.f22 Cd.laws_eqCard := ⟨Tryd.func22, by kernel_rfl, by decide +kernel⟩
/-- loop.example/g01012/laws.markCard -/
def Cd.laws_markCard : ACode :=
  .seq (.region [⟨some 2, .box (.tmp 0), none⟩,
     ⟨some 4, .mv (.const (.int .i64 (0))), none⟩] [1, 2] []) <|
  .seq (.region [⟨some 5, .fieldAddr 0 (.tmp 2), none⟩,
     ⟨some 6, .load false 1 (.tmp 5), none⟩,
     ⟨some 7, .mv (.tmp 1), none⟩,
     ⟨some 8, .call (.func F.laws_markInt64S) [(.tmp 6), (.tmp 7)] [0], none⟩,
     ⟨some 1, .mv (.tmp 8), none⟩] [1] []) <|
  .seq (.region [⟨some 9, .mv (.tmp 1), none⟩,
     ⟨some 4, .mv (.tmp 9), none⟩] [4] []) <|
  .ret
theorem Cd.laws_markCard_rs : Tryd.f23.results.toList = [.tmp 4] := rfl
theorem Cd.laws_markCard_nt : Tryd.f23.ntmps = 10 := rfl
theorem Cd.laws_markCard_ok : CodeIsR Tryd.prog 23 Tryd.f23 Cd.laws_markCard := ⟨Tryd.func23, by kernel_rfl, by decide +kernel⟩
/-- loop.example/g01012/laws.heldCard -/
def Cd.laws_heldCard : ACode :=
  .seq (.region [⟨some 2, .box (.tmp 0), none⟩,
     ⟨some 4, .mv (.const (.int .i64 (0))), none⟩] [1, 2] []) <|
  .seq (.region [⟨some 5, .fieldAddr 0 (.tmp 2), none⟩,
     ⟨some 6, .load false 1 (.tmp 5), none⟩,
     ⟨some 7, .mv (.tmp 1), none⟩,
     ⟨some 8, .call (.func F.laws_heldInt64S) [(.tmp 6), (.tmp 7)] [], none⟩,
     ⟨some 1, .mv (.tmp 8), none⟩] [1] []) <|
  .seq (.seq (.region [⟨some 9, .mv (.tmp 1), none⟩,
      ⟨some 10, .bin .lss (.tmp 9) (.const (.int .i64 (0))), none⟩] [1, 10] []) <|
   .cond (.tmp 10)
     (.seq (.region [⟨some 4, .mv (.const (.int .i64 (-1))), none⟩] [4] []) <|
     .ret)
     (.skip)) <|
  .seq (.region [⟨some 11, .mv (.tmp 1), none⟩,
     ⟨some 4, .mv (.tmp 11), none⟩] [4] []) <|
  .ret
theorem Cd.laws_heldCard_rs : Tryd.f24.results.toList = [.tmp 4] := rfl
theorem Cd.laws_heldCard_nt : Tryd.f24.ntmps = 12 := rfl
theorem Cd.laws_heldCard_ok : CodeIsR Tryd.prog 24 Tryd.f24 Cd.laws_heldCard := ⟨Tryd.func24, by kernel_rfl, by decide +kernel⟩
/-- loop.example/g01012/laws.toControl -/
def Cd.laws_toControl : ACode :=
  .seq (.region [⟨some 1, .box (.tmp 0), none⟩,
     ⟨some 2, .alloc [.v (.int .i64 (0)), .v (.int .i64 (0)), .v (.int .i64 (0))], none⟩] [1, 2] []) <|
  .seq (.region [⟨some 3, .alloc [.v (.int .i64 (0)), .v (.int .i64 (0)), .v (.int .i64 (0))], none⟩] [1, 2, 3] []) <|
  .seq (.region [⟨some 4, .fieldAddr 0 (.tmp 1), none⟩,
     ⟨some 5, .load false 1 (.tmp 4), none⟩,
     ⟨some 6, .fieldAddr 0 (.tmp 3), none⟩,
     ⟨none, .store 1 (.tmp 6) (.tmp 5), none⟩] [1, 2, 3] []) <|
  .seq (.region [⟨some 7, .fieldAddr 1 (.tmp 1), none⟩,
     ⟨some 8, .load false 1 (.tmp 7), none⟩,
     ⟨some 9, .fieldAddr 1 (.tmp 3), none⟩,
     ⟨none, .store 1 (.tmp 9) (.tmp 8), none⟩] [1, 2, 3] []) <|
  .seq (.region [⟨some 10, .fieldAddr 2 (.tmp 1), none⟩,
     ⟨some 11, .load false 1 (.tmp 10), none⟩,
     ⟨some 12, .fieldAddr 2 (.tmp 3), none⟩,
     ⟨none, .store 1 (.tmp 12) (.tmp 11), none⟩] [2, 3] []) <|
  .seq (.region [⟨some 13, .load true 3 (.tmp 3), none⟩,
     ⟨none, .store 3 (.tmp 2) (.tmp 13), none⟩] [2] []) <|
  .ret
theorem Cd.laws_toControl_rs : Tryd.f30.results.toList = [.cell 2 52] := rfl
theorem Cd.laws_toControl_nt : Tryd.f30.ntmps = 14 := rfl
theorem Cd.laws_toControl_ok : CodeIsR Tryd.prog 30 Tryd.f30 Cd.laws_toControl := ⟨Tryd.func30, by kernel_rfl, by decide +kernel⟩
/-- loop.example/g01012/laws.eqControl -/
def Cd.laws_eqControl : ACode :=
  .seq (.region [⟨some 2, .box (.tmp 0), none⟩,
     ⟨some 3, .box (.tmp 1), none⟩,
     ⟨some 4, .mv (.const (.bool false)), none⟩] [2, 3] []) <|
  .seq (.seq (.region [⟨some 5, .fieldAddr 0 (.tmp 2), none⟩,
      ⟨some 6, .load false 1 (.tmp 5), none⟩,
      ⟨some 7, .fieldAddr 0 (.tmp 3), none⟩,
      ⟨some 8, .load false 1 (.tmp 7), none⟩,
      ⟨some 9, .bin .neq (.tmp 6) (.tmp 8), none⟩] [2, 3, 9] []) <|
   .cond (.tmp 9)
     (.seq (.region [⟨some 4, .mv (.const (.bool false)), none⟩] [4] []) <|
     .ret)
     (.skip)) <|
  .seq (.seq (.region [⟨some 10, .fieldAddr 1 (.tmp 2), none⟩,
      ⟨some 11, .load false 1 (.tmp 10), none⟩,
      ⟨some 12, .fieldAddr 1 (.tmp 3), none⟩,
      ⟨some 13, .load false 1 (.tmp 12), none⟩,
      ⟨some 14, .bin .neq (.tmp 11) (.tmp 13), none⟩] [2, 3, 14] []) <|
   .cond (.tmp 14)
     (.seq (.region [⟨some 4, .mv (.const (.bool false)), none⟩] [4] []) <|
     .ret)
     (.skip)) <|
  .seq (.seq (.region [⟨some 15, .fieldAddr 2 (.tmp 2), none⟩,
      ⟨some 16, .load false 1 (.tmp 15), none⟩,
      ⟨some 17, .fieldAddr 2 (.tmp 3), none⟩,
      ⟨some 18, .load false 1 (.tmp 17), none⟩,
      ⟨some 19, .bin .neq (.tmp 16) (.tmp 18), none⟩] [19] []) <|
   .cond (.tmp 19)
     (.seq (.region [⟨some 4, .mv (.const (.bool false)), none⟩] [4] []) <|
     .ret)
     (.skip)) <|
  .seq (.region [⟨some 4, .mv (.const (.bool true)), none⟩] [4] []) <|
  .ret
theorem Cd.laws_eqControl_rs : Tryd.f50.results.toList = [.tmp 4] := rfl
theorem Cd.laws_eqControl_nt : Tryd.f50.ntmps = 20 := rfl
theorem Cd.laws_eqControl_ok : CodeIsR Tryd.prog 50 Tryd.f50 Cd.laws_eqControl := ⟨Tryd.func50, by kernel_rfl, by decide +kernel⟩
/-- loop.example/g01012/spec.l02Deck DRAWS -/
def Cd.spec_l02Deck : ACode :=
  .seq (.region [⟨some 2, .mv (.const (.bool false)), none⟩] [0] []) <|
  .seq (.seq (.region [⟨some 3, .mv (.const (.int .i64 (0))), none⟩] [0, 3] []) <|
   .block 0 (
     .loop (
       .seq (.seq (.region [⟨some 4, .mv (.tmp 3), none⟩,
           ⟨some 5, .mv (.tmp 0), none⟩,
           ⟨some 6, .len (.tmp 5), none⟩,
           ⟨some 7, .bin .lss (.tmp 4) (.tmp 6), none⟩] [0, 3, 7] []) <|
        .cond (.tmp 7)
          (.skip)
          (.exit 0)) <|
       .seq (.block 1 (
          .seq (.region [⟨some 10, .mv (.tmp 0), none⟩,
             ⟨some 11, .mv (.tmp 3), none⟩,
             ⟨some 12, .idxSl 1 (.tmp 10) (.tmp 11), none⟩,
             ⟨some 13, .call (.func F.spec_l02Ok) [(.tmp 12)] [], none⟩,
             ⟨some 14, .un .not (.tmp 13), none⟩,
             ⟨some 15, .mv (.tmp 14), none⟩,
             ⟨some 16, .mv (.tmp 0), some (15, false)⟩,
             ⟨some 17, .mv (.tmp 3), some (15, false)⟩,
             ⟨some 18, .idxSl 1 (.tmp 16) (.tmp 17), some (15, false)⟩,
             ⟨some 19, .fieldAddr 0 (.tmp 18), some (15, false)⟩,
             ⟨some 20, .load false 1 (.tmp 19), some (15, false)⟩,
             ⟨some 21, .len (.tmp 20), some (15, false)⟩,
             ⟨some 22, .mv (.tmp 0), some (15, false)⟩,
             ⟨some 23, .idxSl 1 (.tmp 22) (.const (.int .i64 (0))), some (15, false)⟩,
             ⟨some 24, .fieldAddr 0 (.tmp 23), some (15, false)⟩,
             ⟨some 25, .load false 1 (.tmp 24), some (15, false)⟩,
             ⟨some 26, .len (.tmp 25), some (15, false)⟩,
             ⟨some 27, .bin .neq (.tmp 21) (.tmp 26), some (15, false)⟩,
             ⟨some 28, .pick (.tmp 15) (.const (.bool true)) (.tmp 27), none⟩] [0, 3, 28] [10, 11, 13, 14, 12, 15, 16, 17, 18, 19, 20, 21, 22, 23, 24, 25, 26, 27, 28]) <|
          .cond (.tmp 28)
            (.seq (.region [⟨some 2, .mv (.const (.bool false)), none⟩] [2] []) <|
            .ret)
            (.skip))) <|
       .region [⟨some 8, .mv (.tmp 3), none⟩,
         ⟨some 9, .bin .add (.tmp 8) (.const (.int .i64 (1))), none⟩,
         ⟨some 3, .mv (.tmp 9), none⟩] [0, 3] []))) <|
  .seq (.region [⟨some 29, .mv (.tmp 0), none⟩,
     ⟨some 30, .len (.tmp 29), none⟩,
     ⟨some 31, .bin .leq (.tmp 30) (.const (.int .i64 (40))), none⟩,
     ⟨some 2, .mv (.tmp 31), none⟩] [2] []) <|
  .ret
theorem Cd.spec_l02Deck_rs : Tryd.f51.results.toList = [.tmp 2] := rfl
theorem Cd.spec_l02Deck_nt : Tryd.f51.ntmps = 32 := rfl
theorem Cd.spec_l02Deck_ok : CodeIsR Tryd.prog 51 Tryd.f51 Cd.spec_l02Deck := ⟨Tryd.func51, by kernel_rfl, by decide +kernel⟩
/-- loop.example/g01012/spec.l14Kind -/
def Cd.spec_l14Kind : ACode :=
  .seq (.region [⟨some 2, .mv (.const (.bool false)), none⟩] [0] []) <|
  .seq (.region [⟨some 3, .mv (.tmp 0), none⟩,
     ⟨some 4, .call (.func F.spec_l00In) [(.tmp 3), (.const (.int .i64 (1))), (.const (.int .i64 (4)))] [], none⟩,
     ⟨some 2, .mv (.tmp 4), none⟩] [2] []) <|
  .ret
theorem Cd.spec_l14Kind_rs : Tryd.f52.results.toList = [.tmp 2] := rfl
theorem Cd.spec_l14Kind_nt : Tryd.f52.ntmps = 5 := rfl
theorem Cd.spec_l14Kind_ok : CodeIsR Tryd.prog 52 Tryd.f52 Cd.spec_l14Kind := ⟨Tryd.func52, by kernel_rfl, by decide +kernel⟩
/-- loop.example/g01012/spec.l14Fields DRAWS -/
def Cd.spec_l14Fields : ACode :=
  .seq (.region [⟨some 4, .mv (.const (.bool false)), none⟩] [0, 1] []) <|
  .seq (.seq (.region [⟨some 5, .mv (.const (.int .i64 (0))), none⟩] [0, 1, 5] []) <|
   .block 0 (
     .loop (
       .seq (.seq (.region [⟨some 6, .mv (.tmp 5), none⟩,
           ⟨some 7, .mv (.tmp 0), none⟩,
           ⟨some 8, .len (.tmp 7), none⟩,
           ⟨some 9, .bin .lss (.tmp 6) (.tmp 8), none⟩] [0, 1, 5, 9] []) <|
        .cond (.tmp 9)
          (.skip)
          (.exit 0)) <|
       .seq (.block 1 (
          .seq (.region [⟨some 12, .mv (.tmp 0), none⟩,
             ⟨some 13, .mv (.tmp 5), none⟩,
             ⟨some 14, .idxSl 2 (.tmp 12) (.tmp 13), none⟩,
             ⟨some 15, .load true 2 (.tmp 14), none⟩,
             ⟨some 16, .mv (.tmp 1), none⟩,
             ⟨some 17, .call (.func F.spec_l02Field) [(.tmp 15), (.tmp 16)] [], none⟩,
             ⟨some 18, .un .not (.tmp 17), none⟩,
             ⟨some 19, .mv (.tmp 18), none⟩,
             ⟨some 20, .mv (.tmp 0), some (19, false)⟩,
             ⟨some 21, .mv (.tmp 5), some (19, false)⟩,
             ⟨some 22, .idxSl 2 (.tmp 20) (.tmp 21), some (19, false)⟩,
             ⟨some 23, .fieldAddr 1 (.tmp 22), some (19, false)⟩,
             ⟨some 24, .load false 1 (.tmp 23), some (19, false)⟩,
             ⟨some 25, .mv (.tmp 0), some (19, false)⟩,
             ⟨some 26, .mv (.tmp 5), some (19, false)⟩,
             ⟨some 27, .idxSl 2 (.tmp 25) (.tmp 26), some (19, false)⟩,
             ⟨some 28, .fieldAddr 0 (.tmp 27), some (19, false)⟩,
             ⟨some 29, .load false 1 (.tmp 28), some (19, false)⟩,
             ⟨some 30, .bin .sub (.tmp 24) (.tmp 29), some (19, false)⟩,
             ⟨some 31, .bin .gtr (.tmp 30) (.const (.int .i64 (12))), some (19, false)⟩,
             ⟨some 32, .pick (.tmp 19) (.const (.bool true)) (.tmp 31), none⟩] [0, 1, 5, 32] [12, 13, 15, 16, 14, 17, 18, 19, 20, 21, 22, 23, 24, 25, 26, 27, 28, 29, 30, 31, 32]) <|
          .cond (.tmp 32)
            (.seq (.region [⟨some 4, .mv (.const (.bool false)), none⟩] [4] []) <|
            .ret)
            (.skip))) <|
       .region [⟨some 10, .mv (.tmp 5), none⟩,
         ⟨some 11, .bin .add (.tmp 10) (.const (.int .i64 (1))), none⟩,
         ⟨some 5, .mv (.tmp 11), none⟩] [0, 1, 5] []))) <|
  .seq (.region [⟨some 4, .mv (.const (.bool true)), none⟩] [4] []) <|
  .ret
theorem Cd.spec_l14Fields_rs : Tryd.f53.results.toList = [.tmp 4] := rfl
theorem Cd.spec_l14Fields_nt : Tryd.f53.ntmps = 33 := rfl
theorem Cd.spec_l14Fields_ok : CodeIsR Tryd.prog 53 Tryd.f53 Cd.spec_l14Fields := ⟨Tryd.func53, by kernel_rfl, by decide +kernel⟩
/-- loop.example/g01012/spec.l07Width -/
def Cd.spec_l07Width : ACode :=
  .seq (.region [⟨some 2, .mv (.const (.int .i64 (0))), none⟩] [0] []) <|
  .seq (.seq (.region [⟨some 3, .mv (.tmp 0), none⟩,
      ⟨some 4, .len (.tmp 3), none⟩,
      ⟨some 5, .bin .eql (.tmp 4) (.const (.int .i64 (0))), none⟩] [0, 5] []) <|
   .cond (.tmp 5)
     (.seq (.region [⟨some 2, .mv (.const (.int .i64 (20))), none⟩] [2] []) <|
     .ret)
     (.skip)) <|
  .seq (.region [⟨some 6, .mv (.tmp 0), none⟩,
     ⟨some 7, .idxSl 1 (.tmp 6) (.const (.int .i64 (0))), none⟩,
     ⟨some 8, .fieldAddr 0 (.tmp 7), none⟩,
     ⟨some 9, .load false 1 (.tmp 8), none⟩,
     ⟨some 10, .len (.tmp 9), none⟩,
     ⟨some 2, .mv (.tmp 10), none⟩] [2] []) <|
  .ret
theorem Cd.spec_l07Width_rs : Tryd.f54.results.toList = [.tmp 2] := rfl
theorem Cd.spec_l07Width_nt : Tryd.f54.ntmps = 11 := rfl
theorem Cd.spec_l07Width_ok : CodeIsR Tryd.prog 54 Tryd.f54 Cd.spec_l07Width := ⟨Tryd.func54, by kernel_rfl, by decide +kernel⟩
/-- loop.example/g01012/spec.l14Read -/
def Cd.spec_l14Read : ACode :=
  .seq (.region [⟨some 4, .box (.tmp 1), none⟩,
     ⟨some 5, .box (.tmp 2), none⟩,
     ⟨some 6, .mv (.const (.int .i64 (0))), none⟩,
     ⟨some 7, .mv (.const (.int .i64 (0))), none⟩,
     ⟨some 8, .mv (.const (.int .i64 (0))), none⟩] [0, 4, 5] []) <|
  .seq (.region [⟨some 14, .mv (.tmp 0), none⟩,
     ⟨some 15, .load true 2 (.tmp 4), none⟩,
     ⟨some 16, .call (.func F.spec_l02Part) [(.tmp 14), (.tmp 15)] [], none⟩,
     ⟨some 17, .call (.func F.spec_l03Number) [(.tmp 16)] [], none⟩,
     ⟨some 13, .mv (.tmp 17), none⟩,
     ⟨some 18, .extract (.tmp 13) 0, none⟩,
     ⟨some 19, .extract (.tmp 13) 1, none⟩,
     ⟨some 9, .mv (.tmp 18), none⟩,
     ⟨some 10, .mv (.tmp 19), none⟩] [0, 5, 9, 10] []) <|
  .seq (.region [⟨some 21, .mv (.tmp 0), none⟩,
     ⟨some 22, .load true 2 (.tmp 5), none⟩,
     ⟨some 23, .call (.func F.spec_l02Part) [(.tmp 21), (.tmp 22)] [], none⟩,
     ⟨some 24, .call (.func F.spec_l03Number) [(.tmp 23)] [], none⟩,
     ⟨some 20, .mv (.tmp 24), none⟩,
     ⟨some 25, .extract (.tmp 20) 0, none⟩,
     ⟨some 26, .extract (.tmp 20) 1, none⟩,
     ⟨some 11, .mv (.tmp 25), none⟩,
     ⟨some 12, .mv (.tmp 26), none⟩] [9, 10, 11, 12] []) <|
  .seq (.seq (.region [⟨some 27, .mv (.tmp 10), none⟩,
      ⟨some 28, .un .not (.tmp 27), none⟩,
      ⟨some 29, .mv (.tmp 28), none⟩,
      ⟨some 30, .mv (.tmp 12), some (29, false)⟩,
      ⟨some 31, .un .not (.tmp 30), some (29, false)⟩,
      ⟨some 32, .pick (.tmp 29) (.const (.bool true)) (.tmp 31), none⟩] [9, 11, 32] []) <|
   .cond (.tmp 32)
     (.seq (.region [⟨some 6, .mv (.const (.int .i64 (0))), none⟩,
        ⟨some 7, .mv (.const (.int .i64 (0))), none⟩,
        ⟨some 8, .mv (.const (.int .i64 (8))), none⟩] [6, 7, 8] []) <|
     .ret)
     (.skip)) <|
  .seq (.region [⟨some 33, .mv (.tmp 9), none⟩,
     ⟨some 34, .mv (.tmp 11), none⟩,
     ⟨some 6, .mv (.tmp 33), none⟩,
     ⟨some 7, .mv (.tmp 34), none⟩,
     ⟨some 8, .mv (.const (.int .i64 (0))), none⟩] [6, 7, 8] []) <|
  .ret
theorem Cd.spec_l14Read_rs : Tryd.f55.results.toList = [.tmp 6, .tmp 7, .tmp 8] := rfl
theorem Cd.spec_l14Read_nt : Tryd.f55.ntmps = 35 := rfl
theorem Cd.spec_l14Read_ok : CodeIsR Tryd.prog 55 Tryd.f55 Cd.spec_l14Read := ⟨Tryd.func55, by kernel_rfl, by decide +kernel⟩
/-- loop.example/g01012/spec.l14Do -/
def Cd.spec_l14Do : ACode :=
  .seq (.region [⟨some 6, .mv (.const (.int .i64 (0))), none⟩,
     ⟨some 7, .mv (.const (.int .i64 (0))), none⟩,
     ⟨some 8, .mv (.const (.int .i64 (0))), none⟩] [0, 1, 2] []) <|
  .seq (.seq (.region [⟨some 14, .mv (.tmp 0), none⟩] [0, 1, 2, 14] []) <|
   .block 0 (
     .seq (.region [⟨some 16, .bin .eql (.tmp 14) (.const (.int .i64 (3))), none⟩,
        ⟨some 15, .mv (.tmp 16), none⟩] [0, 1, 2, 14, 15] []) <|
     .cond (.tmp 15)
       (.seq (.region [⟨some 17, .mv (.tmp 1), none⟩,
          ⟨some 18, .mv (.tmp 2), none⟩,
          ⟨some 19, .call (.func F.spec_ProductBy) [(.tmp 17), (.tmp 18)] [], none⟩,
          ⟨some 20, .extract (.tmp 19) 0, none⟩,
          ⟨some 21, .extract (.tmp 19) 1, none⟩,
          ⟨some 22, .extract (.tmp 19) 2, none⟩,
          ⟨some 6, .mv (.tmp 20), none⟩,
          ⟨some 7, .mv (.tmp 21), none⟩,
          ⟨some 8, .mv (.tmp 22), none⟩] [6, 7, 8] []) <|
       .ret)
       (.seq (.region [⟨some 24, .bin .eql (.tmp 14) (.const (.int .i64 (4))), none⟩,
          ⟨some 23, .mv (.tmp 24), none⟩] [0, 1, 2, 23] []) <|
       .cond (.tmp 23)
         (.seq (.region [⟨some 26, .mv (.tmp 1), none⟩,
            ⟨some 27, .mv (.tmp 2), none⟩,
            ⟨some 28, .call (.func F.spec_QuotientBy) [(.tmp 26), (.tmp 27)] [], none⟩,
            ⟨some 25, .mv (.tmp 28), none⟩,
            ⟨some 29, .extract (.tmp 25) 0, none⟩,
            ⟨some 30, .extract (.tmp 25) 1, none⟩,
            ⟨some 31, .extract (.tmp 25) 2, none⟩,
            ⟨some 32, .extract (.tmp 25) 3, none⟩,
            ⟨some 9, .mv (.tmp 29), none⟩,
            ⟨some 10, .mv (.tmp 30), none⟩,
            ⟨some 11, .mv (.tmp 31), none⟩,
            ⟨some 12, .mv (.tmp 32), none⟩] [9, 11, 12] []) <|
         .seq (.region [⟨some 33, .mv (.tmp 9), none⟩,
            ⟨some 34, .mv (.tmp 11), none⟩,
            ⟨some 35, .mv (.tmp 12), none⟩,
            ⟨some 6, .mv (.tmp 33), none⟩,
            ⟨some 7, .mv (.tmp 34), none⟩,
            ⟨some 8, .mv (.tmp 35), none⟩] [6, 7, 8] []) <|
         .ret)
         (.skip)))) <|
  .seq (.seq (.region [⟨some 36, .mv (.tmp 1), none⟩,
      ⟨some 37, .call (.func F.spec_l14Number) [(.tmp 36)] [], none⟩,
      ⟨some 38, .un .not (.tmp 37), none⟩,
      ⟨some 39, .mv (.tmp 38), none⟩,
      ⟨some 40, .mv (.tmp 2), some (39, false)⟩,
      ⟨some 41, .call (.func F.spec_l14Number) [(.tmp 40)] [], some (39, false)⟩,
      ⟨some 42, .un .not (.tmp 41), some (39, false)⟩,
      ⟨some 43, .pick (.tmp 39) (.const (.bool true)) (.tmp 42), none⟩] [0, 1, 2, 43] []) <|
   .cond (.tmp 43)
     (.seq (.region [⟨some 6, .mv (.const (.int .i64 (0))), none⟩,
        ⟨some 7, .mv (.const (.int .i64 (0))), none⟩,
        ⟨some 8, .mv (.const (.int .i64 (2))), none⟩] [6, 7, 8] []) <|
     .ret)
     (.skip)) <|
  .seq (.region [⟨some 44, .mv (.tmp 1), none⟩,
     ⟨some 45, .mv (.tmp 2), none⟩,
     ⟨some 46, .bin .add (.tmp 44) (.tmp 45), none⟩,
     ⟨some 13, .mv (.tmp 46), none⟩] [0, 1, 2, 13] []) <|
  .seq (.seq (.region [⟨some 47, .mv (.tmp 0), none⟩,
      ⟨some 48, .bin .eql (.tmp 47) (.const (.int .i64 (2))), none⟩] [1, 2, 13, 48] []) <|
   .cond (.tmp 48)
     (.region [⟨some 49, .mv (.tmp 1), none⟩,
       ⟨some 50, .mv (.tmp 2), none⟩,
       ⟨some 51, .bin .sub (.tmp 49) (.tmp 50), none⟩,
       ⟨some 13, .mv (.tmp 51), none⟩] [13] [])
     (.skip)) <|
  .seq (.seq (.region [⟨some 52, .mv (.tmp 13), none⟩,
      ⟨some 53, .call (.func F.spec_l14Number) [(.tmp 52)] [], none⟩,
      ⟨some 54, .un .not (.tmp 53), none⟩] [13, 54] []) <|
   .cond (.tmp 54)
     (.seq (.region [⟨some 6, .mv (.const (.int .i64 (0))), none⟩,
        ⟨some 7, .mv (.const (.int .i64 (0))), none⟩,
        ⟨some 8, .mv (.const (.int .i64 (5))), none⟩] [6, 7, 8] []) <|
     .ret)
     (.skip)) <|
  .seq (.region [⟨some 55, .mv (.tmp 13), none⟩,
     ⟨some 6, .mv (.tmp 55), none⟩,
     ⟨some 7, .mv (.const (.int .i64 (2))), none⟩,
     ⟨some 8, .mv (.const (.int .i64 (0))), none⟩] [6, 7, 8] []) <|
  .ret
theorem Cd.spec_l14Do_rs : Tryd.f56.results.toList = [.tmp 6, .tmp 7, .tmp 8] := rfl
theorem Cd.spec_l14Do_nt : Tryd.f56.ntmps = 56 := rfl
theorem Cd.spec_l14Do_ok : CodeIsR Tryd.prog 56 Tryd.f56 Cd.spec_l14Do := ⟨Tryd.func56, by kernel_rfl, by decide +kernel⟩
/-- loop.example/g01012/impl.ValidDeck DRAWS -/
def Cd.impl_ValidDeck : ACode :=
  .seq (.region [⟨some 2, .mv (.const (.bool false)), none⟩] [0] []) <|
  .seq (.seq (.region [⟨some 5, .mv (.tmp 0), none⟩,
      ⟨some 6, .len (.tmp 5), none⟩,
      ⟨some 7, .mv (.const (.int .i64 (0))), none⟩] [0, 5, 6, 7] []) <|
   .block 0 (
     .loop (
       .seq (.region [⟨some 8, .bin .lss (.tmp 7) (.tmp 6), none⟩] [0, 5, 6, 7, 8] []) <|
       .seq (.cond (.tmp 8)
          (.skip)
          (.exit 0)) <|
       .seq (.block 1 (
          .seq (.region [⟨some 9, .idxSl 1 (.tmp 5) (.tmp 7), none⟩,
             ⟨some 10, .load true 1 (.tmp 9), none⟩,
             ⟨some 4, .alloc [.v (.slice none 0 0)], none⟩,
             ⟨none, .store 1 (.tmp 4) (.tmp 10), none⟩] [0, 4, 5, 6, 7] []) <|
          .seq (.region [⟨some 11, .load true 1 (.tmp 4), none⟩,
             ⟨some 12, .call (.func F.impl_ValidCard) [(.tmp 11)] [], none⟩,
             ⟨some 13, .un .not (.tmp 12), none⟩,
             ⟨some 14, .mv (.tmp 13), none⟩,
             ⟨some 15, .load true 1 (.tmp 4), some (14, false)⟩,
             ⟨some 16, .call (.func F._impl_Card__columns) [(.tmp 15)] [], some (14, false)⟩,
             ⟨some 17, .mv (.tmp 0), some (14, false)⟩,
             ⟨some 18, .idxSl 1 (.tmp 17) (.const (.int .i64 (0))), some (14, false)⟩,
             ⟨some 19, .load true 1 (.tmp 18), some (14, false)⟩,
             ⟨some 20, .call (.func F._impl_Card__columns) [(.tmp 19)] [], some (14, false)⟩,
             ⟨some 21, .bin .neq (.tmp 16) (.tmp 20), some (14, false)⟩,
             ⟨some 22, .pick (.tmp 14) (.const (.bool true)) (.tmp 21), none⟩] [0, 5, 6, 7, 22] [11, 13, 14, 15, 12, 16, 17, 18, 19, 20, 21, 22]) <|
          .cond (.tmp 22)
            (.seq (.region [⟨some 2, .mv (.const (.bool false)), none⟩] [2] []) <|
            .ret)
            (.skip))) <|
       .region [⟨some 23, .bin .add (.tmp 7) (.const (.int .i64 (1))), none⟩,
         ⟨some 7, .mv (.tmp 23), none⟩] [0, 5, 6, 7] []))) <|
  .seq (.region [⟨some 24, .mv (.tmp 0), none⟩,
     ⟨some 25, .len (.tmp 24), none⟩,
     ⟨some 26, .bin .leq (.tmp 25) (.const (.int .i64 (40))), none⟩,
     ⟨some 2, .mv (.tmp 26), none⟩] [2] []) <|
  .ret
theorem Cd.impl_ValidDeck_rs : Tryd.f57.results.toList = [.tmp 2] := rfl
theorem Cd.impl_ValidDeck_nt : Tryd.f57.ntmps = 27 := rfl
theorem Cd.impl_ValidDeck_ok : CodeIsR Tryd.prog 57 Tryd.f57 Cd.impl_ValidDeck := ⟨Tryd.func57, by kernel_rfl, by decide +kernel⟩
/-- loop.example/g01012/impl.calcCode -/
def Cd.impl_calcCode : ACode :=
  .seq (.region [⟨some 4, .box (.tmp 1), none⟩,
     ⟨some 6, .mv (.const (.int .i64 (0))), none⟩] [0, 2, 4] []) <|
  .seq (.seq (.region [⟨some 7, .mv (.tmp 0), none⟩,
      ⟨some 8, .call (.func F.impl_isCalc) [(.tmp 7)] [], none⟩,
      ⟨some 9, .un .not (.tmp 8), none⟩,
      ⟨some 10, .mv (.tmp 9), none⟩,
      ⟨some 11, .mv (.tmp 2), some (10, false)⟩,
      ⟨some 12, .mkfn F.impl_calcCode_1 [(.tmp 4)], some (10, false)⟩,
      ⟨some 13, .call (.func F.slices_ContainsFunc___impl_Field_impl_Field_) [(.tmp 11), (.tmp 12)] [], some (10, false)⟩,
      ⟨some 14, .pick (.tmp 10) (.const (.bool true)) (.tmp 13), none⟩] [14] []) <|
   .cond (.tmp 14)
     (.seq (.region [⟨some 6, .mv (.const (.int .i64 (2))), none⟩] [6] []) <|
     .ret)
     (.skip)) <|
  .seq (.region [⟨some 6, .mv (.const (.int .i64 (0))), none⟩] [6] []) <|
  .ret
theorem Cd.impl_calcCode_rs : Tryd.f58.results.toList = [.tmp 6] := rfl
theorem Cd.impl_calcCode_nt : Tryd.f58.ntmps = 15 := rfl
theorem Cd.impl_calcCode_ok : CodeIsR Tryd.prog 58 Tryd.f58 Cd.impl_calcCode := ⟨Tryd.func58, by kernel_rfl, by decide +kernel⟩
/-- loop.example/g01012/impl.deckColumns -/
def Cd.impl_deckColumns : ACode :=
  .seq (.region [⟨some 2, .mv (.const (.int .i64 (0))), none⟩] [0] []) <|
  .seq (.seq (.region [⟨some 3, .mv (.tmp 0), none⟩,
      ⟨some 4, .len (.tmp 3), none⟩,
      ⟨some 5, .bin .eql (.tmp 4) (.const (.int .i64 (0))), none⟩] [0, 5] []) <|
   .cond (.tmp 5)
     (.seq (.region [⟨some 2, .mv (.const (.int .i64 (20))), none⟩] [2] []) <|
     .ret)
     (.skip)) <|
  .seq (.region [⟨some 6, .mv (.tmp 0), none⟩,
     ⟨some 7, .idxSl 1 (.tmp 6) (.const (.int .i64 (0))), none⟩,
     ⟨some 8, .load true 1 (.tmp 7), none⟩,
     ⟨some 9, .call (.func F._impl_Card__columns) [(.tmp 8)] [], none⟩,
     ⟨some 2, .mv (.tmp 9), none⟩] [2] []) <|
  .ret
theorem Cd.impl_deckColumns_rs : Tryd.f59.results.toList = [.tmp 2] := rfl
theorem Cd.impl_deckColumns_nt : Tryd.f59.ntmps = 10 := rfl
theorem Cd.impl_deckColumns_ok : CodeIsR Tryd.prog 59 Tryd.f59 Cd.impl_deckColumns := ⟨Tryd.func59, by kernel_rfl, by decide +kernel⟩
/-- loop.example/g01012/impl.calculated -/
def Cd.impl_calculated : ACode :=
  .seq (.region [⟨some 5, .box (.tmp 1), none⟩,
     ⟨some 6, .box (.tmp 2), none⟩,
     ⟨some 7, .box (.tmp 3), none⟩,
     ⟨some 8, .mv (.const (.int .i64 (0))), none⟩,
     ⟨some 9, .mv (.const (.int .i64 (0))), none⟩,
     ⟨some 10, .mv (.const (.int .i64 (0))), none⟩] [0, 5, 6, 7] []) <|
  .seq (.region [⟨some 16, .load true 1 (.tmp 5), none⟩,
     ⟨some 17, .load true 2 (.tmp 6), none⟩,
     ⟨some 18, .call (.func F.impl_numberIn) [(.tmp 16), (.tmp 17)] [], none⟩,
     ⟨some 15, .mv (.tmp 18), none⟩,
     ⟨some 19, .extract (.tmp 15) 0, none⟩,
     ⟨some 20, .extract (.tmp 15) 1, none⟩,
     ⟨some 11, .mv (.tmp 19), none⟩,
     ⟨some 12, .mv (.tmp 20), none⟩] [0, 5, 7, 11, 12] []) <|
  .seq (.region [⟨some 22, .load true 1 (.tmp 5), none⟩,
     ⟨some 23, .load true 2 (.tmp 7), none⟩,
     ⟨some 24, .call (.func F.impl_numberIn) [(.tmp 22), (.tmp 23)] [], none⟩,
     ⟨some 21, .mv (.tmp 24), none⟩,
     ⟨some 25, .extract (.tmp 21) 0, none⟩,
     ⟨some 26, .extract (.tmp 21) 1, none⟩,
     ⟨some 13, .mv (.tmp 25), none⟩,
     ⟨some 14, .mv (.tmp 26), none⟩] [0, 11, 12, 13, 14] []) <|
  .seq (.seq (.region [⟨some 27, .mv (.tmp 12), none⟩,
      ⟨some 28, .un .not (.tmp 27), none⟩,
      ⟨some 29, .mv (.tmp 28), none⟩,
      ⟨some 30, .mv (.tmp 14), some (29, false)⟩,
      ⟨some 31, .un .not (.tmp 30), some (29, false)⟩,
      ⟨some 32, .pick (.tmp 29) (.const (.bool true)) (.tmp 31), none⟩] [0, 11, 13, 32] []) <|
   .cond (.tmp 32)
     (.seq (.region [⟨some 8, .mv (.const (.int .i64 (0))), none⟩,
        ⟨some 9, .mv (.const (.int .i64 (0))), none⟩,
        ⟨some 10, .mv (.const (.int .i64 (8))), none⟩] [8, 9, 10] []) <|
     .ret)
     (.skip)) <|
  .seq (.region [⟨some 33, .mv (.tmp 0), none⟩,
     ⟨some 34, .mv (.tmp 11), none⟩,
     ⟨some 35, .mv (.tmp 13), none⟩,
     ⟨some 36, .call (.func F.impl_Calculate) [(.tmp 33), (.tmp 34), (.tmp 35)] [], none⟩,
     ⟨some 37, .extract (.tmp 36) 0, none⟩,
     ⟨some 38, .extract (.tmp 36) 1, none⟩,
     ⟨some 39, .extract (.tmp 36) 2, none⟩,
     ⟨some 8, .mv (.tmp 37), none⟩,
     ⟨some 9, .mv (.tmp 38), none⟩,
     ⟨some 10, .mv (.tmp 39), none⟩] [8, 9, 10] []) <|
  .ret
theorem Cd.impl_calculated_rs : Tryd.f60.results.toList = [.tmp 8, .tmp 9, .tmp 10] := rfl
theorem Cd.impl_calculated_nt : Tryd.f60.ntmps = 40 := rfl
theorem Cd.impl_calculated_ok : CodeIsR Tryd.prog 60 Tryd.f60 Cd.impl_calculated := ⟨Tryd.func60, by kernel_rfl, by decide +kernel⟩
/-- loop.example/g01012/laws.szInt64S -/
def Cd.laws_szInt64S : ACode :=
  .seq (.region [⟨some 4, .mv (.const (.int .i64 (0))), none⟩] [0, 1] []) <|
  .seq (.region [⟨some 5, .mv (.tmp 1), none⟩,
     ⟨some 6, .mv (.tmp 0), none⟩,
     ⟨some 7, .len (.tmp 6), none⟩,
     ⟨some 8, .bin .sub (.tmp 5) (.tmp 7), none⟩,
     ⟨some 1, .mv (.tmp 8), none⟩] [1] []) <|
  .seq (.seq (.region [⟨some 9, .mv (.tmp 1), none⟩,
      ⟨some 10, .bin .lss (.tmp 9) (.const (.int .i64 (0))), none⟩] [1, 10] []) <|
   .cond (.tmp 10)
     (.seq (.region [⟨some 4, .mv (.const (.int .i64 (-1))), none⟩] [4] []) <|
     .ret)
     (.skip)) <|
  .seq (.region [⟨some 11, .mv (.tmp 1), none⟩,
     ⟨some 4, .mv (.tmp 11), none⟩] [4] []) <|
  .ret
theorem Cd.laws_szInt64S_rs : Tryd.f61.results.toList = [.tmp 4] := rfl
theorem Cd.laws_szInt64S_nt : Tryd.f61.ntmps = 12 := rfl
theorem Cd.laws_szInt64S_ok : CodeIsR Tryd.prog 61 Tryd.f61 Cd.laws_szInt64S := ⟨Tryd.func61, by kernel_rfl, by decide +kernel⟩
/-- loop.example/g01012/spec.l02Ok -/
def Cd.spec_l02Ok : ACode :=
  .seq (.region [⟨some 2, .mv (.const (.bool false)), none⟩] [0] []) <|
  .seq (.seq (.region [⟨some 3, .mv (.const (.int .i64 (0))), none⟩] [0, 3] []) <|
   .block 0 (
     .loop (
       .seq (.seq (.region [⟨some 4, .mv (.tmp 3), none⟩,
           ⟨some 5, .mv (.tmp 0), none⟩,
           ⟨some 6, .nilc (.tmp 5), none⟩,
           ⟨some 7, .fieldAddr 0 (.tmp 6), none⟩,
           ⟨some 8, .load false 1 (.tmp 7), none⟩,
           ⟨some 9, .len (.tmp 8), none⟩,
           ⟨some 10, .bin .lss (.tmp 4) (.tmp 9), none⟩] [0, 3, 10] []) <|
        .cond (.tmp 10)
          (.skip)
          (.exit 0)) <|
       .seq (.block 1 (
          .seq (.region [⟨some 13, .mv (.tmp 0), none⟩,
             ⟨some 14, .nilc (.tmp 13), none⟩,
             ⟨some 15, .fieldAddr 0 (.tmp 14), none⟩,
             ⟨some 16, .load false 1 (.tmp 15), none⟩,
             ⟨some 17, .mv (.tmp 3), none⟩,
             ⟨some 18, .idxSl 1 (.tmp 16) (.tmp 17), none⟩,
             ⟨some 19, .load false 1 (.tmp 18), none⟩,
             ⟨some 20, .call (.func F.spec_l00In) [(.tmp 19), (.const (.int .i64 (0))), (.const (.int .i64 (4095)))] [], none⟩,
             ⟨some 21, .un .not (.tmp 20), none⟩] [0, 3, 21] []) <|
          .cond (.tmp 21)
            (.seq (.region [⟨some 2, .mv (.const (.bool false)), none⟩] [2] []) <|
            .ret)
            (.skip))) <|
       .region [⟨some 11, .mv (.tmp 3), none⟩,
         ⟨some 12, .bin .add (.tmp 11) (.const (.int .i64 (1))), none⟩,
         ⟨some 3, .mv (.tmp 12), none⟩] [0, 3] []))) <|
  .seq (.region [⟨some 22, .mv (.tmp 0), none⟩,
     ⟨some 23, .nilc (.tmp 22), none⟩,
     ⟨some 24, .fieldAddr 0 (.tmp 23), none⟩,
     ⟨some 25, .load false 1 (.tmp 24), none⟩,
     ⟨some 26, .len (.tmp 25), none⟩,
     ⟨some 27, .call (.func F.spec_l00In) [(.tmp 26), (.const (.int .i64 (1))), (.const (.int .i64 (20)))] [], none⟩,
     ⟨some 2, .mv (.tmp 27), none⟩] [2] []) <|
  .ret
theorem Cd.spec_l02Ok_rs : Tryd.f62.results.toList = [.tmp 2] := rfl
theorem Cd.spec_l02Ok_nt : Tryd.f62.ntmps = 28 := rfl
theorem Cd.spec_l02Ok_ok : CodeIsR Tryd.prog 62 Tryd.f62 Cd.spec_l02Ok := ⟨Tryd.func62, by kernel_rfl, by decide +kernel⟩
/-- loop.example/g01012/spec.l14Card DRAWS -/
def Cd.spec_l14Card : ACode :=
  .seq (.region [⟨some 7, .box (.tmp 2), none⟩,
     ⟨some 8, .box (.tmp 3), none⟩,
     ⟨some 9, .box (.tmp 4), none⟩,
     ⟨some 10, .alloc [.v (.slice none 0 0)], none⟩,
     ⟨some 11, .mv (.const (.int .i64 (0))), none⟩,
     ⟨some 12, .mv (.const (.int .i64 (0))), none⟩] [0, 1, 7, 8, 9, 10] []) <|
  .seq (.region [⟨some 25, .mv (.tmp 1), none⟩,
     ⟨some 26, .load true 2 (.tmp 7), none⟩,
     ⟨some 27, .load true 2 (.tmp 8), none⟩,
     ⟨some 28, .call (.func F.spec_l14Read) [(.tmp 25), (.tmp 26), (.tmp 27)] [], none⟩,
     ⟨some 24, .mv (.tmp 28), none⟩,
     ⟨some 29, .extract (.tmp 24) 0, none⟩,
     ⟨some 30, .extract (.tmp 24) 1, none⟩,
     ⟨some 31, .extract (.tmp 24) 2, none⟩,
     ⟨some 13, .mv (.tmp 29), none⟩,
     ⟨some 14, .mv (.tmp 30), none⟩,
     ⟨some 15, .mv (.tmp 31), none⟩] [0, 1, 9, 10, 13, 14, 15] []) <|
  .seq (.seq (.region [⟨some 32, .mv (.tmp 15), none⟩,
      ⟨some 33, .bin .neq (.tmp 32) (.const (.int .i64 (0))), none⟩] [0, 1, 9, 10, 13, 14, 15, 33] []) <|
   .cond (.tmp 33)
     (.seq (.region [⟨some 34, .build [.v (.slice none 0 0)] [], none⟩,
        ⟨some 35, .mv (.tmp 15), none⟩,
        ⟨none, .store 1 (.tmp 10) (.tmp 34), none⟩,
        ⟨some 11, .mv (.const (.int .i64 (0))), none⟩,
        ⟨some 12, .mv (.tmp 35), none⟩] [10, 11, 12] []) <|
     .ret)
     (.skip)) <|
  .seq (.region [⟨some 37, .mv (.tmp 0), none⟩,
     ⟨some 38, .mv (.tmp 13), none⟩,
     ⟨some 39, .mv (.tmp 14), none⟩,
     ⟨some 40, .call (.func F.spec_l14Do) [(.tmp 37), (.tmp 38), (.tmp 39)] [], none⟩,
     ⟨some 36, .mv (.tmp 40), none⟩,
     ⟨some 41, .extract (.tmp 36) 0, none⟩,
     ⟨some 42, .extract (.tmp 36) 1, none⟩,
     ⟨some 43, .extract (.tmp 36) 2, none⟩,
     ⟨some 16, .mv (.tmp 41), none⟩,
     ⟨some 17, .mv (.tmp 42), none⟩,
     ⟨some 18, .mv (.tmp 43), none⟩] [1, 9, 10, 16, 17, 18] []) <|
  .seq (.seq (.region [⟨some 44, .mv (.tmp 18), none⟩,
      ⟨some 45, .bin .neq (.tmp 44) (.const (.int .i64 (0))), none⟩] [1, 9, 10, 16, 17, 18, 45] []) <|
   .cond (.tmp 45)
     (.seq (.region [⟨some 46, .build [.v (.slice none 0 0)] [], none⟩,
        ⟨some 47, .mv (.tmp 18), none⟩,
        ⟨none, .store 1 (.tmp 10) (.tmp 46), none⟩,
        ⟨some 11, .mv (.const (.int .i64 (0))), none⟩,
        ⟨some 12, .mv (.tmp 47), none⟩] [10, 11, 12] []) <|
     .ret)
     (.skip)) <|
  .seq (.region [⟨some 49, .mv (.tmp 16), none⟩,
     ⟨some 50, .fieldAddr 1 (.tmp 9), none⟩,
     ⟨some 51, .load false 1 (.tmp 50), none⟩,
     ⟨some 52, .fieldAddr 0 (.tmp 9), none⟩,
     ⟨some 53, .load false 1 (.tmp 52), none⟩,
     ⟨some 54, .bin .sub (.tmp 51) (.tmp 53), none⟩,
     ⟨some 55, .call (.func F.spec_l03Put) [(.tmp 49), (.tmp 54)] [], none⟩,
     ⟨some 48, .mv (.tmp 55), none⟩,
     ⟨some 56, .extract (.tmp 48) 0, none⟩,
     ⟨some 57, .extract (.tmp 48) 1, none⟩,
     ⟨some 19, .mv (.tmp 56), none⟩,
     ⟨some 20, .mv (.tmp 57), none⟩] [1, 9, 10, 17, 19, 20] []) <|
  .seq (.seq (.region [⟨some 58, .mv (.tmp 20), none⟩,
      ⟨some 59, .un .not (.tmp 58), none⟩] [1, 9, 10, 17, 19, 59] []) <|
   .cond (.tmp 59)
     (.seq (.region [⟨some 60, .build [.v (.slice none 0 0)] [], none⟩,
        ⟨none, .store 1 (.tmp 10) (.tmp 60), none⟩,
        ⟨some 11, .mv (.const (.int .i64 (0))), none⟩,
        ⟨some 12, .mv (.const (.int .i64 (5))), none⟩] [10, 11, 12] []) <|
     .ret)
     (.skip)) <|
  .seq (.region [⟨some 61, .mv (.tmp 1), none⟩,
     ⟨some 62, .call (.func F.spec_l02Own) [(.tmp 61)] [], none⟩,
     ⟨some 21, .alloc [.v (.slice none 0 0)], none⟩,
     ⟨none, .store 1 (.tmp 21) (.tmp 62), none⟩] [9, 10, 17, 19, 21] []) <|
  .seq (.seq (.region [⟨some 22, .mv (.const (.int .i64 (0))), none⟩] [9, 10, 17, 19, 21, 22] []) <|
   .block 0 (
     .loop (
       .seq (.seq (.region [⟨some 63, .mv (.tmp 22), none⟩,
           ⟨some 64, .mv (.tmp 19), none⟩,
           ⟨some 65, .len (.tmp 64), none⟩,
           ⟨some 66, .bin .lss (.tmp 63) (.tmp 65), none⟩] [9, 10, 17, 19, 21, 22, 66] []) <|
        .cond (.tmp 66)
          (.skip)
          (.exit 0)) <|
       .seq (.block 1 (
          .seq (.region [⟨some 69, .fieldAddr 0 (.tmp 9), none⟩,
             ⟨some 70, .load false 1 (.tmp 69), none⟩,
             ⟨some 71, .mv (.tmp 22), none⟩,
             ⟨some 72, .bin .add (.tmp 70) (.tmp 71), none⟩,
             ⟨some 23, .mv (.tmp 72), none⟩] [9, 10, 17, 19, 21, 22, 23] []) <|
          .seq (.seq (.region [⟨some 73, .fieldAddr 0 (.tmp 21), none⟩,
              ⟨some 74, .load false 1 (.tmp 73), none⟩,
              ⟨some 75, .mv (.tmp 23), none⟩,
              ⟨some 76, .idxSl 1 (.tmp 74) (.tmp 75), none⟩,
              ⟨some 77, .load false 1 (.tmp 76), none⟩,
              ⟨some 78, .bin .neq (.tmp 77) (.const (.int .i64 (0))), none⟩] [9, 10, 17, 19, 21, 22, 23, 78] []) <|
           .cond (.tmp 78)
             (.seq (.region [⟨some 79, .build [.v (.slice none 0 0)] [], none⟩,
                ⟨none, .store 1 (.tmp 10) (.tmp 79), none⟩,
                ⟨some 11, .mv (.const (.int .i64 (0))), none⟩,
                ⟨some 12, .mv (.const (.int .i64 (9))), none⟩] [10, 11, 12] []) <|
             .ret)
             (.skip)) <|
          .region [⟨some 80, .fieldAddr 0 (.tmp 21), none⟩,
            ⟨some 81, .load false 1 (.tmp 80), none⟩,
            ⟨some 82, .mv (.tmp 23), none⟩,
            ⟨some 83, .mv (.tmp 19), none⟩,
            ⟨some 84, .mv (.tmp 22), none⟩,
            ⟨some 85, .idxSl 1 (.tmp 83) (.tmp 84), none⟩,
            ⟨some 86, .load false 1 (.tmp 85), none⟩,
            ⟨some 87, .idxSl 1 (.tmp 81) (.tmp 82), none⟩,
            ⟨none, .store 1 (.tmp 87) (.tmp 86), none⟩] [9, 10, 17, 19, 21, 22] [80, 82, 81, 83, 84, 85, 86])) <|
       .region [⟨some 67, .mv (.tmp 22), none⟩,
         ⟨some 68, .bin .add (.tmp 67) (.const (.int .i64 (1))), none⟩,
         ⟨some 22, .mv (.tmp 68), none⟩] [9, 10, 17, 19, 21, 22] []))) <|
  .seq (.region [⟨some 88, .load true 1 (.tmp 21), none⟩,
     ⟨some 89, .mv (.tmp 17), none⟩,
     ⟨none, .store 1 (.tmp 10) (.tmp 88), none⟩,
     ⟨some 11, .mv (.tmp 89), none⟩,
     ⟨some 12, .mv (.const (.int .i64 (0))), none⟩] [10, 11, 12] []) <|
  .ret
theorem Cd.spec_l14Card_rs : Tryd.f63.results.toList = [.cell 10 38, .tmp 11, .tmp 12] := rfl
theorem Cd.spec_l14Card_nt : Tryd.f63.ntmps = 90 := rfl
theorem Cd.spec_l14Card_ok : CodeIsR Tryd.prog 63 Tryd.f63 Cd.spec_l14Card := ⟨Tryd.func63, by kernel_rfl, by decide +kernel⟩
/-- loop.example/g01012/laws.toInt64S -/
def Cd.laws_toInt64S : ACode :=
  .seq (.region [⟨some 2, .mv (.const (.slice none 0 0)), none⟩] [0] []) <|
  .seq (.region [⟨some 5, .mv (.tmp 0), none⟩,
     ⟨some 6, .len (.tmp 5), none⟩,
     ⟨some 7, .mk 1 8 [.v (.int .i64 (0))] (.tmp 6), none⟩,
     ⟨some 3, .mv (.tmp 7), none⟩] [0, 3] []) <|
  .seq (.seq (.region [⟨some 4, .mv (.const (.int .i64 (0))), none⟩] [0, 3, 4] []) <|
   .block 0 (
     .loop (
       .seq (.seq (.region [⟨some 8, .mv (.tmp 4), none⟩,
           ⟨some 9, .mv (.tmp 0), none⟩,
           ⟨some 10, .len (.tmp 9), none⟩,
           ⟨some 11, .bin .lss (.tmp 8) (.tmp 10), none⟩] [0, 3, 4, 11] []) <|
        .cond (.tmp 11)
          (.skip)
          (.exit 0)) <|
       .seq (.block 1 (
          .region [⟨some 14, .mv (.tmp 3), none⟩,
            ⟨some 15, .mv (.tmp 4), none⟩,
            ⟨some 16, .mv (.tmp 0), none⟩,
            ⟨some 17, .mv (.tmp 4), none⟩,
            ⟨some 18, .idxSl 1 (.tmp 16) (.tmp 17), none⟩,
            ⟨some 19, .load false 1 (.tmp 18), none⟩,
            ⟨some 20, .idxSl 1 (.tmp 14) (.tmp 15), none⟩,
            ⟨none, .store 1 (.tmp 20) (.tmp 19), none⟩] [0, 3, 4] [])) <|
       .region [⟨some 12, .mv (.tmp 4), none⟩,
         ⟨some 13, .bin .add (.tmp 12) (.const (.int .i64 (1))), none⟩,
         ⟨some 4, .mv (.tmp 13), none⟩] [0, 3, 4] []))) <|
  .seq (.region [⟨some 21, .mv (.tmp 3), none⟩,
     ⟨some 2, .mv (.tmp 21), none⟩] [2] []) <|
  .ret
theorem Cd.laws_toInt64S_rs : Tryd.f64.results.toList = [.tmp 2] := rfl
theorem Cd.laws_toInt64S_nt : Tryd.f64.ntmps = 22 := rfl
theorem Cd.laws_toInt64S_ok : CodeIsR Tryd.prog 64 Tryd.f64 Cd.laws_toInt64S := ⟨Tryd.func64, by kernel_rfl, by decide +kernel⟩
/-- loop.example/g01012/impl.ValidCard -/
def Cd.impl_ValidCard : ACode :=
  .seq (.region [⟨some 1, .box (.tmp 0), none⟩,
     ⟨some 2, .mv (.const (.bool false)), none⟩] [1] []) <|
  .seq (.region [⟨some 3, .load true 1 (.tmp 1), none⟩,
     ⟨some 4, .call (.func F._impl_Card__columns) [(.tmp 3)] [], none⟩,
     ⟨some 5, .call (.func F.impl_inside) [(.tmp 4), (.const (.int .i64 (1))), (.const (.int .i64 (20)))] [], none⟩,
     ⟨some 6, .mv (.tmp 5), none⟩,
     ⟨some 7, .fieldAddr 0 (.tmp 1), some (6, true)⟩,
     ⟨some 8, .load false 1 (.tmp 7), some (6, true)⟩,
     ⟨some 9, .call (.func F.slices_ContainsFunc___int64_int64_) [(.tmp 8), (.func F.impl_ValidCard_1)] [], some (6, true)⟩,
     ⟨some 10, .un .not (.tmp 9), some (6, true)⟩,
     ⟨some 11, .pick (.tmp 6) (.tmp 10) (.const (.bool false)), none⟩,
     ⟨some 2, .mv (.tmp 11), none⟩] [2] []) <|
  .ret
theorem Cd.impl_ValidCard_rs : Tryd.f65.results.toList = [.tmp 2] := rfl
theorem Cd.impl_ValidCard_nt : Tryd.f65.ntmps = 12 := rfl
theorem Cd.impl_ValidCard_ok : CodeIsR Tryd.prog 65 Tryd.f65 Cd.impl_ValidCard := ⟨Tryd.func65, by kernel_rfl, by decide +kernel⟩
/-- (loop.example/g01012/impl.Card).columns -/
def Cd._impl_Card__columns : ACode :=
  .seq (.region [⟨some 1, .box (.tmp 0), none⟩,
     ⟨some 2, .mv (.const (.int .i64 (0))), none⟩] [1] []) <|
  .seq (.region [⟨some 3, .fieldAddr 0 (.tmp 1), none⟩,
     ⟨some 4, .load false 1 (.tmp 3), none⟩,
     ⟨some 5, .call (.func F.impl_size_int64_) [(.tmp 4)] [], none⟩,
     ⟨some 2, .mv (.tmp 5), none⟩] [2] []) <|
  .ret
theorem Cd._impl_Card__columns_rs : Tryd.f66.results.toList = [.tmp 2] := rfl
theorem Cd._impl_Card__columns_nt : Tryd.f66.ntmps = 6 := rfl
theorem Cd._impl_Card__columns_ok : CodeIsR Tryd.prog 66 Tryd.f66 Cd._impl_Card__columns := ⟨Tryd.func66, by kernel_rfl, by decide +kernel⟩
/-- loop.example/g01012/impl.calculatedCard DRAWS -/
def Cd.impl_calculatedCard : ACode :=
  .seq (.region [⟨some 6, .box (.tmp 1), none⟩,
     ⟨some 7, .box (.tmp 2), none⟩,
     ⟨some 8, .box (.tmp 3), none⟩,
     ⟨some 9, .box (.tmp 4), none⟩,
     ⟨some 10, .alloc [.v (.slice none 0 0)], none⟩,
     ⟨some 11, .mv (.const (.int .i64 (0))), none⟩] [0, 6, 7, 8, 9, 10] []) <|
  .seq (.region [⟨some 16, .mv (.tmp 0), none⟩,
     ⟨some 17, .load true 1 (.tmp 6), none⟩,
     ⟨some 18, .load true 2 (.tmp 7), none⟩,
     ⟨some 19, .load true 2 (.tmp 8), none⟩,
     ⟨some 20, .call (.func F.impl_calculated) [(.tmp 16), (.tmp 17), (.tmp 18), (.tmp 19)] [], none⟩,
     ⟨some 15, .mv (.tmp 20), none⟩,
     ⟨some 21, .extract (.tmp 15) 0, none⟩,
     ⟨some 22, .extract (.tmp 15) 1, none⟩,
     ⟨some 23, .extract (.tmp 15) 2, none⟩,
     ⟨some 12, .mv (.tmp 21), none⟩,
     ⟨some 13, .mv (.tmp 22), none⟩,
     ⟨some 14, .mv (.tmp 23), none⟩] [6, 9, 10, 12, 14] []) <|
  .seq (.block 0 (
     .seq (.region [⟨some 25, .mv (.tmp 14), none⟩,
        ⟨some 26, .bin .neq (.tmp 25) (.const (.int .i64 (0))), none⟩,
        ⟨some 24, .mv (.tmp 26), none⟩] [6, 9, 10, 12, 14, 24] []) <|
     .cond (.tmp 24)
       (.seq (.region [⟨some 27, .build [.v (.slice none 0 0)] [], none⟩,
          ⟨some 28, .mv (.tmp 14), none⟩,
          ⟨none, .store 1 (.tmp 10) (.tmp 27), none⟩,
          ⟨some 11, .mv (.tmp 28), none⟩] [10, 11] []) <|
       .ret)
       (.seq (.region [⟨some 30, .mv (.tmp 12), none⟩,
          ⟨some 31, .call (.func F.impl_absOf) [(.tmp 30)] [], none⟩,
          ⟨some 32, .call (.func F.impl_digitsOf) [(.tmp 31)] [], none⟩,
          ⟨some 33, .fieldAddr 1 (.tmp 9), none⟩,
          ⟨some 34, .load false 1 (.tmp 33), none⟩,
          ⟨some 35, .fieldAddr 0 (.tmp 9), none⟩,
          ⟨some 36, .load false 1 (.tmp 35), none⟩,
          ⟨some 37, .bin .sub (.tmp 34) (.tmp 36), none⟩,
          ⟨some 38, .bin .gtr (.tmp 32) (.tmp 37), none⟩,
          ⟨some 29, .mv (.tmp 38), none⟩] [6, 9, 10, 12, 29] [30, 32, 33, 31, 34, 35, 36, 37, 38, 29]) <|
       .cond (.tmp 29)
         (.seq (.region [⟨some 39, .build [.v (.slice none 0 0)] [], none⟩,
            ⟨none, .store 1 (.tmp 10) (.tmp 39), none⟩,
            ⟨some 11, .mv (.const (.int .i64 (5))), none⟩] [10, 11] []) <|
         .ret)
         (.seq (.region [⟨some 41, .fieldAddr 0 (.tmp 6), none⟩,
            ⟨some 42, .load false 1 (.tmp 41), none⟩,
            ⟨some 43, .fieldAddr 0 (.tmp 9), none⟩,
            ⟨some 44, .load false 1 (.tmp 43), none⟩,
            ⟨some 45, .fieldAddr 1 (.tmp 9), none⟩,
            ⟨some 46, .load false 1 (.tmp 45), none⟩,
            ⟨some 47, .slc 1 (.tmp 42) (some (.tmp 44)) (some (.tmp 46)), none⟩,
            ⟨some 48, .call (.func F.slices_ContainsFunc___int64_int64_) [(.tmp 47), (.func F.impl_calculatedCard_1)] [], none⟩,
            ⟨some 40, .mv (.tmp 48), none⟩] [6, 9, 10, 12, 40] []) <|
         .cond (.tmp 40)
           (.seq (.region [⟨some 49, .build [.v (.slice none 0 0)] [], none⟩,
              ⟨none, .store 1 (.tmp 10) (.tmp 49), none⟩,
              ⟨some 11, .mv (.const (.int .i64 (9))), none⟩] [10, 11] []) <|
           .ret)
           (.skip))))) <|
  .seq (.region [⟨some 50, .load true 1 (.tmp 6), none⟩,
     ⟨some 51, .load true 2 (.tmp 9), none⟩,
     ⟨some 52, .mv (.tmp 12), none⟩,
     ⟨some 53, .call (.func F.impl_punchNumber) [(.tmp 50), (.tmp 51), (.tmp 52)] [], none⟩,
     ⟨none, .store 1 (.tmp 10) (.tmp 53), none⟩,
     ⟨some 11, .mv (.const (.int .i64 (0))), none⟩] [10, 11] []) <|
  .ret
theorem Cd.impl_calculatedCard_rs : Tryd.f67.results.toList = [.cell 10 38, .tmp 11] := rfl
theorem Cd.impl_calculatedCard_nt : Tryd.f67.ntmps = 54 := rfl
theorem Cd.impl_calculatedCard_ok : CodeIsR Tryd.prog 67 Tryd.f67 Cd.impl_calculatedCard := ⟨Tryd.func67, by kernel_rfl, by decide +kernel⟩
/-- loop.example/g01012/laws.eqInt64S DRAWS -/
def Cd.laws_eqInt64S : ACode :=
  .seq (.region [⟨some 4, .mv (.const (.bool false)), none⟩] [0, 1] []) <|
  .seq (.seq (.region [⟨some 6, .mv (.tmp 0), none⟩,
      ⟨some 7, .len (.tmp 6), none⟩,
      ⟨some 8, .mv (.tmp 1), none⟩,
      ⟨some 9, .len (.tmp 8), none⟩,
      ⟨some 10, .bin .neq (.tmp 7) (.tmp 9), none⟩] [0, 1, 10] []) <|
   .cond (.tmp 10)
     (.seq (.region [⟨some 4, .mv (.const (.bool false)), none⟩] [4] []) <|
     .ret)
     (.skip)) <|
  .seq (.seq (.region [⟨some 5, .mv (.const (.int .i64 (0))), none⟩] [0, 1, 5] []) <|
   .block 0 (
     .loop (
       .seq (.seq (.region [⟨some 11, .mv (.tmp 5), none⟩,
           ⟨some 12, .mv (.tmp 0), none⟩,
           ⟨some 13, .len (.tmp 12), none⟩,
           ⟨some 14, .bin .lss (.tmp 11) (.tmp 13), none⟩] [0, 1, 5, 14] []) <|
        .cond (.tmp 14)
          (.skip)
          (.exit 0)) <|
       .seq (.block 1 (
          .seq (.region [⟨some 17, .mv (.tmp 0), none⟩,
             ⟨some 18, .mv (.tmp 5), none⟩,
             ⟨some 19, .idxSl 1 (.tmp 17) (.tmp 18), none⟩,
             ⟨some 20, .load false 1 (.tmp 19), none⟩,
             ⟨some 21, .mv (.tmp 1), none⟩,
             ⟨some 22, .mv (.tmp 5), none⟩,
             ⟨some 23, .idxSl 1 (.tmp 21) (.tmp 22), none⟩,
             ⟨some 24, .load false 1 (.tmp 23), none⟩,
             ⟨some 25, .bin .neq (.tmp 20) (.tmp 24), none⟩] [0, 1, 5, 25] [17, 18, 20, 21, 19, 22, 23, 24, 25]) <|
          .cond (.tmp 25)
            (.seq (.region [⟨some 4, .mv (.const (.bool false)), none⟩] [4] []) <|
            .ret)
            (.skip))) <|
       .region [⟨some 15, .mv (.tmp 5), none⟩,
         ⟨some 16, .bin .add (.tmp 15) (.const (.int .i64 (1))), none⟩,
         ⟨some 5, .mv (.tmp 16), none⟩] [0, 1, 5] []))) <|
  .seq (.region [⟨some 4, .mv (.const (.bool true)), none⟩] [4] []) <|
  .ret
theorem Cd.laws_eqInt64S_rs : Tryd.f68.results.toList = [.tmp 4] := rfl
theorem Cd.laws_eqInt64S_nt : Tryd.f68.ntmps = 26 := rfl
theorem Cd.laws_eqInt64S_ok : CodeIsR Tryd.prog 68 Tryd.f68 Cd.laws_eqInt64S := ⟨Tryd.func68, by kernel_rfl, by decide +kernel⟩
/-- loop.example/g01012/laws.markInt64S -/
def Cd.laws_markInt64S : ACode :=
  .seq (.region [⟨some 4, .mv (.const (.int .i64 (0))), none⟩] [0, 1] []) <|
  .seq (.seq (.region [⟨some 5, .mv (.const (.int .i64 (0))), none⟩] [0, 1, 5] []) <|
   .block 0 (
     .loop (
       .seq (.seq (.region [⟨some 6, .mv (.tmp 5), none⟩,
           ⟨some 7, .mv (.tmp 0), none⟩,
           ⟨some 8, .len (.tmp 7), none⟩,
           ⟨some 9, .bin .lss (.tmp 6) (.tmp 8), none⟩] [0, 1, 5, 9] []) <|
        .cond (.tmp 9)
          (.skip)
          (.exit 0)) <|
       .seq (.block 1 (
          .seq (.region [⟨some 12, .mv (.tmp 0), none⟩,
             ⟨some 13, .mv (.tmp 5), none⟩,
             ⟨some 14, .mv (.tmp 1), none⟩,
             ⟨some 15, .idxSl 1 (.tmp 12) (.tmp 13), none⟩,
             ⟨none, .store 1 (.tmp 15) (.tmp 14), none⟩] [0, 1, 5] []) <|
          .region [⟨some 16, .mv (.tmp 1), none⟩,
            ⟨some 17, .bin .add (.tmp 16) (.const (.int .i64 (1))), none⟩,
            ⟨some 1, .mv (.tmp 17), none⟩] [0, 1, 5] [])) <|
       .region [⟨some 10, .mv (.tmp 5), none⟩,
         ⟨some 11, .bin .add (.tmp 10) (.const (.int .i64 (1))), none⟩,
         ⟨some 5, .mv (.tmp 11), none⟩] [0, 1, 5] []))) <|
  .seq (.region [⟨some 18, .mv (.tmp 1), none⟩,
     ⟨some 4, .mv (.tmp 18), none⟩] [4] []) <|
  .ret
theorem Cd.laws_markInt64S_rs : Tryd.f69.results.toList = [.tmp 4] := rfl
theorem Cd.laws_markInt64S_nt : Tryd.f69.ntmps = 19 := rfl
theorem Cd.laws_markInt64S_ok : CodeIsR Tryd.prog 69 Tryd.f69 Cd.laws_markInt64S := ⟨Tryd.func69, by kernel_rfl, by decide +kernel⟩
/-- loop.example/g01012/laws.heldInt64S -/
def Cd.laws_heldInt64S : ACode :=
  .seq (.region [⟨some 4, .mv (.const (.int .i64 (0))), none⟩] [0, 1] []) <|
  .seq (.seq (.region [⟨some 5, .mv (.const (.int .i64 (0))), none⟩] [0, 1, 5] []) <|
   .block 0 (
     .loop (
       .seq (.seq (.region [⟨some 6, .mv (.tmp 5), none⟩,
           ⟨some 7, .mv (.tmp 0), none⟩,
           ⟨some 8, .len (.tmp 7), none⟩,
           ⟨some 9, .bin .lss (.tmp 6) (.tmp 8), none⟩] [0, 1, 5, 9] []) <|
        .cond (.tmp 9)
          (.skip)
          (.exit 0)) <|
       .seq (.block 1 (
          .seq (.seq (.region [⟨some 12, .mv (.tmp 0), none⟩,
              ⟨some 13, .mv (.tmp 5), none⟩,
              ⟨some 14, .idxSl 1 (.tmp 12) (.tmp 13), none⟩,
              ⟨some 15, .load false 1 (.tmp 14), none⟩,
              ⟨some 16, .mv (.tmp 1), none⟩,
              ⟨some 17, .bin .neq (.tmp 15) (.tmp 16), none⟩] [0, 1, 5, 17] []) <|
           .cond (.tmp 17)
             (.seq (.region [⟨some 4, .mv (.const (.int .i64 (-1))), none⟩] [4] []) <|
             .ret)
             (.skip)) <|
          .region [⟨some 18, .mv (.tmp 1), none⟩,
            ⟨some 19, .bin .add (.tmp 18) (.const (.int .i64 (1))), none⟩,
            ⟨some 1, .mv (.tmp 19), none⟩] [0, 1, 5] [])) <|
       .region [⟨some 10, .mv (.tmp 5), none⟩,
         ⟨some 11, .bin .add (.tmp 10) (.const (.int .i64 (1))), none⟩,
         ⟨some 5, .mv (.tmp 11), none⟩] [0, 1, 5] []))) <|
  .seq (.region [⟨some 20, .mv (.tmp 1), none⟩,
     ⟨some 4, .mv (.tmp 20), none⟩] [4] []) <|
  .ret
theorem Cd.laws_heldInt64S_rs : Tryd.f70.results.toList = [.tmp 4] := rfl
theorem Cd.laws_heldInt64S_nt : Tryd.f70.ntmps = 21 := rfl
theorem Cd.laws_heldInt64S_ok : CodeIsR Tryd.prog 70 Tryd.f70 Cd.laws_heldInt64S := ⟨Tryd.func70, by kernel_rfl, by decide +kernel⟩
/-- loop.example/g01012/spec.l18Ok -/
def Cd.spec_l18Ok : ACode :=
  .seq (.region [⟨some 1, .box (.tmp 0), none⟩,
     ⟨some 2, .mv (.const (.bool false)), none⟩] [1] []) <|
  .seq (.region [⟨some 3, .fieldAddr 0 (.tmp 1), none⟩,
     ⟨some 4, .load false 1 (.tmp 3), none⟩,
     ⟨some 5, .call (.func F.spec_l00In) [(.tmp 4), (.const (.int .i64 (0))), (.const (.int .i64 (1000000)))] [], none⟩,
     ⟨some 6, .mv (.tmp 5), none⟩,
     ⟨some 7, .fieldAddr 1 (.tmp 1), some (6, true)⟩,
     ⟨some 8, .load false 1 (.tmp 7), some (6, true)⟩,
     ⟨some 9, .call (.func F.spec_l00In) [(.tmp 8), (.const (.int .i64 (-1000000000000000))), (.const (.int .i64 (1000000000000000)))] [], some (6, true)⟩,
     ⟨some 10, .pick (.tmp 6) (.tmp 9) (.const (.bool false)), none⟩,
     ⟨some 11, .mv (.tmp 10), none⟩,
     ⟨some 12, .fieldAddr 2 (.tmp 1), some (11, true)⟩,
     ⟨some 13, .load false 1 (.tmp 12), some (11, true)⟩,
     ⟨some 14, .call (.func F.spec_l00In) [(.tmp 13), (.const (.int .i64 (0))), (.const (.int .i64 (1000000000)))] [], some (11, true)⟩,
     ⟨some 15, .pick (.tmp 11) (.tmp 14) (.const (.bool false)), none⟩,
     ⟨some 2, .mv (.tmp 15), none⟩] [2] []) <|
  .ret
theorem Cd.spec_l18Ok_rs : Tryd.f71.results.toList = [.tmp 2] := rfl
theorem Cd.spec_l18Ok_nt : Tryd.f71.ntmps = 16 := rfl
theorem Cd.spec_l18Ok_ok : CodeIsR Tryd.prog 71 Tryd.f71 Cd.spec_l18Ok := ⟨Tryd.func71, by kernel_rfl, by decide +kernel⟩
/-- loop.example/g01012/impl.isPlainControl -/
def Cd.impl_isPlainControl : ACode :=
  .seq (.region [⟨some 1, .box (.tmp 0), none⟩,
     ⟨some 2, .mv (.const (.bool false)), none⟩] [1] []) <|
  .seq (.region [⟨some 3, .fieldAddr 0 (.tmp 1), none⟩,
     ⟨some 4, .load false 1 (.tmp 3), none⟩,
     ⟨some 5, .call (.func F.impl_inside) [(.tmp 4), (.const (.int .i64 (0))), (.const (.int .i64 (1000000)))] [], none⟩,
     ⟨some 6, .mv (.tmp 5), none⟩,
     ⟨some 7, .fieldAddr 1 (.tmp 1), some (6, true)⟩,
     ⟨some 8, .load false 1 (.tmp 7), some (6, true)⟩,
     ⟨some 9, .call (.func F.impl_inside) [(.tmp 8), (.const (.int .i64 (-1000000000000000))), (.const (.int .i64 (1000000000000000)))] [], some (6, true)⟩,
     ⟨some 10, .pick (.tmp 6) (.tmp 9) (.const (.bool false)), none⟩,
     ⟨some 11, .mv (.tmp 10), none⟩,
     ⟨some 12, .fieldAddr 2 (.tmp 1), some (11, true)⟩,
     ⟨some 13, .load false 1 (.tmp 12), some (11, true)⟩,
     ⟨some 14, .call (.func F.impl_inside) [(.tmp 13), (.const (.int .i64 (0))), (.const (.int .i64 (1000000000)))] [], some (11, true)⟩,
     ⟨some 15, .pick (.tmp 11) (.tmp 14) (.const (.bool false)), none⟩,
     ⟨some 2, .mv (.tmp 15), none⟩] [2] []) <|
  .ret
theorem Cd.impl_isPlainControl_rs : Tryd.f73.results.toList = [.tmp 2] := rfl
theorem Cd.impl_isPlainControl_nt : Tryd.f73.ntmps = 16 := rfl
theorem Cd.impl_isPlainControl_ok : CodeIsR Tryd.prog 73 Tryd.f73 Cd.impl_isPlainControl := ⟨Tryd.func73, by kernel_rfl, by decide +kernel⟩
/-- loop.example/g01012/impl.Decimal -/
def Cd.impl_Decimal : ACode :=
  .seq (.region [⟨some 2, .mv (.const (.string ⟨#[]⟩)), none⟩] [0] []) <|
  .seq (.region [⟨some 3, .mv (.tmp 0), none⟩,
     ⟨some 4, .call (.func F.strconv_FormatInt) [(.tmp 3), (.const (.int .i64 (10)))] [], none⟩,
     ⟨some 2, .mv (.tmp 4), none⟩] [2] []) <|
  .ret
theorem Cd.impl_Decimal_rs : Tryd.f74.results.toList = [.tmp 2] := rfl
theorem Cd.impl_Decimal_nt : Tryd.f74.ntmps = 5 := rfl
theorem Cd.impl_Decimal_ok : CodeIsR Tryd.prog 74 Tryd.f74 Cd.impl_Decimal := ⟨Tryd.func74, by kernel_rfl, by decide +kernel⟩
/-- loop.example/g01012/spec.l19Form -/
def Cd.spec_l19Form : ACode :=
  .seq (.region [⟨some 1, .box (.tmp 0), none⟩,
     ⟨some 2, .mv (.const (.bool false)), none⟩] [1] []) <|
  .seq (.seq (.region [⟨some 3, .fieldAddr 0 (.tmp 1), none⟩,
      ⟨some 4, .load false 1 (.tmp 3), none⟩,
      ⟨some 5, .call (.func F.spec_l00In) [(.tmp 4), (.const (.int .i64 (1))), (.const (.int .i64 (3)))] [], none⟩,
      ⟨some 6, .un .not (.tmp 5), none⟩,
      ⟨some 7, .mv (.tmp 6), none⟩,
      ⟨some 8, .fieldAddr 1 (.tmp 1), some (7, false)⟩,
      ⟨some 9, .load false 1 (.tmp 8), some (7, false)⟩,
      ⟨some 10, .call (.func F.spec_l00In) [(.tmp 9), (.const (.int .i64 (0))), (.const (.int .i64 (11)))] [], some (7, false)⟩,
      ⟨some 11, .un .not (.tmp 10), some (7, false)⟩,
      ⟨some 12, .pick (.tmp 7) (.const (.bool true)) (.tmp 11), none⟩] [1, 12] []) <|
   .cond (.tmp 12)
     (.seq (.region [⟨some 2, .mv (.const (.bool false)), none⟩] [2] []) <|
     .ret)
     (.skip)) <|
  .seq (.seq (.region [⟨some 13, .fieldAddr 0 (.tmp 1), none⟩,
      ⟨some 14, .load false 1 (.tmp 13), none⟩,
      ⟨some 15, .bin .eql (.tmp 14) (.const (.int .i64 (3))), none⟩] [1, 15] []) <|
   .cond (.tmp 15)
     (.seq (.region [⟨some 16, .fieldAddr 2 (.tmp 1), none⟩,
        ⟨some 17, .load false 1 (.tmp 16), none⟩,
        ⟨some 18, .call (.func F.spec_l00In) [(.tmp 17), (.const (.int .i64 (0))), (.const (.int .i64 (3)))] [], none⟩,
        ⟨some 19, .mv (.tmp 18), none⟩,
        ⟨some 20, .fieldAddr 3 (.tmp 1), some (19, true)⟩,
        ⟨some 21, .load false 1 (.tmp 20), some (19, true)⟩,
        ⟨some 22, .call (.func F.spec_l00In) [(.tmp 21), (.const (.int .i64 (0))), (.const (.int .i64 (9)))] [], some (19, true)⟩,
        ⟨some 23, .pick (.tmp 19) (.tmp 22) (.const (.bool false)), none⟩,
        ⟨some 2, .mv (.tmp 23), none⟩] [2] []) <|
     .ret)
     (.skip)) <|
  .seq (.region [⟨some 24, .fieldAddr 2 (.tmp 1), none⟩,
     ⟨some 25, .load false 1 (.tmp 24), none⟩,
     ⟨some 26, .bin .eql (.tmp 25) (.const (.int .i64 (0))), none⟩,
     ⟨some 27, .mv (.tmp 26), none⟩,
     ⟨some 28, .fieldAddr 3 (.tmp 1), some (27, true)⟩,
     ⟨some 29, .load false 1 (.tmp 28), some (27, true)⟩,
     ⟨some 30, .bin .eql (.tmp 29) (.const (.int .i64 (0))), some (27, true)⟩,
     ⟨some 31, .pick (.tmp 27) (.tmp 30) (.const (.bool false)), none⟩,
     ⟨some 2, .mv (.tmp 31), none⟩] [2] []) <|
  .ret
theorem Cd.spec_l19Form_rs : Tryd.f75.results.toList = [.tmp 2] := rfl
theorem Cd.spec_l19Form_nt : Tryd.f75.ntmps = 32 := rfl
theorem Cd.spec_l19Form_ok : CodeIsR Tryd.prog 75 Tryd.f75 Cd.spec_l19Form := ⟨Tryd.func75, by kernel_rfl, by decide +kernel⟩
/-- loop.example/g01012/impl.isFault -/
def Cd.impl_isFault : ACode :=
  .seq (.region [⟨some 1, .box (.tmp 0), none⟩,
     ⟨some 2, .mv (.const (.bool false)), none⟩] [1] []) <|
  .seq (.seq (.region [⟨some 3, .fieldAddr 0 (.tmp 1), none⟩,
      ⟨some 4, .load false 1 (.tmp 3), none⟩,
      ⟨some 5, .bin .eql (.tmp 4) (.const (.int .i64 (3))), none⟩] [1, 5] []) <|
   .cond (.tmp 5)
     (.seq (.region [⟨some 6, .fieldAddr 2 (.tmp 1), none⟩,
        ⟨some 7, .load false 1 (.tmp 6), none⟩,
        ⟨some 8, .call (.func F.impl_inside) [(.tmp 7), (.const (.int .i64 (0))), (.const (.int .i64 (3)))] [], none⟩,
        ⟨some 9, .mv (.tmp 8), none⟩,
        ⟨some 10, .fieldAddr 3 (.tmp 1), some (9, true)⟩,
        ⟨some 11, .load false 1 (.tmp 10), some (9, true)⟩,
        ⟨some 12, .call (.func F.impl_inside) [(.tmp 11), (.const (.int .i64 (0))), (.const (.int .i64 (9)))] [], some (9, true)⟩,
        ⟨some 13, .pick (.tmp 9) (.tmp 12) (.const (.bool false)), none⟩,
        ⟨some 2, .mv (.tmp 13), none⟩] [2] []) <|
     .ret)
     (.skip)) <|
  .seq (.region [⟨some 14, .fieldAddr 0 (.tmp 1), none⟩,
     ⟨some 15, .load false 1 (.tmp 14), none⟩,
     ⟨some 16, .call (.func F.impl_inside) [(.tmp 15), (.const (.int .i64 (1))), (.const (.int .i64 (2)))] [], none⟩,
     ⟨some 17, .mv (.tmp 16), none⟩,
     ⟨some 18, .fieldAddr 2 (.tmp 1), some (17, true)⟩,
     ⟨some 19, .load false 1 (.tmp 18), some (17, true)⟩,
     ⟨some 20, .bin .eql (.tmp 19) (.const (.int .i64 (0))), some (17, true)⟩,
     ⟨some 21, .pick (.tmp 17) (.tmp 20) (.const (.bool false)), none⟩,
     ⟨some 22, .mv (.tmp 21), none⟩,
     ⟨some 23, .fieldAddr 3 (.tmp 1), some (22, true)⟩,
     ⟨some 24, .load false 1 (.tmp 23), some (22, true)⟩,
     ⟨some 25, .bin .eql (.tmp 24) (.const (.int .i64 (0))), some (22, true)⟩,
     ⟨some 26, .pick (.tmp 22) (.tmp 25) (.const (.bool false)), none⟩,
     ⟨some 2, .mv (.tmp 26), none⟩] [2] []) <|
  .ret
theorem Cd.impl_isFault_rs : Tryd.f77.results.toList = [.tmp 2] := rfl
theorem Cd.impl_isFault_nt : Tryd.f77.ntmps = 27 := rfl
theorem Cd.impl_isFault_ok : CodeIsR Tryd.prog 77 Tryd.f77 Cd.impl_isFault := ⟨Tryd.func77, by kernel_rfl, by decide +kernel⟩
/-- loop.example/g01012/impl.inside -/
def Cd.impl_inside : ACode :=
  .seq (.region [⟨some 6, .mv (.const (.bool false)), none⟩] [0, 1, 2] []) <|
  .seq (.region [⟨some 7, .mv (.tmp 0), none⟩,
     ⟨some 8, .mv (.tmp 1), none⟩,
     ⟨some 9, .bin .geq (.tmp 7) (.tmp 8), none⟩,
     ⟨some 10, .mv (.tmp 9), none⟩,
     ⟨some 11, .mv (.tmp 0), some (10, true)⟩,
     ⟨some 12, .mv (.tmp 2), some (10, true)⟩,
     ⟨some 13, .bin .leq (.tmp 11) (.tmp 12), some (10, true)⟩,
     ⟨some 14, .pick (.tmp 10) (.tmp 13) (.const (.bool false)), none⟩,
     ⟨some 6, .mv (.tmp 14), none⟩] [6] []) <|
  .ret
theorem Cd.impl_inside_rs : Tryd.f78.results.toList = [.tmp 6] := rfl
theorem Cd.impl_inside_nt : Tryd.f78.ntmps = 15 := rfl
theorem Cd.impl_inside_ok : CodeIsR Tryd.prog 78 Tryd.f78 Cd.impl_inside := ⟨Tryd.func78, by kernel_rfl, by decide +kernel⟩
/-- loop.example/g01012/spec.l00In -/
def Cd.spec_l00In : ACode :=
  .seq (.region [⟨some 6, .mv (.const (.bool false)), none⟩] [0, 1, 2] []) <|
  .seq (.region [⟨some 7, .mv (.tmp 0), none⟩,
     ⟨some 8, .mv (.tmp 1), none⟩,
     ⟨some 9, .bin .geq (.tmp 7) (.tmp 8), none⟩,
     ⟨some 10, .mv (.tmp 9), none⟩,
     ⟨some 11, .mv (.tmp 0), some (10, true)⟩,
     ⟨some 12, .mv (.tmp 2), some (10, true)⟩,
     ⟨some 13, .bin .leq (.tmp 11) (.tmp 12), some (10, true)⟩,
     ⟨some 14, .pick (.tmp 10) (.tmp 13) (.const (.bool false)), none⟩,
     ⟨some 6, .mv (.tmp 14), none⟩] [6] []) <|
  .ret
theorem Cd.spec_l00In_rs : Tryd.f96.results.toList = [.tmp 6] := rfl
theorem Cd.spec_l00In_nt : Tryd.f96.ntmps = 15 := rfl
theorem Cd.spec_l00In_ok : CodeIsR Tryd.prog 96 Tryd.f96 Cd.spec_l00In := ⟨Tryd.func96, by kernel_rfl, by decide +kernel⟩
/-- loop.example/g01012/spec.l02Field -/
def Cd.spec_l02Field : ACode :=
  .seq (.region [⟨some 2, .box (.tmp 0), none⟩,
     ⟨some 4, .mv (.const (.bool false)), none⟩] [1, 2] []) <|
  .seq (.region [⟨some 5, .fieldAddr 0 (.tmp 2), none⟩,
     ⟨some 6, .load false 1 (.tmp 5), none⟩,
     ⟨some 7, .bin .geq (.tmp 6) (.const (.int .i64 (0))), none⟩,
     ⟨some 8, .mv (.tmp 7), none⟩,
     ⟨some 9, .fieldAddr 0 (.tmp 2), some (8, true)⟩,
     ⟨some 10, .load false 1 (.tmp 9), some (8, true)⟩,
     ⟨some 11, .fieldAddr 1 (.tmp 2), some (8, true)⟩,
     ⟨some 12, .load false 1 (.tmp 11), some (8, true)⟩,
     ⟨some 13, .bin .lss (.tmp 10) (.tmp 12), some (8, true)⟩,
     ⟨some 14, .pick (.tmp 8) (.tmp 13) (.const (.bool false)), none⟩,
     ⟨some 15, .mv (.tmp 14), none⟩,
     ⟨some 16, .fieldAddr 1 (.tmp 2), some (15, true)⟩,
     ⟨some 17, .load false 1 (.tmp 16), some (15, true)⟩,
     ⟨some 18, .mv (.tmp 1), some (15, true)⟩,
     ⟨some 19, .bin .leq (.tmp 17) (.tmp 18), some (15, true)⟩,
     ⟨some 20, .pick (.tmp 15) (.tmp 19) (.const (.bool false)), none⟩,
     ⟨some 4, .mv (.tmp 20), none⟩] [4] []) <|
  .ret
theorem Cd.spec_l02Field_rs : Tryd.f97.results.toList = [.tmp 4] := rfl
theorem Cd.spec_l02Field_nt : Tryd.f97.ntmps = 21 := rfl
theorem Cd.spec_l02Field_ok : CodeIsR Tryd.prog 97 Tryd.f97 Cd.spec_l02Field := ⟨Tryd.func97, by kernel_rfl, by decide +kernel⟩
/-- loop.example/g01012/spec.l03Number -/
def Cd.spec_l03Number : ACode :=
  .seq (.region [⟨some 2, .mv (.const (.int .i64 (0))), none⟩,
     ⟨some 3, .mv (.const (.bool false)), none⟩] [0] []) <|
  .seq (.region [⟨some 4, .mv (.const (.int .i64 (0))), none⟩] [0, 4] []) <|
  .seq (.region [⟨some 5, .mv (.const (.bool false)), none⟩] [0, 4, 5] []) <|
  .seq (.region [⟨some 6, .mv (.const (.bool false)), none⟩] [0, 4, 5, 6] []) <|
  .seq (.seq (.region [⟨some 7, .mv (.const (.int .i64 (0))), none⟩] [0, 4, 5, 6, 7] []) <|
   .block 0 (
     .loop (
       .seq (.seq (.region [⟨some 10, .mv (.tmp 7), none⟩,
           ⟨some 11, .mv (.tmp 0), none⟩,
           ⟨some 12, .len (.tmp 11), none⟩,
           ⟨some 13, .bin .lss (.tmp 10) (.tmp 12), none⟩] [0, 4, 5, 6, 7, 13] []) <|
        .cond (.tmp 13)
          (.skip)
          (.exit 0)) <|
       .seq (.block 1 (
          .seq (.region [⟨some 16, .mv (.tmp 0), none⟩,
             ⟨some 17, .mv (.tmp 7), none⟩,
             ⟨some 18, .idxSl 1 (.tmp 16) (.tmp 17), none⟩,
             ⟨some 19, .load false 1 (.tmp 18), none⟩,
             ⟨some 8, .mv (.tmp 19), none⟩] [0, 4, 5, 6, 7, 8] []) <|
          .seq (.seq (.region [⟨some 20, .mv (.tmp 7), none⟩,
              ⟨some 21, .mv (.tmp 0), none⟩,
              ⟨some 22, .len (.tmp 21), none⟩,
              ⟨some 23, .bin .sub (.tmp 22) (.const (.int .i64 (1))), none⟩,
              ⟨some 24, .bin .eql (.tmp 20) (.tmp 23), none⟩,
              ⟨some 25, .mv (.tmp 24), none⟩,
              ⟨some 26, .mv (.tmp 8), some (25, true)⟩,
              ⟨some 27, .bin .and (.tmp 26) (.const (.int .i64 (2))), some (25, true)⟩,
              ⟨some 28, .bin .neq (.tmp 27) (.const (.int .i64 (0))), some (25, true)⟩,
              ⟨some 29, .pick (.tmp 25) (.tmp 28) (.const (.bool false)), none⟩] [0, 4, 5, 6, 7, 8, 29] []) <|
           .cond (.tmp 29)
             (.seq (.region [⟨some 6, .mv (.const (.bool true)), none⟩] [0, 4, 5, 6, 7, 8] []) <|
             .region [⟨some 30, .mv (.tmp 8), none⟩,
               ⟨some 31, .bin .sub (.tmp 30) (.const (.int .i64 (2))), none⟩,
               ⟨some 8, .mv (.tmp 31), none⟩] [0, 4, 5, 6, 7, 8] [])
             (.skip)) <|
          .seq (.seq (.region [⟨some 32, .mv (.tmp 8), none⟩,
              ⟨some 33, .bin .eql (.tmp 32) (.const (.int .i64 (0))), none⟩,
              ⟨some 34, .mv (.tmp 33), none⟩,
              ⟨some 35, .mv (.tmp 5), some (34, true)⟩,
              ⟨some 36, .un .not (.tmp 35), some (34, true)⟩,
              ⟨some 37, .pick (.tmp 34) (.tmp 36) (.const (.bool false)), none⟩,
              ⟨some 38, .mv (.tmp 37), none⟩,
              ⟨some 39, .mv (.tmp 6), some (38, true)⟩,
              ⟨some 40, .un .not (.tmp 39), some (38, true)⟩,
              ⟨some 41, .pick (.tmp 38) (.tmp 40) (.const (.bool false)), none⟩] [0, 4, 5, 6, 7, 8, 41] []) <|
           .cond (.tmp 41)
             (.exit 1)
             (.skip)) <|
          .seq (.region [⟨some 42, .mv (.tmp 8), none⟩,
             ⟨some 43, .call (.func F.spec_l03Digit) [(.tmp 42)] [], none⟩,
             ⟨some 9, .mv (.tmp 43), none⟩] [0, 4, 6, 7, 9] []) <|
          .seq (.seq (.region [⟨some 44, .mv (.tmp 9), none⟩,
              ⟨some 45, .bin .lss (.tmp 44) (.const (.int .i64 (0))), none⟩] [0, 4, 6, 7, 9, 45] []) <|
           .cond (.tmp 45)
             (.seq (.region [⟨some 2, .mv (.const (.int .i64 (0))), none⟩,
                ⟨some 3, .mv (.const (.bool false)), none⟩] [2, 3] []) <|
             .ret)
             (.skip)) <|
          .seq (.region [⟨some 5, .mv (.const (.bool true)), none⟩] [0, 4, 5, 6, 7, 9] []) <|
          .region [⟨some 46, .mv (.tmp 4), none⟩,
            ⟨some 47, .bin .mul (.const (.int .i64 (10))) (.tmp 46), none⟩,
            ⟨some 48, .mv (.tmp 9), none⟩,
            ⟨some 49, .bin .add (.tmp 47) (.tmp 48), none⟩,
            ⟨some 4, .mv (.tmp 49), none⟩] [0, 4, 5, 6, 7] [])) <|
       .region [⟨some 14, .mv (.tmp 7), none⟩,
         ⟨some 15, .bin .add (.tmp 14) (.const (.int .i64 (1))), none⟩,
         ⟨some 7, .mv (.tmp 15), none⟩] [0, 4, 5, 6, 7] []))) <|
  .seq (.seq (.region [⟨some 50, .mv (.tmp 6), none⟩] [4, 50] []) <|
   .cond (.tmp 50)
     (.seq (.region [⟨some 51, .mv (.tmp 4), none⟩,
        ⟨some 52, .un .neg (.tmp 51), none⟩,
        ⟨some 53, .mv (.tmp 4), none⟩,
        ⟨some 54, .bin .neq (.tmp 53) (.const (.int .i64 (0))), none⟩,
        ⟨some 2, .mv (.tmp 52), none⟩,
        ⟨some 3, .mv (.tmp 54), none⟩] [2, 3] []) <|
     .ret)
     (.skip)) <|
  .seq (.region [⟨some 55, .mv (.tmp 4), none⟩,
     ⟨some 2, .mv (.tmp 55), none⟩,
     ⟨some 3, .mv (.const (.bool true)), none⟩] [2, 3] []) <|
  .ret
theorem Cd.spec_l03Number_rs : Tryd.f98.results.toList = [.tmp 2, .tmp 3] := rfl
theorem Cd.spec_l03Number_nt : Tryd.f98.ntmps = 56 := rfl
theorem Cd.spec_l03Number_ok : CodeIsR Tryd.prog 98 Tryd.f98 Cd.spec_l03Number := ⟨Tryd.func98, by kernel_rfl, by decide +kernel⟩
/-- loop.example/g01012/spec.l02Part DRAWS -/
def Cd.spec_l02Part : ACode :=
  .seq (.region [⟨some 3, .box (.tmp 1), none⟩,
     ⟨some 4, .mv (.const (.slice none 0 0)), none⟩] [0, 3] []) <|
  .seq (.region [⟨some 5, .mv (.tmp 0), none⟩,
     ⟨some 6, .nilc (.tmp 5), none⟩,
     ⟨some 7, .fieldAddr 0 (.tmp 6), none⟩,
     ⟨some 8, .load false 1 (.tmp 7), none⟩,
     ⟨some 9, .fieldAddr 0 (.tmp 3), none⟩,
     ⟨some 10, .load false 1 (.tmp 9), none⟩,
     ⟨some 11, .fieldAddr 1 (.tmp 3), none⟩,
     ⟨some 12, .load false 1 (.tmp 11), none⟩,
     ⟨some 13, .slc 1 (.tmp 8) (some (.tmp 10)) (some (.tmp 12)), none⟩,
     ⟨some 4, .mv (.tmp 13), none⟩] [4] [5, 7, 8, 6, 9, 10, 11, 12, 13]) <|
  .ret
theorem Cd.spec_l02Part_rs : Tryd.f99.results.toList = [.tmp 4] := rfl
theorem Cd.spec_l02Part_nt : Tryd.f99.ntmps = 14 := rfl
theorem Cd.spec_l02Part_ok : CodeIsR Tryd.prog 99 Tryd.f99 Cd.spec_l02Part := ⟨Tryd.func99, by kernel_rfl, by decide +kernel⟩
/-- loop.example/g01012/spec.ProductBy -/
def Cd.spec_ProductBy : ACode :=
  .seq (.region [⟨some 4, .mv (.const (.int .i64 (0))), none⟩,
     ⟨some 5, .mv (.const (.int .i64 (0))), none⟩,
     ⟨some 6, .mv (.const (.int .i64 (0))), none⟩] [0, 1] []) <|
  .seq (.seq (.region [⟨some 9, .mv (.tmp 0), none⟩,
      ⟨some 10, .call (.func F.spec_l14Factor) [(.tmp 9)] [], none⟩,
      ⟨some 11, .un .not (.tmp 10), none⟩,
      ⟨some 12, .mv (.tmp 11), none⟩,
      ⟨some 13, .mv (.tmp 1), some (12, false)⟩,
      ⟨some 14, .call (.func F.spec_l14Factor) [(.tmp 13)] [], some (12, false)⟩,
      ⟨some 15, .un .not (.tmp 14), some (12, false)⟩,
      ⟨some 16, .pick (.tmp 12) (.const (.bool true)) (.tmp 15), none⟩] [0, 1, 16] []) <|
   .cond (.tmp 16)
     (.seq (.region [⟨some 4, .mv (.const (.int .i64 (0))), none⟩,
        ⟨some 5, .mv (.const (.int .i64 (0))), none⟩,
        ⟨some 6, .mv (.const (.int .i64 (2))), none⟩] [4, 5, 6] []) <|
     .ret)
     (.skip)) <|
  .seq (.region [⟨some 18, .mv (.tmp 0), none⟩,
     ⟨some 19, .call (.func F.spec_l14Size) [(.tmp 18)] [], none⟩,
     ⟨some 20, .mv (.tmp 1), none⟩,
     ⟨some 21, .call (.func F.spec_l14Size) [(.tmp 20)] [], none⟩,
     ⟨some 22, .call (.func F.spec_l14Times) [(.tmp 19), (.tmp 21)] [], none⟩,
     ⟨some 17, .mv (.tmp 22), none⟩,
     ⟨some 23, .extract (.tmp 17) 0, none⟩,
     ⟨some 24, .extract (.tmp 17) 1, none⟩,
     ⟨some 7, .mv (.tmp 23), none⟩,
     ⟨some 8, .mv (.tmp 24), none⟩] [0, 1, 7, 8] []) <|
  .seq (.seq (.region [⟨some 25, .mv (.tmp 0), none⟩,
      ⟨some 26, .bin .lss (.tmp 25) (.const (.int .i64 (0))), none⟩,
      ⟨some 27, .mv (.tmp 1), none⟩,
      ⟨some 28, .bin .lss (.tmp 27) (.const (.int .i64 (0))), none⟩,
      ⟨some 29, .binB .neq (.tmp 26) (.tmp 28), none⟩] [7, 8, 29] []) <|
   .cond (.tmp 29)
     (.region [⟨some 30, .mv (.tmp 7), none⟩,
       ⟨some 31, .un .neg (.tmp 30), none⟩,
       ⟨some 7, .mv (.tmp 31), none⟩] [7, 8] [])
     (.skip)) <|
  .seq (.region [⟨some 32, .mv (.tmp 7), none⟩,
     ⟨some 33, .mv (.tmp 8), none⟩,
     ⟨some 4, .mv (.tmp 32), none⟩,
     ⟨some 5, .mv (.tmp 33), none⟩,
     ⟨some 6, .mv (.const (.int .i64 (0))), none⟩] [4, 5, 6] []) <|
  .ret
theorem Cd.spec_ProductBy_rs : Tryd.f100.results.toList = [.tmp 4, .tmp 5, .tmp 6] := rfl
theorem Cd.spec_ProductBy_nt : Tryd.f100.ntmps = 34 := rfl
theorem Cd.spec_ProductBy_ok : CodeIsR Tryd.prog 100 Tryd.f100 Cd.spec_ProductBy := ⟨Tryd.func100, by kernel_rfl, by decide +kernel⟩
/-- loop.example/g01012/spec.QuotientBy -/
def Cd.spec_QuotientBy : ACode :=
  .seq (.region [⟨some 4, .mv (.const (.int .i64 (0))), none⟩,
     ⟨some 5, .mv (.const (.int .i64 (0))), none⟩,
     ⟨some 6, .mv (.const (.int .i64 (0))), none⟩,
     ⟨some 7, .mv (.const (.int .i64 (0))), none⟩] [0, 1] []) <|
  .seq (.seq (.region [⟨some 11, .mv (.tmp 0), none⟩,
      ⟨some 12, .call (.func F.spec_l14Number) [(.tmp 11)] [], none⟩,
      ⟨some 13, .un .not (.tmp 12), none⟩,
      ⟨some 14, .mv (.tmp 13), none⟩,
      ⟨some 15, .mv (.tmp 1), some (14, false)⟩,
      ⟨some 16, .call (.func F.spec_l14Factor) [(.tmp 15)] [], some (14, false)⟩,
      ⟨some 17, .un .not (.tmp 16), some (14, false)⟩,
      ⟨some 18, .pick (.tmp 14) (.const (.bool true)) (.tmp 17), none⟩] [0, 1, 18] []) <|
   .cond (.tmp 18)
     (.seq (.region [⟨some 4, .mv (.const (.int .i64 (0))), none⟩,
        ⟨some 5, .mv (.const (.int .i64 (0))), none⟩,
        ⟨some 6, .mv (.const (.int .i64 (0))), none⟩,
        ⟨some 7, .mv (.const (.int .i64 (2))), none⟩] [4, 5, 6, 7] []) <|
     .ret)
     (.skip)) <|
  .seq (.seq (.region [⟨some 19, .mv (.tmp 1), none⟩,
      ⟨some 20, .bin .eql (.tmp 19) (.const (.int .i64 (0))), none⟩] [0, 1, 20] []) <|
   .cond (.tmp 20)
     (.seq (.region [⟨some 4, .mv (.const (.int .i64 (0))), none⟩,
        ⟨some 5, .mv (.const (.int .i64 (0))), none⟩,
        ⟨some 6, .mv (.const (.int .i64 (0))), none⟩,
        ⟨some 7, .mv (.const (.int .i64 (6))), none⟩] [4, 5, 6, 7] []) <|
     .ret)
     (.skip)) <|
  .seq (.region [⟨some 22, .mv (.tmp 0), none⟩,
     ⟨some 23, .call (.func F.spec_l14Size) [(.tmp 22)] [], none⟩,
     ⟨some 24, .mv (.tmp 1), none⟩,
     ⟨some 25, .call (.func F.spec_l14Size) [(.tmp 24)] [], none⟩,
     ⟨some 26, .call (.func F.spec_l14Divide) [(.tmp 23), (.tmp 25)] [], none⟩,
     ⟨some 21, .mv (.tmp 26), none⟩,
     ⟨some 27, .extract (.tmp 21) 0, none⟩,
     ⟨some 28, .extract (.tmp 21) 1, none⟩,
     ⟨some 29, .extract (.tmp 21) 2, none⟩,
     ⟨some 8, .mv (.tmp 27), none⟩,
     ⟨some 9, .mv (.tmp 28), none⟩,
     ⟨some 10, .mv (.tmp 29), none⟩] [0, 1, 8, 9, 10] []) <|
  .seq (.seq (.region [⟨some 30, .mv (.tmp 0), none⟩,
      ⟨some 31, .bin .lss (.tmp 30) (.const (.int .i64 (0))), none⟩,
      ⟨some 32, .mv (.tmp 1), none⟩,
      ⟨some 33, .bin .lss (.tmp 32) (.const (.int .i64 (0))), none⟩,
      ⟨some 34, .binB .neq (.tmp 31) (.tmp 33), none⟩] [0, 8, 9, 10, 34] []) <|
   .cond (.tmp 34)
     (.region [⟨some 35, .mv (.tmp 8), none⟩,
       ⟨some 36, .un .neg (.tmp 35), none⟩,
       ⟨some 8, .mv (.tmp 36), none⟩] [0, 8, 9, 10] [])
     (.skip)) <|
  .seq (.seq (.region [⟨some 37, .mv (.tmp 0), none⟩,
      ⟨some 38, .bin .lss (.tmp 37) (.const (.int .i64 (0))), none⟩] [8, 9, 10, 38] []) <|
   .cond (.tmp 38)
     (.region [⟨some 39, .mv (.tmp 9), none⟩,
       ⟨some 40, .un .neg (.tmp 39), none⟩,
       ⟨some 9, .mv (.tmp 40), none⟩] [8, 9, 10] [])
     (.skip)) <|
  .seq (.region [⟨some 41, .mv (.tmp 8), none⟩,
     ⟨some 42, .mv (.tmp 9), none⟩,
     ⟨some 43, .mv (.tmp 10), none⟩,
     ⟨some 4, .mv (.tmp 41), none⟩,
     ⟨some 5, .mv (.tmp 42), none⟩,
     ⟨some 6, .mv (.tmp 43), none⟩,
     ⟨some 7, .mv (.const (.int .i64 (0))), none⟩] [4, 5, 6, 7] []) <|
  .ret
theorem Cd.spec_QuotientBy_rs : Tryd.f101.results.toList = [.tmp 4, .tmp 5, .tmp 6, .tmp 7] := rfl
theorem Cd.spec_QuotientBy_nt : Tryd.f101.ntmps = 44 := rfl
theorem Cd.spec_QuotientBy_ok : CodeIsR Tryd.prog 101 Tryd.f101 Cd.spec_QuotientBy := ⟨Tryd.func101, by kernel_rfl, by decide +kernel⟩
/-- loop.example/g01012/spec.l14Number -/
def Cd.spec_l14Number : ACode :=
  .seq (.region [⟨some 2, .mv (.const (.bool false)), none⟩] [0] []) <|
  .seq (.region [⟨some 3, .mv (.tmp 0), none⟩,
     ⟨some 4, .call (.func F.spec_l00In) [(.tmp 3), (.const (.int .i64 (-999999999999))), (.const (.int .i64 (999999999999)))] [], none⟩,
     ⟨some 2, .mv (.tmp 4), none⟩] [2] []) <|
  .ret
theorem Cd.spec_l14Number_rs : Tryd.f102.results.toList = [.tmp 2] := rfl
theorem Cd.spec_l14Number_nt : Tryd.f102.ntmps = 5 := rfl
theorem Cd.spec_l14Number_ok : CodeIsR Tryd.prog 102 Tryd.f102 Cd.spec_l14Number := ⟨Tryd.func102, by kernel_rfl, by decide +kernel⟩
/-- loop.example/g01012/impl.isCalc -/
def Cd.impl_isCalc : ACode :=
  .seq (.region [⟨some 2, .mv (.const (.bool false)), none⟩] [0] []) <|
  .seq (.region [⟨some 3, .mv (.tmp 0), none⟩,
     ⟨some 4, .call (.func F.impl_inside) [(.tmp 3), (.const (.int .i64 (1))), (.const (.int .i64 (4)))] [], none⟩,
     ⟨some 2, .mv (.tmp 4), none⟩] [2] []) <|
  .ret
theorem Cd.impl_isCalc_rs : Tryd.f103.results.toList = [.tmp 2] := rfl
theorem Cd.impl_isCalc_nt : Tryd.f103.ntmps = 5 := rfl
theorem Cd.impl_isCalc_ok : CodeIsR Tryd.prog 103 Tryd.f103 Cd.impl_isCalc := ⟨Tryd.func103, by kernel_rfl, by decide +kernel⟩
/-- slices.ContainsFunc[[]loop.example/g01012/impl.Field,loop.example/g01012/impl.Field] -/
def Cd.slices_ContainsFunc___impl_Field_impl_Field_ : ACode :=
  .seq (.region [⟨some 4, .mv (.const (.bool false)), none⟩] [0, 1] []) <|
  .seq (.region [⟨some 5, .mv (.tmp 0), none⟩,
     ⟨some 6, .mv (.tmp 1), none⟩,
     ⟨some 7, .call (.func F.slices_IndexFunc___impl_Field_impl_Field_) [(.tmp 5), (.tmp 6)] [], none⟩,
     ⟨some 8, .bin .geq (.tmp 7) (.const (.int .i64 (0))), none⟩,
     ⟨some 4, .mv (.tmp 8), none⟩] [4] []) <|
  .ret
theorem Cd.slices_ContainsFunc___impl_Field_impl_Field__rs : Tryd.f104.results.toList = [.tmp 4] := rfl
theorem Cd.slices_ContainsFunc___impl_Field_impl_Field__nt : Tryd.f104.ntmps = 9 := rfl
theorem Cd.slices_ContainsFunc___impl_Field_impl_Field__ok : CodeIsR Tryd.prog 104 Tryd.f104 Cd.slices_ContainsFunc___impl_Field_impl_Field_ := ⟨Tryd.func104, by kernel_rfl, by decide +kernel⟩
/-- loop.example/g01012/impl.calcCode$1 -/
def Cd.impl_calcCode_1 : ACode :=
  .seq (.region [⟨some 2, .box (.tmp 0), none⟩,
     ⟨some 3, .mv (.const (.bool false)), none⟩] [1, 2] []) <|
  .seq (.region [⟨some 4, .load true 2 (.tmp 2), none⟩,
     ⟨some 5, .load false 1 (.tmp 1), none⟩,
     ⟨some 6, .call (.func F.impl_isNumberField) [(.tmp 4), (.tmp 5)] [], none⟩,
     ⟨some 7, .un .not (.tmp 6), none⟩,
     ⟨some 3, .mv (.tmp 7), none⟩] [3] []) <|
  .ret
theorem Cd.impl_calcCode_1_rs : Tryd.f105.results.toList = [.tmp 3] := rfl
theorem Cd.impl_calcCode_1_nt : Tryd.f105.ntmps = 8 := rfl
theorem Cd.impl_calcCode_1_ok : CodeIsR Tryd.prog 105 Tryd.f105 Cd.impl_calcCode_1 := ⟨Tryd.func105, by kernel_rfl, by decide +kernel⟩
/-- loop.example/g01012/impl.isNumberField -/
def Cd.impl_isNumberField : ACode :=
  .seq (.region [⟨some 2, .box (.tmp 0), none⟩,
     ⟨some 4, .mv (.const (.bool false)), none⟩] [1, 2] []) <|
  .seq (.region [⟨some 5, .load true 2 (.tmp 2), none⟩,
     ⟨some 6, .mv (.tmp 1), none⟩,
     ⟨some 7, .call (.func F.impl_isField) [(.tmp 5), (.tmp 6)] [], none⟩,
     ⟨some 8, .mv (.tmp 7), none⟩,
     ⟨some 9, .fieldAddr 1 (.tmp 2), some (8, true)⟩,
     ⟨some 10, .load false 1 (.tmp 9), some (8, true)⟩,
     ⟨some 11, .fieldAddr 0 (.tmp 2), some (8, true)⟩,
     ⟨some 12, .load false 1 (.tmp 11), some (8, true)⟩,
     ⟨some 13, .bin .sub (.tmp 10) (.tmp 12), some (8, true)⟩,
     ⟨some 14, .bin .leq (.tmp 13) (.const (.int .i64 (12))), some (8, true)⟩,
     ⟨some 15, .pick (.tmp 8) (.tmp 14) (.const (.bool false)), none⟩,
     ⟨some 4, .mv (.tmp 15), none⟩] [4] []) <|
  .ret
theorem Cd.impl_isNumberField_rs : Tryd.f106.results.toList = [.tmp 4] := rfl
theorem Cd.impl_isNumberField_nt : Tryd.f106.ntmps = 16 := rfl
theorem Cd.impl_isNumberField_ok : CodeIsR Tryd.prog 106 Tryd.f106 Cd.impl_isNumberField := ⟨Tryd.func106, by kernel_rfl, by decide +kernel⟩
/-- loop.example/g01012/impl.numberIn DRAWS -/
def Cd.impl_numberIn : ACode :=
  .seq (.region [⟨some 2, .box (.tmp 0), none⟩,
     ⟨some 3, .box (.tmp 1), none⟩,
     ⟨some 4, .mv (.const (.int .i64 (0))), none⟩,
     ⟨some 5, .mv (.const (.bool false)), none⟩] [2, 3] []) <|
  .seq (.region [⟨some 14, .fieldAddr 0 (.tmp 2), none⟩,
     ⟨some 15, .load false 1 (.tmp 14), none⟩,
     ⟨some 16, .fieldAddr 0 (.tmp 3), none⟩,
     ⟨some 17, .load false 1 (.tmp 16), none⟩,
     ⟨some 18, .fieldAddr 1 (.tmp 3), none⟩,
     ⟨some 19, .load false 1 (.tmp 18), none⟩,
     ⟨some 20, .slc 1 (.tmp 15) (some (.tmp 17)) (some (.tmp 19)), none⟩,
     ⟨some 21, .call (.func F.impl_copyInts) [(.tmp 20)] [], none⟩,
     ⟨some 6, .mv (.tmp 21), none⟩] [6] []) <|
  .seq (.seq (.region [⟨some 22, .mv (.tmp 6), none⟩,
      ⟨some 23, .call (.func F.slices_ContainsFunc___int64_int64_) [(.tmp 22), (.func F.impl_numberIn_1)] [], none⟩,
      ⟨some 24, .un .not (.tmp 23), none⟩] [6, 24] []) <|
   .cond (.tmp 24)
     (.seq (.region [⟨some 4, .mv (.const (.int .i64 (0))), none⟩,
        ⟨some 5, .mv (.const (.bool true)), none⟩] [4, 5] []) <|
     .ret)
     (.skip)) <|
  .seq (.region [⟨some 25, .mv (.tmp 6), none⟩,
     ⟨some 26, .len (.tmp 25), none⟩,
     ⟨some 27, .bin .sub (.tmp 26) (.const (.int .i64 (1))), none⟩,
     ⟨some 7, .mv (.tmp 27), none⟩] [6, 7] []) <|
  .seq (.region [⟨some 28, .mv (.tmp 6), none⟩,
     ⟨some 29, .mv (.tmp 7), none⟩,
     ⟨some 30, .idxSl 1 (.tmp 28) (.tmp 29), none⟩,
     ⟨some 31, .load false 1 (.tmp 30), none⟩,
     ⟨some 32, .call (.func F.impl_bitOf) [(.const (.int .i64 (11)))] [], none⟩,
     ⟨some 33, .bin .and (.tmp 31) (.tmp 32), none⟩,
     ⟨some 34, .bin .neq (.tmp 33) (.const (.int .i64 (0))), none⟩,
     ⟨some 8, .mv (.tmp 34), none⟩] [6, 7, 8] [28, 29, 31, 32, 30, 33, 34]) <|
  .seq (.region [⟨some 35, .mv (.tmp 6), none⟩,
     ⟨some 36, .mv (.tmp 7), none⟩,
     ⟨some 37, .idxSl 1 (.tmp 35) (.tmp 36), none⟩,
     ⟨some 38, .load false 1 (.tmp 37), none⟩,
     ⟨some 39, .call (.func F.impl_bitOf) [(.const (.int .i64 (11)))] [], none⟩,
     ⟨some 40, .bin .andNot (.tmp 38) (.tmp 39), none⟩,
     ⟨some 41, .idxSl 1 (.tmp 35) (.tmp 36), none⟩,
     ⟨none, .store 1 (.tmp 41) (.tmp 40), none⟩] [6, 7, 8] [35, 36, 38, 39, 37, 40]) <|
  .seq (.region [⟨some 9, .mv (.const (.int .i64 (0))), none⟩,
     ⟨some 10, .mv (.const (.bool false)), none⟩] [6, 7, 8, 9, 10] []) <|
  .seq (.seq (.region [⟨some 42, .mv (.tmp 6), none⟩,
      ⟨some 43, .len (.tmp 42), none⟩,
      ⟨some 44, .mv (.const (.int .i64 (0))), none⟩] [6, 7, 8, 9, 10, 42, 43, 44] []) <|
   .block 0 (
     .loop (
       .seq (.region [⟨some 45, .bin .lss (.tmp 44) (.tmp 43), none⟩] [6, 7, 8, 9, 10, 42, 43, 44, 45] []) <|
       .seq (.cond (.tmp 45)
          (.skip)
          (.exit 0)) <|
       .seq (.block 1 (
          .seq (.region [⟨some 46, .idxSl 1 (.tmp 42) (.tmp 44), none⟩,
             ⟨some 47, .load false 1 (.tmp 46), none⟩,
             ⟨some 12, .mv (.tmp 47), none⟩] [6, 7, 8, 9, 10, 12, 42, 43, 44] []) <|
          .seq (.region [⟨some 48, .mv (.tmp 12), none⟩,
             ⟨some 49, .call (.func F.impl_digitOf) [(.tmp 48)] [], none⟩,
             ⟨some 13, .mv (.tmp 49), none⟩] [6, 7, 8, 9, 10, 12, 13, 42, 43, 44] []) <|
          .seq (.block 2 (
             .seq (.region [⟨some 51, .mv (.tmp 12), none⟩,
                ⟨some 52, .bin .eql (.tmp 51) (.const (.int .i64 (0))), none⟩,
                ⟨some 53, .mv (.tmp 52), none⟩,
                ⟨some 54, .mv (.tmp 10), some (53, true)⟩,
                ⟨some 55, .un .not (.tmp 54), some (53, true)⟩,
                ⟨some 56, .pick (.tmp 53) (.tmp 55) (.const (.bool false)), none⟩,
                ⟨some 50, .mv (.tmp 56), none⟩] [6, 7, 8, 9, 10, 13, 42, 43, 44, 50] []) <|
             .cond (.tmp 50)
               (.exit 1)
               (.seq (.region [⟨some 58, .mv (.tmp 13), none⟩,
                  ⟨some 59, .bin .lss (.tmp 58) (.const (.int .i64 (0))), none⟩,
                  ⟨some 57, .mv (.tmp 59), none⟩] [6, 7, 8, 9, 13, 42, 43, 44, 57] []) <|
               .cond (.tmp 57)
                 (.seq (.region [⟨some 4, .mv (.const (.int .i64 (0))), none⟩,
                    ⟨some 5, .mv (.const (.bool false)), none⟩] [4, 5] []) <|
                 .ret)
                 (.skip)))) <|
          .seq (.region [⟨some 10, .mv (.const (.bool true)), none⟩] [6, 7, 8, 9, 10, 13, 42, 43, 44] []) <|
          .region [⟨some 60, .mv (.tmp 9), none⟩,
            ⟨some 61, .bin .mul (.const (.int .i64 (10))) (.tmp 60), none⟩,
            ⟨some 62, .mv (.tmp 13), none⟩,
            ⟨some 63, .bin .add (.tmp 61) (.tmp 62), none⟩,
            ⟨some 9, .mv (.tmp 63), none⟩] [6, 7, 8, 9, 10, 42, 43, 44] [])) <|
       .region [⟨some 64, .bin .add (.tmp 44) (.const (.int .i64 (1))), none⟩,
         ⟨some 44, .mv (.tmp 64), none⟩] [6, 7, 8, 9, 10, 42, 43, 44] []))) <|
  .seq (.seq (.region [⟨some 65, .mv (.tmp 10), none⟩,
      ⟨some 66, .un .not (.tmp 65), none⟩,
      ⟨some 67, .mv (.tmp 66), none⟩,
      ⟨some 68, .mv (.tmp 6), some (67, false)⟩,
      ⟨some 69, .mv (.tmp 7), some (67, false)⟩,
      ⟨some 70, .idxSl 1 (.tmp 68) (.tmp 69), some (67, false)⟩,
      ⟨some 71, .load false 1 (.tmp 70), some (67, false)⟩,
      ⟨some 72, .bin .eql (.tmp 71) (.const (.int .i64 (0))), some (67, false)⟩,
      ⟨some 73, .pick (.tmp 67) (.const (.bool true)) (.tmp 72), none⟩,
      ⟨some 74, .mv (.tmp 73), none⟩,
      ⟨some 75, .mv (.tmp 8), some (74, false)⟩,
      ⟨some 76, .mv (.tmp 75), some (74, false)⟩,
      ⟨some 77, .mv (.tmp 9), some (76, true)⟩,
      ⟨some 78, .bin .eql (.tmp 77) (.const (.int .i64 (0))), some (76, true)⟩,
      ⟨some 79, .pick (.tmp 76) (.tmp 78) (.const (.bool false)), some (74, false)⟩,
      ⟨some 80, .pick (.tmp 74) (.const (.bool true)) (.tmp 79), none⟩] [8, 9, 80] []) <|
   .cond (.tmp 80)
     (.seq (.region [⟨some 4, .mv (.const (.int .i64 (0))), none⟩,
        ⟨some 5, .mv (.const (.bool false)), none⟩] [4, 5] []) <|
     .ret)
     (.skip)) <|
  .seq (.seq (.region [⟨some 81, .mv (.tmp 8), none⟩] [9, 81] []) <|
   .cond (.tmp 81)
     (.region [⟨some 82, .mv (.tmp 9), none⟩,
       ⟨some 83, .un .neg (.tmp 82), none⟩,
       ⟨some 9, .mv (.tmp 83), none⟩] [9] [])
     (.skip)) <|
  .seq (.region [⟨some 84, .mv (.tmp 9), none⟩,
     ⟨some 4, .mv (.tmp 84), none⟩,
     ⟨some 5, .mv (.const (.bool true)), none⟩] [4, 5] []) <|
  .ret
theorem Cd.impl_numberIn_rs : Tryd.f107.results.toList = [.tmp 4, .tmp 5] := rfl
theorem Cd.impl_numberIn_nt : Tryd.f107.ntmps = 85 := rfl
theorem Cd.impl_numberIn_ok : CodeIsR Tryd.prog 107 Tryd.f107 Cd.impl_numberIn := ⟨Tryd.func107, by kernel_rfl, by decide +kernel⟩
/-- loop.example/g01012/impl.Calculate -/
def Cd.impl_Calculate : ACode :=
  .seq (.region [⟨some 6, .mv (.const (.int .i64 (0))), none⟩,
     ⟨some 7, .mv (.const (.int .i64 (0))), none⟩,
     ⟨some 8, .mv (.const (.int .i64 (0))), none⟩] [0, 1, 2] []) <|
  .seq (.region [⟨some 9, .mv (.const (.int .i64 (0))), none⟩,
     ⟨some 10, .mv (.const (.int .i64 (2))), none⟩,
     ⟨some 11, .mv (.const (.int .i64 (0))), none⟩] [0, 1, 2, 10, 11] []) <|
  .seq (.seq (.region [⟨some 12, .mv (.tmp 0), none⟩] [0, 1, 2, 10, 11, 12] []) <|
   .block 0 (
     .seq (.seq (.region [⟨some 14, .bin .eql (.tmp 12) (.const (.int .i64 (1))), none⟩,
         ⟨some 13, .mv (.tmp 14), none⟩] [0, 1, 2, 10, 11, 12, 13] []) <|
      .cond (.tmp 13)
        (.skip)
        (.region [⟨some 15, .bin .eql (.tmp 12) (.const (.int .i64 (2))), none⟩,
          ⟨some 13, .mv (.tmp 15), none⟩] [0, 1, 2, 10, 11, 12, 13] [])) <|
     .cond (.tmp 13)
       (.seq (.seq (.region [⟨some 16, .mv (.tmp 1), none⟩,
           ⟨some 17, .call (.func F.impl_isNumber) [(.tmp 16)] [], none⟩,
           ⟨some 18, .un .not (.tmp 17), none⟩,
           ⟨some 19, .mv (.tmp 18), none⟩,
           ⟨some 20, .mv (.tmp 2), some (19, false)⟩,
           ⟨some 21, .call (.func F.impl_isNumber) [(.tmp 20)] [], some (19, false)⟩,
           ⟨some 22, .un .not (.tmp 21), some (19, false)⟩,
           ⟨some 23, .pick (.tmp 19) (.const (.bool true)) (.tmp 22), none⟩] [0, 1, 2, 10, 11, 23] []) <|
        .cond (.tmp 23)
          (.seq (.region [⟨some 6, .mv (.const (.int .i64 (0))), none⟩,
             ⟨some 7, .mv (.const (.int .i64 (0))), none⟩,
             ⟨some 8, .mv (.const (.int .i64 (2))), none⟩] [6, 7, 8] []) <|
          .ret)
          (.skip)) <|
       .seq (.region [⟨some 24, .mv (.tmp 1), none⟩,
          ⟨some 25, .mv (.tmp 2), none⟩,
          ⟨some 26, .bin .add (.tmp 24) (.tmp 25), none⟩,
          ⟨some 9, .mv (.tmp 26), none⟩] [0, 1, 2, 9, 10, 11] []) <|
       .seq (.region [⟨some 27, .mv (.tmp 0), none⟩,
          ⟨some 28, .bin .eql (.tmp 27) (.const (.int .i64 (2))), none⟩] [1, 2, 9, 10, 11, 28] []) <|
       .cond (.tmp 28)
         (.region [⟨some 29, .mv (.tmp 1), none⟩,
           ⟨some 30, .mv (.tmp 2), none⟩,
           ⟨some 31, .bin .sub (.tmp 29) (.tmp 30), none⟩,
           ⟨some 9, .mv (.tmp 31), none⟩] [9, 10, 11] [])
         (.skip))
       (.seq (.region [⟨some 33, .bin .eql (.tmp 12) (.const (.int .i64 (3))), none⟩,
          ⟨some 32, .mv (.tmp 33), none⟩] [1, 2, 12, 32] []) <|
       .cond (.tmp 32)
         (.region [⟨some 35, .mv (.tmp 1), none⟩,
           ⟨some 36, .mv (.tmp 2), none⟩,
           ⟨some 37, .call (.func F.impl_ProductBy) [(.tmp 35), (.tmp 36)] [], none⟩,
           ⟨some 34, .mv (.tmp 37), none⟩,
           ⟨some 38, .extract (.tmp 34) 0, none⟩,
           ⟨some 39, .extract (.tmp 34) 1, none⟩,
           ⟨some 40, .extract (.tmp 34) 2, none⟩,
           ⟨some 9, .mv (.tmp 38), none⟩,
           ⟨some 10, .mv (.tmp 39), none⟩,
           ⟨some 11, .mv (.tmp 40), none⟩] [9, 10, 11] [])
         (.seq (.region [⟨some 42, .bin .eql (.tmp 12) (.const (.int .i64 (4))), none⟩,
            ⟨some 41, .mv (.tmp 42), none⟩] [1, 2, 41] []) <|
         .cond (.tmp 41)
           (.region [⟨some 44, .mv (.tmp 1), none⟩,
             ⟨some 45, .mv (.tmp 2), none⟩,
             ⟨some 46, .call (.func F.impl_QuotientBy) [(.tmp 44), (.tmp 45)] [], none⟩,
             ⟨some 43, .mv (.tmp 46), none⟩,
             ⟨some 47, .extract (.tmp 43) 0, none⟩,
             ⟨some 48, .extract (.tmp 43) 1, none⟩,
             ⟨some 49, .extract (.tmp 43) 2, none⟩,
             ⟨some 50, .extract (.tmp 43) 3, none⟩,
             ⟨some 9, .mv (.tmp 47), none⟩,
             ⟨some 10, .mv (.tmp 49), none⟩,
             ⟨some 11, .mv (.tmp 50), none⟩] [9, 10, 11] [])
           (.seq (.region [⟨some 6, .mv (.const (.int .i64 (0))), none⟩,
              ⟨some 7, .mv (.const (.int .i64 (0))), none⟩,
              ⟨some 8, .mv (.const (.int .i64 (2))), none⟩] [6, 7, 8] []) <|
           .ret))))) <|
  .seq (.block 1 (
     .seq (.region [⟨some 52, .mv (.tmp 11), none⟩,
        ⟨some 53, .bin .neq (.tmp 52) (.const (.int .i64 (0))), none⟩,
        ⟨some 51, .mv (.tmp 53), none⟩] [9, 10, 11, 51] []) <|
     .cond (.tmp 51)
       (.seq (.region [⟨some 54, .mv (.tmp 11), none⟩,
          ⟨some 6, .mv (.const (.int .i64 (0))), none⟩,
          ⟨some 7, .mv (.const (.int .i64 (0))), none⟩,
          ⟨some 8, .mv (.tmp 54), none⟩] [6, 7, 8] []) <|
       .ret)
       (.seq (.region [⟨some 56, .mv (.tmp 9), none⟩,
          ⟨some 57, .call (.func F.impl_isNumber) [(.tmp 56)] [], none⟩,
          ⟨some 58, .un .not (.tmp 57), none⟩,
          ⟨some 55, .mv (.tmp 58), none⟩] [9, 10, 55] []) <|
       .cond (.tmp 55)
         (.seq (.region [⟨some 6, .mv (.const (.int .i64 (0))), none⟩,
            ⟨some 7, .mv (.const (.int .i64 (0))), none⟩,
            ⟨some 8, .mv (.const (.int .i64 (5))), none⟩] [6, 7, 8] []) <|
         .ret)
         (.skip)))) <|
  .seq (.region [⟨some 59, .mv (.tmp 9), none⟩,
     ⟨some 60, .mv (.tmp 10), none⟩,
     ⟨some 6, .mv (.tmp 59), none⟩,
     ⟨some 7, .mv (.tmp 60), none⟩,
     ⟨some 8, .mv (.const (.int .i64 (0))), none⟩] [6, 7, 8] []) <|
  .ret
theorem Cd.impl_Calculate_rs : Tryd.f108.results.toList = [.tmp 6, .tmp 7, .tmp 8] := rfl
theorem Cd.impl_Calculate_nt : Tryd.f108.ntmps = 61 := rfl
theorem Cd.impl_Calculate_ok : CodeIsR Tryd.prog 108 Tryd.f108 Cd.impl_Calculate := ⟨Tryd.func108, by kernel_rfl, by decide +kernel⟩
/-- loop.example/g01012/spec.l03Put -/
def Cd.spec_l03Put : ACode :=
  .seq (.region [⟨some 4, .mv (.const (.slice none 0 0)), none⟩,
     ⟨some 5, .mv (.const (.bool false)), none⟩] [0, 1] []) <|
  .seq (.region [⟨some 9, .mv (.tmp 1), none⟩,
     ⟨some 10, .mk 1 8 [.v (.int .i64 (0))] (.tmp 9), none⟩,
     ⟨some 6, .mv (.tmp 10), none⟩] [0, 1, 6] []) <|
  .seq (.region [⟨some 11, .mv (.tmp 0), none⟩,
     ⟨some 7, .mv (.tmp 11), none⟩] [0, 1, 6, 7] []) <|
  .seq (.seq (.region [⟨some 12, .mv (.tmp 0), none⟩,
      ⟨some 13, .bin .lss (.tmp 12) (.const (.int .i64 (0))), none⟩] [0, 1, 6, 7, 13] []) <|
   .cond (.tmp 13)
     (.region [⟨some 14, .mv (.tmp 0), none⟩,
       ⟨some 15, .un .neg (.tmp 14), none⟩,
       ⟨some 7, .mv (.tmp 15), none⟩] [0, 1, 6, 7] [])
     (.skip)) <|
  .seq (.seq (.region [⟨some 16, .mv (.tmp 1), none⟩,
      ⟨some 17, .bin .sub (.tmp 16) (.const (.int .i64 (1))), none⟩,
      ⟨some 8, .mv (.tmp 17), none⟩] [0, 1, 6, 7, 8] []) <|
   .block 0 (
     .loop (
       .seq (.seq (.region [⟨some 18, .mv (.tmp 8), none⟩,
           ⟨some 19, .bin .geq (.tmp 18) (.const (.int .i64 (0))), none⟩] [0, 1, 6, 7, 8, 19] []) <|
        .cond (.tmp 19)
          (.skip)
          (.exit 0)) <|
       .seq (.block 1 (
          .seq (.region [⟨some 22, .mv (.tmp 6), none⟩,
             ⟨some 23, .mv (.tmp 8), none⟩,
             ⟨some 24, .mv (.tmp 7), none⟩,
             ⟨some 25, .bin .rem (.tmp 24) (.const (.int .i64 (10))), none⟩,
             ⟨some 26, .call (.func F.spec_l02Bit) [(.tmp 25)] [], none⟩,
             ⟨some 27, .idxSl 1 (.tmp 22) (.tmp 23), none⟩,
             ⟨none, .store 1 (.tmp 27) (.tmp 26), none⟩] [0, 1, 6, 7, 8] []) <|
          .region [⟨some 28, .mv (.tmp 7), none⟩,
            ⟨some 29, .bin .quo (.tmp 28) (.const (.int .i64 (10))), none⟩,
            ⟨some 7, .mv (.tmp 29), none⟩] [0, 1, 6, 7, 8] [])) <|
       .region [⟨some 20, .mv (.tmp 8), none⟩,
         ⟨some 21, .bin .sub (.tmp 20) (.const (.int .i64 (1))), none⟩,
         ⟨some 8, .mv (.tmp 21), none⟩] [0, 1, 6, 7, 8] []))) <|
  .seq (.seq (.region [⟨some 30, .mv (.tmp 0), none⟩,
      ⟨some 31, .bin .lss (.tmp 30) (.const (.int .i64 (0))), none⟩] [1, 6, 7, 31] []) <|
   .cond (.tmp 31)
     (.region [⟨some 32, .mv (.tmp 6), none⟩,
       ⟨some 33, .mv (.tmp 1), none⟩,
       ⟨some 34, .bin .sub (.tmp 33) (.const (.int .i64 (1))), none⟩,
       ⟨some 35, .idxSl 1 (.tmp 32) (.tmp 34), none⟩,
       ⟨some 36, .load false 1 (.tmp 35), none⟩,
       ⟨some 37, .bin .or (.tmp 36) (.const (.int .i64 (2))), none⟩,
       ⟨some 38, .idxSl 1 (.tmp 32) (.tmp 34), none⟩,
       ⟨none, .store 1 (.tmp 38) (.tmp 37), none⟩] [6, 7] [])
     (.skip)) <|
  .seq (.region [⟨some 39, .mv (.tmp 6), none⟩,
     ⟨some 40, .mv (.tmp 7), none⟩,
     ⟨some 41, .bin .eql (.tmp 40) (.const (.int .i64 (0))), none⟩,
     ⟨some 4, .mv (.tmp 39), none⟩,
     ⟨some 5, .mv (.tmp 41), none⟩] [4, 5] []) <|
  .ret
theorem Cd.spec_l03Put_rs : Tryd.f109.results.toList = [.tmp 4, .tmp 5] := rfl
theorem Cd.spec_l03Put_nt : Tryd.f109.ntmps = 42 := rfl
theorem Cd.spec_l03Put_ok : CodeIsR Tryd.prog 109 Tryd.f109 Cd.spec_l03Put := ⟨Tryd.func109, by kernel_rfl, by decide +kernel⟩
/-- loop.example/g01012/spec.l02Own -/
def Cd.spec_l02Own : ACode :=
  .seq (.region [⟨some 2, .alloc [.v (.slice none 0 0)], none⟩] [0, 2] []) <|
  .seq (.region [⟨some 3, .mv (.tmp 0), none⟩,
     ⟨some 4, .nilc (.tmp 3), none⟩,
     ⟨some 5, .fieldAddr 0 (.tmp 4), none⟩,
     ⟨some 6, .load false 1 (.tmp 5), none⟩,
     ⟨some 7, .call (.func F.spec_l00Own) [(.tmp 6)] [], none⟩,
     ⟨some 8, .build [.v (.slice none 0 0)] [(0, 1, (.tmp 7))], none⟩,
     ⟨none, .store 1 (.tmp 2) (.tmp 8), none⟩] [2] []) <|
  .ret
theorem Cd.spec_l02Own_rs : Tryd.f110.results.toList = [.cell 2 38] := rfl
theorem Cd.spec_l02Own_nt : Tryd.f110.ntmps = 9 := rfl
theorem Cd.spec_l02Own_ok : CodeIsR Tryd.prog 110 Tryd.f110 Cd.spec_l02Own := ⟨Tryd.func110, by kernel_rfl, by decide +kernel⟩
/-- slices.ContainsFunc[[]int64,int64] -/
def Cd.slices_ContainsFunc___int64_int64_ : ACode :=
  .seq (.region [⟨some 4, .mv (.const (.bool false)), none⟩] [0, 1] []) <|
  .seq (.region [⟨some 5, .mv (.tmp 0), none⟩,
     ⟨some 6, .mv (.tmp 1), none⟩,
     ⟨some 7, .call (.func F.slices_IndexFunc___int64_int64_) [(.tmp 5), (.tmp 6)] [], none⟩,
     ⟨some 8, .bin .geq (.tmp 7) (.const (.int .i64 (0))), none⟩,
     ⟨some 4, .mv (.tmp 8), none⟩] [4] []) <|
  .ret
theorem Cd.slices_ContainsFunc___int64_int64__rs : Tryd.f111.results.toList = [.tmp 4] := rfl
theorem Cd.slices_ContainsFunc___int64_int64__nt : Tryd.f111.ntmps = 9 := rfl
theorem Cd.slices_ContainsFunc___int64_int64__ok : CodeIsR Tryd.prog 111 Tryd.f111 Cd.slices_ContainsFunc___int64_int64_ := ⟨Tryd.func111, by kernel_rfl, by decide +kernel⟩
/-- loop.example/g01012/impl.ValidCard$1 -/
def Cd.impl_ValidCard_1 : ACode :=
  .seq (.region [⟨some 2, .mv (.const (.bool false)), none⟩] [0] []) <|
  .seq (.region [⟨some 3, .mv (.tmp 0), none⟩,
     ⟨some 4, .call (.func F.impl_inside) [(.tmp 3), (.const (.int .i64 (0))), (.const (.int .i64 (4095)))] [], none⟩,
     ⟨some 5, .un .not (.tmp 4), none⟩,
     ⟨some 2, .mv (.tmp 5), none⟩] [2] []) <|
  .ret
theorem Cd.impl_ValidCard_1_rs : Tryd.f112.results.toList = [.tmp 2] := rfl
theorem Cd.impl_ValidCard_1_nt : Tryd.f112.ntmps = 6 := rfl
theorem Cd.impl_ValidCard_1_ok : CodeIsR Tryd.prog 112 Tryd.f112 Cd.impl_ValidCard_1 := ⟨Tryd.func112, by kernel_rfl, by decide +kernel⟩
/-- loop.example/g01012/impl.size[int64] -/
def Cd.impl_size_int64_ : ACode :=
  .seq (.region [⟨some 2, .mv (.const (.int .i64 (0))), none⟩] [0] []) <|
  .seq (.region [⟨some 3, .mv (.tmp 0), none⟩,
     ⟨some 4, .len (.tmp 3), none⟩,
     ⟨some 2, .mv (.tmp 4), none⟩] [2] []) <|
  .ret
theorem Cd.impl_size_int64__rs : Tryd.f113.results.toList = [.tmp 2] := rfl
theorem Cd.impl_size_int64__nt : Tryd.f113.ntmps = 5 := rfl
theorem Cd.impl_size_int64__ok : CodeIsR Tryd.prog 113 Tryd.f113 Cd.impl_size_int64_ := ⟨Tryd.func113, by kernel_rfl, by decide +kernel⟩
/-- loop.example/g01012/impl.digitsOf -/
def Cd.impl_digitsOf : ACode :=
  .seq (.region [⟨some 2, .mv (.const (.int .i64 (0))), none⟩] [0] []) <|
  .seq (.region [⟨some 3, .mv (.tmp 0), none⟩,
     ⟨some 4, .call (.func F.impl_Decimal) [(.tmp 3)] [], none⟩,
     ⟨some 5, .lenS (.tmp 4), none⟩,
     ⟨some 2, .mv (.tmp 5), none⟩] [2] []) <|
  .ret
theorem Cd.impl_digitsOf_rs : Tryd.f114.results.toList = [.tmp 2] := rfl
theorem Cd.impl_digitsOf_nt : Tryd.f114.ntmps = 6 := rfl
theorem Cd.impl_digitsOf_ok : CodeIsR Tryd.prog 114 Tryd.f114 Cd.impl_digitsOf := ⟨Tryd.func114, by kernel_rfl, by decide +kernel⟩
/-- loop.example/g01012/impl.absOf -/
def Cd.impl_absOf : ACode :=
  .seq (.region [⟨some 2, .mv (.const (.int .i64 (0))), none⟩] [0] []) <|
  .seq (.region [⟨some 3, .mv (.tmp 0), none⟩,
     ⟨some 4, .mv (.tmp 0), none⟩,
     ⟨some 5, .un .neg (.tmp 4), none⟩,
     ⟨some 6, .mm true (.tmp 3) (.tmp 5), none⟩,
     ⟨some 2, .mv (.tmp 6), none⟩] [2] []) <|
  .ret
theorem Cd.impl_absOf_rs : Tryd.f115.results.toList = [.tmp 2] := rfl
theorem Cd.impl_absOf_nt : Tryd.f115.ntmps = 7 := rfl
theorem Cd.impl_absOf_ok : CodeIsR Tryd.prog 115 Tryd.f115 Cd.impl_absOf := ⟨Tryd.func115, by kernel_rfl, by decide +kernel⟩
/-- loop.example/g01012/impl.calculatedCard$1 -/
def Cd.impl_calculatedCard_1 : ACode :=
  .seq (.region [⟨some 2, .mv (.const (.bool false)), none⟩] [0] []) <|
  .seq (.region [⟨some 3, .mv (.tmp 0), none⟩,
     ⟨some 4, .bin .neq (.tmp 3) (.const (.int .i64 (0))), none⟩,
     ⟨some 2, .mv (.tmp 4), none⟩] [2] []) <|
  .ret
theorem Cd.impl_calculatedCard_1_rs : Tryd.f116.results.toList = [.tmp 2] := rfl
theorem Cd.impl_calculatedCard_1_nt : Tryd.f116.ntmps = 5 := rfl
theorem Cd.impl_calculatedCard_1_ok : CodeIsR Tryd.prog 116 Tryd.f116 Cd.impl_calculatedCard_1 := ⟨Tryd.func116, by kernel_rfl, by decide +kernel⟩
/-- loop.example/g01012/impl.punchNumber DRAWS -/
def Cd.impl_punchNumber : ACode :=
  .seq (.region [⟨some 3, .box (.tmp 0), none⟩,
     ⟨some 4, .box (.tmp 1), none⟩,
     ⟨some 6, .alloc [.v (.slice none 0 0)], none⟩] [2, 3, 4, 6] []) <|
  .seq (.region [⟨some 10, .load true 1 (.tmp 3), none⟩,
     ⟨some 11, .call (.func F.impl_newCard) [(.tmp 10)] [], none⟩,
     ⟨some 12, .mv (.tmp 2), none⟩,
     ⟨some 13, .call (.func F.impl_absOf) [(.tmp 12)] [], none⟩,
     ⟨some 7, .alloc [.v (.slice none 0 0)], none⟩,
     ⟨none, .store 1 (.tmp 7) (.tmp 11), none⟩,
     ⟨some 8, .mv (.tmp 13), none⟩] [2, 4, 6, 7, 8] []) <|
  .seq (.seq (.region [⟨some 14, .fieldAddr 1 (.tmp 4), none⟩,
      ⟨some 15, .load false 1 (.tmp 14), none⟩,
      ⟨some 16, .bin .sub (.tmp 15) (.const (.int .i64 (1))), none⟩,
      ⟨some 9, .mv (.tmp 16), none⟩] [2, 4, 6, 7, 8, 9] []) <|
   .block 0 (
     .loop (
       .seq (.seq (.region [⟨some 17, .mv (.tmp 9), none⟩,
           ⟨some 18, .fieldAddr 0 (.tmp 4), none⟩,
           ⟨some 19, .load false 1 (.tmp 18), none⟩,
           ⟨some 20, .bin .geq (.tmp 17) (.tmp 19), none⟩] [2, 4, 6, 7, 8, 9, 20] []) <|
        .cond (.tmp 20)
          (.skip)
          (.exit 0)) <|
       .seq (.block 1 (
          .seq (.region [⟨some 23, .fieldAddr 0 (.tmp 7), none⟩,
             ⟨some 24, .load false 1 (.tmp 23), none⟩,
             ⟨some 25, .mv (.tmp 9), none⟩,
             ⟨some 26, .mv (.tmp 8), none⟩,
             ⟨some 27, .bin .rem (.tmp 26) (.const (.int .i64 (10))), none⟩,
             ⟨some 28, .call (.func F.impl_bitOf) [(.tmp 27)] [], none⟩,
             ⟨some 29, .idxSl 1 (.tmp 24) (.tmp 25), none⟩,
             ⟨none, .store 1 (.tmp 29) (.tmp 28), none⟩] [2, 4, 6, 7, 8, 9] [23, 25, 24, 26, 27, 28]) <|
          .region [⟨some 30, .mv (.tmp 8), none⟩,
            ⟨some 31, .bin .quo (.tmp 30) (.const (.int .i64 (10))), none⟩,
            ⟨some 8, .mv (.tmp 31), none⟩] [2, 4, 6, 7, 8, 9] [])) <|
       .region [⟨some 21, .mv (.tmp 9), none⟩,
         ⟨some 22, .bin .sub (.tmp 21) (.const (.int .i64 (1))), none⟩,
         ⟨some 9, .mv (.tmp 22), none⟩] [2, 4, 6, 7, 8, 9] []))) <|
  .seq (.seq (.region [⟨some 32, .mv (.tmp 2), none⟩,
      ⟨some 33, .bin .lss (.tmp 32) (.const (.int .i64 (0))), none⟩] [4, 6, 7, 33] []) <|
   .cond (.tmp 33)
     (.region [⟨some 34, .fieldAddr 0 (.tmp 7), none⟩,
       ⟨some 35, .load false 1 (.tmp 34), none⟩,
       ⟨some 36, .fieldAddr 1 (.tmp 4), none⟩,
       ⟨some 37, .load false 1 (.tmp 36), none⟩,
       ⟨some 38, .bin .sub (.tmp 37) (.const (.int .i64 (1))), none⟩,
       ⟨some 39, .idxSl 1 (.tmp 35) (.tmp 38), none⟩,
       ⟨some 40, .load false 1 (.tmp 39), none⟩,
       ⟨some 41, .call (.func F.impl_bitOf) [(.const (.int .i64 (11)))] [], none⟩,
       ⟨some 42, .bin .or (.tmp 40) (.tmp 41), none⟩,
       ⟨some 43, .idxSl 1 (.tmp 35) (.tmp 38), none⟩,
       ⟨none, .store 1 (.tmp 43) (.tmp 42), none⟩] [6, 7] [34, 36, 35, 37, 38, 39, 40, 41, 42])
     (.skip)) <|
  .seq (.region [⟨some 44, .load true 1 (.tmp 7), none⟩,
     ⟨none, .store 1 (.tmp 6) (.tmp 44), none⟩] [6] []) <|
  .ret
theorem Cd.impl_punchNumber_rs : Tryd.f117.results.toList = [.cell 6 38] := rfl
theorem Cd.impl_punchNumber_nt : Tryd.f117.ntmps = 45 := rfl
theorem Cd.impl_punchNumber_ok : CodeIsR Tryd.prog 117 Tryd.f117 Cd.impl_punchNumber := ⟨Tryd.func117, by kernel_rfl, by decide +kernel⟩
/-- strconv.FormatInt -/
def Cd.strconv_FormatInt : ACode :=
  .seq (.region [⟨some 4, .mv (.const (.string ⟨#[]⟩)), none⟩] [0, 1] []) <|
  .seq (.region [⟨some 5, .mv (.tmp 0), none⟩,
     ⟨some 6, .mv (.tmp 1), none⟩,
     ⟨some 7, .call (.func F.internal_strconv_FormatInt) [(.tmp 5), (.tmp 6)] [], none⟩,
     ⟨some 4, .mv (.tmp 7), none⟩] [4] []) <|
  .ret
theorem Cd.strconv_FormatInt_rs : Tryd.f118.results.toList = [.tmp 4] := rfl
theorem Cd.strconv_FormatInt_nt : Tryd.f118.ntmps = 8 := rfl
theorem Cd.strconv_FormatInt_ok : CodeIsR Tryd.prog 118 Tryd.f118 Cd.strconv_FormatInt := ⟨Tryd.func118, by kernel_rfl, by decide +kernel⟩
/-- loop.example/g01012/impl.isField -/
def Cd.impl_isField : ACode :=
  .seq (.region [⟨some 2, .box (.tmp 0), none⟩,
     ⟨some 4, .mv (.const (.bool false)), none⟩] [1, 2] []) <|
  .seq (.region [⟨some 5, .fieldAddr 0 (.tmp 2), none⟩,
     ⟨some 6, .load false 1 (.tmp 5), none⟩,
     ⟨some 7, .bin .leq (.const (.int .i64 (0))) (.tmp 6), none⟩,
     ⟨some 8, .mv (.tmp 7), none⟩,
     ⟨some 9, .fieldAddr 0 (.tmp 2), some (8, true)⟩,
     ⟨some 10, .load false 1 (.tmp 9), some (8, true)⟩,
     ⟨some 11, .fieldAddr 1 (.tmp 2), some (8, true)⟩,
     ⟨some 12, .load false 1 (.tmp 11), some (8, true)⟩,
     ⟨some 13, .bin .lss (.tmp 10) (.tmp 12), some (8, true)⟩,
     ⟨some 14, .pick (.tmp 8) (.tmp 13) (.const (.bool false)), none⟩,
     ⟨some 15, .mv (.tmp 14), none⟩,
     ⟨some 16, .fieldAddr 1 (.tmp 2), some (15, true)⟩,
     ⟨some 17, .load false 1 (.tmp 16), some (15, true)⟩,
     ⟨some 18, .mv (.tmp 1), some (15, true)⟩,
     ⟨some 19, .bin .leq (.tmp 17) (.tmp 18), some (15, true)⟩,
     ⟨some 20, .pick (.tmp 15) (.tmp 19) (.const (.bool false)), none⟩,
     ⟨some 4, .mv (.tmp 20), none⟩] [4] []) <|
  .ret
theorem Cd.impl_isField_rs : Tryd.f120.results.toList = [.tmp 4] := rfl
theorem Cd.impl_isField_nt : Tryd.f120.ntmps = 21 := rfl
theorem Cd.impl_isField_ok : CodeIsR Tryd.prog 120 Tryd.f120 Cd.impl_isField := ⟨Tryd.func120, by kernel_rfl, by decide +kernel⟩
/-- loop.example/g01012/spec.l03Digit -/
def Cd.spec_l03Digit : ACode :=
  .seq (.region [⟨some 2, .mv (.const (.int .i64 (0))), none⟩] [0] []) <|
  .seq (.seq (.region [⟨some 3, .mv (.const (.int .i64 (0))), none⟩] [0, 3] []) <|
   .block 0 (
     .loop (
       .seq (.seq (.region [⟨some 4, .mv (.tmp 3), none⟩,
           ⟨some 5, .bin .leq (.tmp 4) (.const (.int .i64 (9))), none⟩] [0, 3, 5] []) <|
        .cond (.tmp 5)
          (.skip)
          (.exit 0)) <|
       .seq (.block 1 (
          .seq (.region [⟨some 8, .mv (.tmp 0), none⟩,
             ⟨some 9, .mv (.tmp 3), none⟩,
             ⟨some 10, .call (.func F.spec_l02Bit) [(.tmp 9)] [], none⟩,
             ⟨some 11, .bin .eql (.tmp 8) (.tmp 10), none⟩] [0, 3, 11] []) <|
          .cond (.tmp 11)
            (.seq (.region [⟨some 12, .mv (.tmp 3), none⟩,
               ⟨some 2, .mv (.tmp 12), none⟩] [2] []) <|
            .ret)
            (.skip))) <|
       .region [⟨some 6, .mv (.tmp 3), none⟩,
         ⟨some 7, .bin .add (.tmp 6) (.const (.int .i64 (1))), none⟩,
         ⟨some 3, .mv (.tmp 7), none⟩] [0, 3] []))) <|
  .seq (.region [⟨some 2, .mv (.const (.int .i64 (-1))), none⟩] [2] []) <|
  .ret
theorem Cd.spec_l03Digit_rs : Tryd.f131.results.toList = [.tmp 2] := rfl
theorem Cd.spec_l03Digit_nt : Tryd.f131.ntmps = 13 := rfl
theorem Cd.spec_l03Digit_ok : CodeIsR Tryd.prog 131 Tryd.f131 Cd.spec_l03Digit := ⟨Tryd.func131, by kernel_rfl, by decide +kernel⟩
/-- loop.example/g01012/spec.l14Factor -/
def Cd.spec_l14Factor : ACode :=
  .seq (.region [⟨some 2, .mv (.const (.bool false)), none⟩] [0] []) <|
  .seq (.region [⟨some 3, .mv (.tmp 0), none⟩,
     ⟨some 4, .call (.func F.spec_l00In) [(.tmp 3), (.const (.int .i64 (-999999))), (.const (.int .i64 (999999)))] [], none⟩,
     ⟨some 2, .mv (.tmp 4), none⟩] [2] []) <|
  .ret
theorem Cd.spec_l14Factor_rs : Tryd.f132.results.toList = [.tmp 2] := rfl
theorem Cd.spec_l14Factor_nt : Tryd.f132.ntmps = 5 := rfl
theorem Cd.spec_l14Factor_ok : CodeIsR Tryd.prog 132 Tryd.f132 Cd.spec_l14Factor := ⟨Tryd.func132, by kernel_rfl, by decide +kernel⟩
/-- loop.example/g01012/spec.l14Times -/
def Cd.spec_l14Times : ACode :=
  .seq (.region [⟨some 4, .mv (.const (.int .i64 (0))), none⟩,
     ⟨some 5, .mv (.const (.int .i64 (0))), none⟩] [0, 1] []) <|
  .seq (.region [⟨some 6, .mv (.const (.int .i64 (0))), none⟩] [0, 1, 6] []) <|
  .seq (.region [⟨some 7, .mv (.const (.int .i64 (1))), none⟩] [0, 1, 6, 7] []) <|
  .seq (.region [⟨some 8, .mv (.const (.int .i64 (1))), none⟩] [0, 1, 6, 7, 8] []) <|
  .seq (.block 0 (
     .loop (
       .seq (.seq (.region [⟨some 11, .mv (.tmp 1), none⟩,
           ⟨some 12, .bin .gtr (.tmp 11) (.const (.int .i64 (0))), none⟩] [0, 1, 6, 7, 8, 12] []) <|
        .cond (.tmp 12)
          (.skip)
          (.exit 0)) <|
       .seq (.block 1 (
          .seq (.region [⟨some 16, .mv (.tmp 0), none⟩,
             ⟨some 17, .mv (.tmp 1), none⟩,
             ⟨some 18, .bin .rem (.tmp 17) (.const (.int .i64 (10))), none⟩,
             ⟨some 19, .call (.func F.spec_l14Parts) [(.tmp 16), (.tmp 18)] [], none⟩,
             ⟨some 15, .mv (.tmp 19), none⟩,
             ⟨some 20, .extract (.tmp 15) 0, none⟩,
             ⟨some 21, .extract (.tmp 15) 1, none⟩,
             ⟨some 9, .mv (.tmp 20), none⟩,
             ⟨some 10, .mv (.tmp 21), none⟩] [0, 1, 6, 7, 8, 9, 10] []) <|
          .seq (.region [⟨some 22, .mv (.tmp 6), none⟩,
             ⟨some 23, .mv (.tmp 9), none⟩,
             ⟨some 24, .mv (.tmp 7), none⟩,
             ⟨some 25, .bin .mul (.tmp 23) (.tmp 24), none⟩,
             ⟨some 26, .mv (.tmp 10), none⟩,
             ⟨some 27, .mv (.tmp 7), none⟩,
             ⟨some 28, .bin .mul (.tmp 26) (.tmp 27), none⟩,
             ⟨some 29, .bin .mul (.tmp 28) (.const (.int .i64 (10))), none⟩,
             ⟨some 30, .bin .add (.tmp 25) (.tmp 29), none⟩,
             ⟨some 31, .bin .add (.tmp 22) (.tmp 30), none⟩,
             ⟨some 6, .mv (.tmp 31), none⟩] [0, 1, 6, 7, 8] []) <|
          .seq (.region [⟨some 32, .mv (.tmp 7), none⟩,
             ⟨some 33, .bin .mul (.tmp 32) (.const (.int .i64 (10))), none⟩,
             ⟨some 7, .mv (.tmp 33), none⟩] [0, 1, 6, 7, 8] []) <|
          .seq (.region [⟨some 34, .mv (.tmp 1), none⟩,
             ⟨some 35, .bin .rem (.tmp 34) (.const (.int .i64 (10))), none⟩,
             ⟨some 36, .bin .gtr (.tmp 35) (.const (.int .i64 (0))), none⟩] [0, 1, 6, 7, 8, 36] []) <|
          .cond (.tmp 36)
            (.region [⟨some 37, .mv (.tmp 8), none⟩,
              ⟨some 38, .bin .add (.tmp 37) (.const (.int .i64 (1))), none⟩,
              ⟨some 8, .mv (.tmp 38), none⟩] [0, 1, 6, 7, 8] [])
            (.skip))) <|
       .region [⟨some 13, .mv (.tmp 1), none⟩,
         ⟨some 14, .bin .quo (.tmp 13) (.const (.int .i64 (10))), none⟩,
         ⟨some 1, .mv (.tmp 14), none⟩] [0, 1, 6, 7, 8] []))) <|
  .seq (.region [⟨some 39, .mv (.tmp 6), none⟩,
     ⟨some 40, .mv (.tmp 8), none⟩,
     ⟨some 4, .mv (.tmp 39), none⟩,
     ⟨some 5, .mv (.tmp 40), none⟩] [4, 5] []) <|
  .ret
theorem Cd.spec_l14Times_rs : Tryd.f133.results.toList = [.tmp 4, .tmp 5] := rfl
theorem Cd.spec_l14Times_nt : Tryd.f133.ntmps = 41 := rfl
theorem Cd.spec_l14Times_ok : CodeIsR Tryd.prog 133 Tryd.f133 Cd.spec_l14Times := ⟨Tryd.func133, by kernel_rfl, by decide +kernel⟩
/-- loop.example/g01012/spec.l14Size -/
def Cd.spec_l14Size : ACode :=
  .seq (.region [⟨some 2, .mv (.const (.int .i64 (0))), none⟩] [0] []) <|
  .seq (.region [⟨some 3, .mv (.tmp 0), none⟩,
     ⟨some 4, .mv (.tmp 0), none⟩,
     ⟨some 5, .un .neg (.tmp 4), none⟩,
     ⟨some 6, .call (.func F.spec_l00Max) [(.tmp 3), (.tmp 5)] [], none⟩,
     ⟨some 2, .mv (.tmp 6), none⟩] [2] []) <|
  .ret
theorem Cd.spec_l14Size_rs : Tryd.f134.results.toList = [.tmp 2] := rfl
theorem Cd.spec_l14Size_nt : Tryd.f134.ntmps = 7 := rfl
theorem Cd.spec_l14Size_ok : CodeIsR Tryd.prog 134 Tryd.f134 Cd.spec_l14Size := ⟨Tryd.func134, by kernel_rfl, by decide +kernel⟩
/-- loop.example/g01012/spec.l14Divide -/
def Cd.spec_l14Divide : ACode :=
  .seq (.region [⟨some 4, .mv (.const (.int .i64 (0))), none⟩,
     ⟨some 5, .mv (.const (.int .i64 (0))), none⟩,
     ⟨some 6, .mv (.const (.int .i64 (0))), none⟩] [0, 1] []) <|
  .seq (.region [⟨some 7, .mv (.const (.int .i64 (1))), none⟩] [0, 1, 7] []) <|
  .seq (.block 0 (
     .loop (
       .seq (.seq (.region [⟨some 11, .mv (.tmp 0), none⟩,
           ⟨some 12, .mv (.tmp 1), none⟩,
           ⟨some 13, .bin .quo (.tmp 11) (.tmp 12), none⟩,
           ⟨some 14, .mv (.tmp 7), none⟩,
           ⟨some 15, .bin .mul (.const (.int .i64 (10))) (.tmp 14), none⟩,
           ⟨some 16, .bin .geq (.tmp 13) (.tmp 15), none⟩] [0, 1, 7, 16] []) <|
        .cond (.tmp 16)
          (.skip)
          (.exit 0)) <|
       .block 1 (
         .region [⟨some 17, .mv (.tmp 7), none⟩,
           ⟨some 18, .bin .mul (.tmp 17) (.const (.int .i64 (10))), none⟩,
           ⟨some 7, .mv (.tmp 18), none⟩] [0, 1, 7] [])))) <|
  .seq (.region [⟨some 8, .mv (.const (.int .i64 (0))), none⟩] [0, 1, 7, 8] []) <|
  .seq (.region [⟨some 9, .mv (.const (.int .i64 (0))), none⟩] [0, 1, 7, 8, 9] []) <|
  .seq (.block 2 (
     .loop (
       .seq (.seq (.region [⟨some 19, .mv (.tmp 7), none⟩,
           ⟨some 20, .bin .gtr (.tmp 19) (.const (.int .i64 (0))), none⟩] [0, 1, 7, 8, 9, 20] []) <|
        .cond (.tmp 20)
          (.skip)
          (.exit 2)) <|
       .seq (.block 3 (
          .seq (.region [⟨some 23, .mv (.tmp 0), none⟩,
             ⟨some 24, .mv (.tmp 1), none⟩,
             ⟨some 25, .mv (.tmp 7), none⟩,
             ⟨some 26, .bin .mul (.tmp 24) (.tmp 25), none⟩,
             ⟨some 27, .bin .quo (.tmp 23) (.tmp 26), none⟩,
             ⟨some 10, .mv (.tmp 27), none⟩] [0, 1, 7, 8, 9, 10] []) <|
          .seq (.region [⟨some 28, .mv (.tmp 0), none⟩,
             ⟨some 29, .mv (.tmp 10), none⟩,
             ⟨some 30, .mv (.tmp 1), none⟩,
             ⟨some 31, .bin .mul (.tmp 29) (.tmp 30), none⟩,
             ⟨some 32, .mv (.tmp 7), none⟩,
             ⟨some 33, .bin .mul (.tmp 31) (.tmp 32), none⟩,
             ⟨some 34, .bin .sub (.tmp 28) (.tmp 33), none⟩,
             ⟨some 0, .mv (.tmp 34), none⟩] [0, 1, 7, 8, 9, 10] []) <|
          .seq (.region [⟨some 35, .mv (.tmp 8), none⟩,
             ⟨some 36, .bin .mul (.const (.int .i64 (10))) (.tmp 35), none⟩,
             ⟨some 37, .mv (.tmp 10), none⟩,
             ⟨some 38, .bin .add (.tmp 36) (.tmp 37), none⟩,
             ⟨some 8, .mv (.tmp 38), none⟩] [0, 1, 7, 8, 9, 10] []) <|
          .region [⟨some 39, .mv (.tmp 9), none⟩,
            ⟨some 40, .mv (.tmp 10), none⟩,
            ⟨some 41, .bin .add (.tmp 40) (.const (.int .i64 (1))), none⟩,
            ⟨some 42, .bin .add (.tmp 39) (.tmp 41), none⟩,
            ⟨some 9, .mv (.tmp 42), none⟩] [0, 1, 7, 8, 9] [])) <|
       .region [⟨some 21, .mv (.tmp 7), none⟩,
         ⟨some 22, .bin .quo (.tmp 21) (.const (.int .i64 (10))), none⟩,
         ⟨some 7, .mv (.tmp 22), none⟩] [0, 1, 7, 8, 9] []))) <|
  .seq (.region [⟨some 43, .mv (.tmp 8), none⟩,
     ⟨some 44, .mv (.tmp 0), none⟩,
     ⟨some 45, .mv (.tmp 9), none⟩,
     ⟨some 4, .mv (.tmp 43), none⟩,
     ⟨some 5, .mv (.tmp 44), none⟩,
     ⟨some 6, .mv (.tmp 45), none⟩] [4, 5, 6] []) <|
  .ret
theorem Cd.spec_l14Divide_rs : Tryd.f135.results.toList = [.tmp 4, .tmp 5, .tmp 6] := rfl
theorem Cd.spec_l14Divide_nt : Tryd.f135.ntmps = 46 := rfl
theorem Cd.spec_l14Divide_ok : CodeIsR Tryd.prog 135 Tryd.f135 Cd.spec_l14Divide := ⟨Tryd.func135, by kernel_rfl, by decide +kernel⟩
/-- slices.IndexFunc[[]loop.example/g01012/impl.Field,loop.example/g01012/impl.Field] -/
def Cd.slices_IndexFunc___impl_Field_impl_Field_ : ACode :=
  .seq (.region [⟨some 4, .mv (.const (.int .i64 (0))), none⟩] [0, 1] []) <|
  .seq (.seq (.region [⟨some 6, .mv (.tmp 0), none⟩,
      ⟨some 7, .len (.tmp 6), none⟩,
      ⟨some 8, .mv (.const (.int .i64 (0))), none⟩] [0, 1, 7, 8] []) <|
   .block 0 (
     .loop (
       .seq (.region [⟨some 9, .bin .lss (.tmp 8) (.tmp 7), none⟩] [0, 1, 7, 8, 9] []) <|
       .seq (.cond (.tmp 9)
          (.skip)
          (.exit 0)) <|
       .seq (.block 1 (
          .seq (.region [⟨some 10, .mv (.tmp 8), none⟩,
             ⟨some 5, .mv (.tmp 10), none⟩] [0, 1, 5, 7, 8] []) <|
          .seq (.region [⟨some 11, .mv (.tmp 1), none⟩,
             ⟨some 12, .mv (.tmp 0), none⟩,
             ⟨some 13, .mv (.tmp 5), none⟩,
             ⟨some 14, .idxSl 2 (.tmp 12) (.tmp 13), none⟩,
             ⟨some 15, .load true 2 (.tmp 14), none⟩,
             ⟨some 16, .call (.tmp 11) [(.tmp 15)] [], none⟩] [0, 1, 5, 7, 8, 16] []) <|
          .cond (.tmp 16)
            (.seq (.region [⟨some 17, .mv (.tmp 5), none⟩,
               ⟨some 4, .mv (.tmp 17), none⟩] [4] []) <|
            .ret)
            (.skip))) <|
       .region [⟨some 18, .bin .add (.tmp 8) (.const (.int .i64 (1))), none⟩,
         ⟨some 8, .mv (.tmp 18), none⟩] [0, 1, 7, 8] []))) <|
  .seq (.region [⟨some 4, .mv (.const (.int .i64 (-1))), none⟩] [4] []) <|
  .ret
theorem Cd.slices_IndexFunc___impl_Field_impl_Field__rs : Tryd.f136.results.toList = [.tmp 4] := rfl
theorem Cd.slices_IndexFunc___impl_Field_impl_Field__nt : Tryd.f136.ntmps = 19 := rfl
theorem Cd.slices_IndexFunc___impl_Field_impl_Field__ok : CodeIsR Tryd.prog 136 Tryd.f136 Cd.slices_IndexFunc___impl_Field_impl_Field_ := ⟨Tryd.func136, by kernel_rfl, by decide +kernel⟩
/-- loop.example/g01012/impl.copyInts -/
def Cd.impl_copyInts : ACode :=
  .seq (.region [⟨some 2, .mv (.const (.slice none 0 0)), none⟩] [0] []) <|
  .seq (.region [⟨some 3, .bslice 1 0 [.v (.int .i64 (0))] [], none⟩,
     ⟨some 4, .mv (.tmp 0), none⟩,
     ⟨some 5, .append 1 8 (.tmp 3) (.tmp 4), none⟩,
     ⟨some 2, .mv (.tmp 5), none⟩] [2] []) <|
  .ret
theorem Cd.impl_copyInts_rs : Tryd.f137.results.toList = [.tmp 2] := rfl
theorem Cd.impl_copyInts_nt : Tryd.f137.ntmps = 6 := rfl
theorem Cd.impl_copyInts_ok : CodeIsR Tryd.prog 137 Tryd.f137 Cd.impl_copyInts := ⟨Tryd.func137, by kernel_rfl, by decide +kernel⟩
/-- loop.example/g01012/impl.numberIn$1 -/
def Cd.impl_numberIn_1 : ACode :=
  .seq (.region [⟨some 2, .mv (.const (.bool false)), none⟩] [0] []) <|
  .seq (.region [⟨some 3, .mv (.tmp 0), none⟩,
     ⟨some 4, .bin .neq (.tmp 3) (.const (.int .i64 (0))), none⟩,
     ⟨some 2, .mv (.tmp 4), none⟩] [2] []) <|
  .ret
theorem Cd.impl_numberIn_1_rs : Tryd.f138.results.toList = [.tmp 2] := rfl
theorem Cd.impl_numberIn_1_nt : Tryd.f138.ntmps = 5 := rfl
theorem Cd.impl_numberIn_1_ok : CodeIsR Tryd.prog 138 Tryd.f138 Cd.impl_numberIn_1 := ⟨Tryd.func138, by kernel_rfl, by decide +kernel⟩
/-- loop.example/g01012/impl.bitOf -/
def Cd.impl_bitOf : ACode :=
  .seq (.region [⟨some 2, .mv (.const (.int .i64 (0))), none⟩] [0] []) <|
  .seq (.block 0 (
     .seq (.region [⟨some 4, .mv (.tmp 0), none⟩,
        ⟨some 5, .bin .eql (.tmp 4) (.const (.int .i64 (12))), none⟩,
        ⟨some 3, .mv (.tmp 5), none⟩] [0, 3] []) <|
     .cond (.tmp 3)
       (.seq (.region [⟨some 2, .mv (.const (.int .i64 (1))), none⟩] [2] []) <|
       .ret)
       (.seq (.region [⟨some 7, .mv (.tmp 0), none⟩,
          ⟨some 8, .bin .eql (.tmp 7) (.const (.int .i64 (11))), none⟩,
          ⟨some 6, .mv (.tmp 8), none⟩] [0, 6] []) <|
       .cond (.tmp 6)
         (.seq (.region [⟨some 2, .mv (.const (.int .i64 (2))), none⟩] [2] []) <|
         .ret)
         (.seq (.region [⟨some 10, .mv (.tmp 0), none⟩,
            ⟨some 11, .call (.func F.impl_inside) [(.tmp 10), (.const (.int .i64 (0))), (.const (.int .i64 (9)))] [], none⟩,
            ⟨some 9, .mv (.tmp 11), none⟩] [0, 9] []) <|
         .cond (.tmp 9)
           (.seq (.region [⟨some 12, .mv (.tmp 0), none⟩,
              ⟨some 13, .bin .shl (.const (.int .i64 (4))) (.tmp 12), none⟩,
              ⟨some 2, .mv (.tmp 13), none⟩] [2] []) <|
           .ret)
           (.skip))))) <|
  .seq (.region [⟨some 2, .mv (.const (.int .i64 (0))), none⟩] [2] []) <|
  .ret
theorem Cd.impl_bitOf_rs : Tryd.f139.results.toList = [.tmp 2] := rfl
theorem Cd.impl_bitOf_nt : Tryd.f139.ntmps = 14 := rfl
theorem Cd.impl_bitOf_ok : CodeIsR Tryd.prog 139 Tryd.f139 Cd.impl_bitOf := ⟨Tryd.func139, by kernel_rfl, by decide +kernel⟩
/-- loop.example/g01012/impl.digitOf -/
def Cd.impl_digitOf : ACode :=
  .seq (.region [⟨some 2, .mv (.const (.int .i64 (0))), none⟩] [0] []) <|
  .seq (.seq (.region [⟨some 4, .mv (.const (.int .i64 (0))), none⟩] [0, 4] []) <|
   .block 0 (
     .loop (
       .seq (.region [⟨some 5, .bin .lss (.tmp 4) (.const (.int .i64 (10))), none⟩] [0, 4, 5] []) <|
       .seq (.cond (.tmp 5)
          (.skip)
          (.exit 0)) <|
       .seq (.block 1 (
          .seq (.region [⟨some 6, .mv (.tmp 4), none⟩,
             ⟨some 3, .mv (.tmp 6), none⟩] [0, 3, 4] []) <|
          .seq (.region [⟨some 7, .mv (.tmp 3), none⟩,
             ⟨some 8, .call (.func F.impl_bitOf) [(.tmp 7)] [], none⟩,
             ⟨some 9, .mv (.tmp 0), none⟩,
             ⟨some 10, .bin .eql (.tmp 8) (.tmp 9), none⟩] [0, 3, 4, 10] []) <|
          .cond (.tmp 10)
            (.seq (.region [⟨some 11, .mv (.tmp 3), none⟩,
               ⟨some 2, .mv (.tmp 11), none⟩] [2] []) <|
            .ret)
            (.skip))) <|
       .region [⟨some 12, .bin .add (.tmp 4) (.const (.int .i64 (1))), none⟩,
         ⟨some 4, .mv (.tmp 12), none⟩] [0, 4] []))) <|
  .seq (.region [⟨some 2, .mv (.const (.int .i64 (-1))), none⟩] [2] []) <|
  .ret
theorem Cd.impl_digitOf_rs : Tryd.f140.results.toList = [.tmp 2] := rfl
theorem Cd.impl_digitOf_nt : Tryd.f140.ntmps = 13 := rfl
theorem Cd.impl_digitOf_ok : CodeIsR Tryd.prog 140 Tryd.f140 Cd.impl_digitOf := ⟨Tryd.func140, by kernel_rfl, by decide +kernel⟩
/-- loop.example/g01012/impl.isNumber -/
def Cd.impl_isNumber : ACode :=
  .seq (.region [⟨some 2, .mv (.const (.bool false)), none⟩] [0] []) <|
  .seq (.region [⟨some 3, .mv (.tmp 0), none⟩,
     ⟨some 4, .call (.func F.impl_inside) [(.tmp 3), (.const (.int .i64 (-999999999999))), (.const (.int .i64 (999999999999)))] [], none⟩,
     ⟨some 2, .mv (.tmp 4), none⟩] [2] []) <|
  .ret
theorem Cd.impl_isNumber_rs : Tryd.f141.results.toList = [.tmp 2] := rfl
theorem Cd.impl_isNumber_nt : Tryd.f141.ntmps = 5 := rfl
theorem Cd.impl_isNumber_ok : CodeIsR Tryd.prog 141 Tryd.f141 Cd.impl_isNumber := ⟨Tryd.func141, by kernel_rfl, by decide +kernel⟩
/-- loop.example/g01012/impl.ProductBy -/
def Cd.impl_ProductBy : ACode :=
  .seq (.region [⟨some 4, .mv (.const (.int .i64 (0))), none⟩,
     ⟨some 5, .mv (.const (.int .i64 (0))), none⟩,
     ⟨some 6, .mv (.const (.int .i64 (0))), none⟩] [0, 1] []) <|
  .seq (.seq (.region [⟨some 10, .mv (.tmp 0), none⟩,
      ⟨some 11, .call (.func F.impl_isFactor) [(.tmp 10)] [], none⟩,
      ⟨some 12, .un .not (.tmp 11), none⟩,
      ⟨some 13, .mv (.tmp 12), none⟩,
      ⟨some 14, .mv (.tmp 1), some (13, false)⟩,
      ⟨some 15, .call (.func F.impl_isFactor) [(.tmp 14)] [], some (13, false)⟩,
      ⟨some 16, .un .not (.tmp 15), some (13, false)⟩,
      ⟨some 17, .pick (.tmp 13) (.const (.bool true)) (.tmp 16), none⟩] [0, 1, 17] []) <|
   .cond (.tmp 17)
     (.seq (.region [⟨some 4, .mv (.const (.int .i64 (0))), none⟩,
        ⟨some 5, .mv (.const (.int .i64 (0))), none⟩,
        ⟨some 6, .mv (.const (.int .i64 (2))), none⟩] [4, 5, 6] []) <|
     .ret)
     (.skip)) <|
  .seq (.region [⟨some 7, .mv (.const (.int .i64 (1))), none⟩] [0, 1, 7] []) <|
  .seq (.seq (.region [⟨some 18, .mv (.tmp 1), none⟩,
      ⟨some 19, .call (.func F.impl_digitList) [(.tmp 18)] [], none⟩,
      ⟨some 20, .len (.tmp 19), none⟩,
      ⟨some 21, .mv (.const (.int .i64 (0))), none⟩] [0, 1, 7, 19, 20, 21] []) <|
   .block 0 (
     .loop (
       .seq (.region [⟨some 22, .bin .lss (.tmp 21) (.tmp 20), none⟩] [0, 1, 7, 19, 20, 21, 22] []) <|
       .seq (.cond (.tmp 22)
          (.skip)
          (.exit 0)) <|
       .seq (.block 1 (
          .seq (.region [⟨some 23, .idxSl 1 (.tmp 19) (.tmp 21), none⟩,
             ⟨some 24, .load false 1 (.tmp 23), none⟩,
             ⟨some 9, .mv (.tmp 24), none⟩] [0, 1, 7, 9, 19, 20, 21] []) <|
          .seq (.region [⟨some 25, .mv (.tmp 9), none⟩,
             ⟨some 26, .bin .neq (.tmp 25) (.const (.int .i64 (0))), none⟩] [0, 1, 7, 19, 20, 21, 26] []) <|
          .cond (.tmp 26)
            (.region [⟨some 27, .mv (.tmp 7), none⟩,
              ⟨some 28, .bin .add (.tmp 27) (.const (.int .i64 (1))), none⟩,
              ⟨some 7, .mv (.tmp 28), none⟩] [0, 1, 7, 19, 20, 21] [])
            (.skip))) <|
       .region [⟨some 29, .bin .add (.tmp 21) (.const (.int .i64 (1))), none⟩,
         ⟨some 21, .mv (.tmp 29), none⟩] [0, 1, 7, 19, 20, 21] []))) <|
  .seq (.region [⟨some 30, .mv (.tmp 0), none⟩,
     ⟨some 31, .mv (.tmp 1), none⟩,
     ⟨some 32, .bin .mul (.tmp 30) (.tmp 31), none⟩,
     ⟨some 33, .mv (.tmp 7), none⟩,
     ⟨some 4, .mv (.tmp 32), none⟩,
     ⟨some 5, .mv (.tmp 33), none⟩,
     ⟨some 6, .mv (.const (.int .i64 (0))), none⟩] [4, 5, 6] []) <|
  .ret
theorem Cd.impl_ProductBy_rs : Tryd.f142.results.toList = [.tmp 4, .tmp 5, .tmp 6] := rfl
theorem Cd.impl_ProductBy_nt : Tryd.f142.ntmps = 34 := rfl
theorem Cd.impl_ProductBy_ok : CodeIsR Tryd.prog 142 Tryd.f142 Cd.impl_ProductBy := ⟨Tryd.func142, by kernel_rfl, by decide +kernel⟩
/-- loop.example/g01012/impl.QuotientBy DRAWS -/
def Cd.impl_QuotientBy : ACode :=
  .seq (.region [⟨some 4, .mv (.const (.int .i64 (0))), none⟩,
     ⟨some 5, .mv (.const (.int .i64 (0))), none⟩,
     ⟨some 6, .mv (.const (.int .i64 (0))), none⟩,
     ⟨some 7, .mv (.const (.int .i64 (0))), none⟩] [0, 1] []) <|
  .seq (.block 0 (
     .seq (.region [⟨some 10, .mv (.tmp 0), none⟩,
        ⟨some 11, .call (.func F.impl_isNumber) [(.tmp 10)] [], none⟩,
        ⟨some 12, .un .not (.tmp 11), none⟩,
        ⟨some 13, .mv (.tmp 12), none⟩,
        ⟨some 14, .mv (.tmp 1), some (13, false)⟩,
        ⟨some 15, .call (.func F.impl_isFactor) [(.tmp 14)] [], some (13, false)⟩,
        ⟨some 16, .un .not (.tmp 15), some (13, false)⟩,
        ⟨some 17, .pick (.tmp 13) (.const (.bool true)) (.tmp 16), none⟩,
        ⟨some 9, .mv (.tmp 17), none⟩] [0, 1, 9] []) <|
     .cond (.tmp 9)
       (.seq (.region [⟨some 4, .mv (.const (.int .i64 (0))), none⟩,
          ⟨some 5, .mv (.const (.int .i64 (0))), none⟩,
          ⟨some 6, .mv (.const (.int .i64 (0))), none⟩,
          ⟨some 7, .mv (.const (.int .i64 (2))), none⟩] [4, 5, 6, 7] []) <|
       .ret)
       (.seq (.region [⟨some 19, .mv (.tmp 1), none⟩,
          ⟨some 20, .bin .eql (.tmp 19) (.const (.int .i64 (0))), none⟩,
          ⟨some 18, .mv (.tmp 20), none⟩] [0, 1, 18] []) <|
       .cond (.tmp 18)
         (.seq (.region [⟨some 4, .mv (.const (.int .i64 (0))), none⟩,
            ⟨some 5, .mv (.const (.int .i64 (0))), none⟩,
            ⟨some 6, .mv (.const (.int .i64 (0))), none⟩,
            ⟨some 7, .mv (.const (.int .i64 (6))), none⟩] [4, 5, 6, 7] []) <|
         .ret)
         (.skip)))) <|
  .seq (.region [⟨some 21, .mv (.tmp 0), none⟩,
     ⟨some 22, .mv (.tmp 1), none⟩,
     ⟨some 23, .bin .quo (.tmp 21) (.tmp 22), none⟩,
     ⟨some 8, .mv (.tmp 23), none⟩] [0, 1, 8] []) <|
  .seq (.region [⟨some 24, .mv (.tmp 8), none⟩,
     ⟨some 25, .mv (.tmp 0), none⟩,
     ⟨some 26, .mv (.tmp 1), none⟩,
     ⟨some 27, .bin .rem (.tmp 25) (.tmp 26), none⟩,
     ⟨some 28, .mv (.tmp 8), none⟩,
     ⟨some 29, .call (.func F.impl_digitSum) [(.tmp 28)] [], none⟩,
     ⟨some 30, .mv (.tmp 8), none⟩,
     ⟨some 31, .call (.func F.impl_digitList) [(.tmp 30)] [], none⟩,
     ⟨some 32, .call (.func F.impl_size_int64_) [(.tmp 31)] [], none⟩,
     ⟨some 33, .bin .add (.tmp 29) (.tmp 32), none⟩,
     ⟨some 4, .mv (.tmp 24), none⟩,
     ⟨some 5, .mv (.tmp 27), none⟩,
     ⟨some 6, .mv (.tmp 33), none⟩,
     ⟨some 7, .mv (.const (.int .i64 (0))), none⟩] [4, 5, 6, 7] [24, 25, 26, 27, 28, 29, 30, 31, 32, 33, 4, 5]) <|
  .ret
theorem Cd.impl_QuotientBy_rs : Tryd.f143.results.toList = [.tmp 4, .tmp 5, .tmp 6, .tmp 7] := rfl
theorem Cd.impl_QuotientBy_nt : Tryd.f143.ntmps = 34 := rfl
theorem Cd.impl_QuotientBy_ok : CodeIsR Tryd.prog 143 Tryd.f143 Cd.impl_QuotientBy := ⟨Tryd.func143, by kernel_rfl, by decide +kernel⟩
/-- loop.example/g01012/spec.l02Bit -/
def Cd.spec_l02Bit : ACode :=
  .seq (.region [⟨some 2, .mv (.const (.int .i64 (0))), none⟩] [0] []) <|
  .seq (.block 0 (
     .seq (.region [⟨some 4, .mv (.tmp 0), none⟩,
        ⟨some 5, .bin .eql (.tmp 4) (.const (.int .i64 (12))), none⟩,
        ⟨some 3, .mv (.tmp 5), none⟩] [0, 3] []) <|
     .cond (.tmp 3)
       (.seq (.region [⟨some 2, .mv (.const (.int .i64 (1))), none⟩] [2] []) <|
       .ret)
       (.seq (.region [⟨some 7, .mv (.tmp 0), none⟩,
          ⟨some 8, .bin .eql (.tmp 7) (.const (.int .i64 (11))), none⟩,
          ⟨some 6, .mv (.tmp 8), none⟩] [0, 6] []) <|
       .cond (.tmp 6)
         (.seq (.region [⟨some 2, .mv (.const (.int .i64 (2))), none⟩] [2] []) <|
         .ret)
         (.seq (.region [⟨some 10, .mv (.tmp 0), none⟩,
            ⟨some 11, .call (.func F.spec_l00In) [(.tmp 10), (.const (.int .i64 (0))), (.const (.int .i64 (9)))] [], none⟩,
            ⟨some 9, .mv (.tmp 11), none⟩] [0, 9] []) <|
         .cond (.tmp 9)
           (.seq (.region [⟨some 12, .mv (.tmp 0), none⟩,
              ⟨some 13, .conv .u64 (.tmp 12), none⟩,
              ⟨some 14, .bin .shl (.const (.int .i64 (4))) (.tmp 13), none⟩,
              ⟨some 2, .mv (.tmp 14), none⟩] [2] []) <|
           .ret)
           (.skip))))) <|
  .seq (.region [⟨some 2, .mv (.const (.int .i64 (0))), none⟩] [2] []) <|
  .ret
theorem Cd.spec_l02Bit_rs : Tryd.f144.results.toList = [.tmp 2] := rfl
theorem Cd.spec_l02Bit_nt : Tryd.f144.ntmps = 15 := rfl
theorem Cd.spec_l02Bit_ok : CodeIsR Tryd.prog 144 Tryd.f144 Cd.spec_l02Bit := ⟨Tryd.func144, by kernel_rfl, by decide +kernel⟩
/-- loop.example/g01012/spec.l00Own -/
def Cd.spec_l00Own : ACode :=
  .seq (.region [⟨some 2, .mv (.const (.slice none 0 0)), none⟩] [0] []) <|
  .seq (.region [⟨some 3, .bslice 1 0 [.v (.int .i64 (0))] [], none⟩,
     ⟨some 4, .mv (.tmp 0), none⟩,
     ⟨some 5, .append 1 8 (.tmp 3) (.tmp 4), none⟩,
     ⟨some 2, .mv (.tmp 5), none⟩] [2] []) <|
  .ret
theorem Cd.spec_l00Own_rs : Tryd.f145.results.toList = [.tmp 2] := rfl
theorem Cd.spec_l00Own_nt : Tryd.f145.ntmps = 6 := rfl
theorem Cd.spec_l00Own_ok : CodeIsR Tryd.prog 145 Tryd.f145 Cd.spec_l00Own := ⟨Tryd.func145, by kernel_rfl, by decide +kernel⟩
/-- slices.IndexFunc[[]int64,int64] -/
def Cd.slices_IndexFunc___int64_int64_ : ACode :=
  .seq (.region [⟨some 4, .mv (.const (.int .i64 (0))), none⟩] [0, 1] []) <|
  .seq (.seq (.region [⟨some 6, .mv (.tmp 0), none⟩,
      ⟨some 7, .len (.tmp 6), none⟩,
      ⟨some 8, .mv (.const (.int .i64 (0))), none⟩] [0, 1, 7, 8] []) <|
   .block 0 (
     .loop (
       .seq (.region [⟨some 9, .bin .lss (.tmp 8) (.tmp 7), none⟩] [0, 1, 7, 8, 9] []) <|
       .seq (.cond (.tmp 9)
          (.skip)
          (.exit 0)) <|
       .seq (.block 1 (
          .seq (.region [⟨some 10, .mv (.tmp 8), none⟩,
             ⟨some 5, .mv (.tmp 10), none⟩] [0, 1, 5, 7, 8] []) <|
          .seq (.region [⟨some 11, .mv (.tmp 1), none⟩,
             ⟨some 12, .mv (.tmp 0), none⟩,
             ⟨some 13, .mv (.tmp 5), none⟩,
             ⟨some 14, .idxSl 1 (.tmp 12) (.tmp 13), none⟩,
             ⟨some 15, .load false 1 (.tmp 14), none⟩,
             ⟨some 16, .call (.tmp 11) [(.tmp 15)] [], none⟩] [0, 1, 5, 7, 8, 16] []) <|
          .cond (.tmp 16)
            (.seq (.region [⟨some 17, .mv (.tmp 5), none⟩,
               ⟨some 4, .mv (.tmp 17), none⟩] [4] []) <|
            .ret)
            (.skip))) <|
       .region [⟨some 18, .bin .add (.tmp 8) (.const (.int .i64 (1))), none⟩,
         ⟨some 8, .mv (.tmp 18), none⟩] [0, 1, 7, 8] []))) <|
  .seq (.region [⟨some 4, .mv (.const (.int .i64 (-1))), none⟩] [4] []) <|
  .ret
theorem Cd.slices_IndexFunc___int64_int64__rs : Tryd.f146.results.toList = [.tmp 4] := rfl
theorem Cd.slices_IndexFunc___int64_int64__nt : Tryd.f146.ntmps = 19 := rfl
theorem Cd.slices_IndexFunc___int64_int64__ok : CodeIsR Tryd.prog 146 Tryd.f146 Cd.slices_IndexFunc___int64_int64_ := ⟨Tryd.func146, by kernel_rfl, by decide +kernel⟩
/-- loop.example/g01012/impl.newCard -/
def Cd.impl_newCard : ACode :=
  .seq (.region [⟨some 1, .box (.tmp 0), none⟩,
     ⟨some 2, .alloc [.v (.slice none 0 0)], none⟩] [1, 2] []) <|
  .seq (.region [⟨some 3, .fieldAddr 0 (.tmp 1), none⟩,
     ⟨some 4, .load false 1 (.tmp 3), none⟩,
     ⟨some 5, .call (.func F.impl_copyInts) [(.tmp 4)] [], none⟩,
     ⟨some 6, .build [.v (.slice none 0 0)] [(0, 1, (.tmp 5))], none⟩,
     ⟨none, .store 1 (.tmp 2) (.tmp 6), none⟩] [2] []) <|
  .ret
theorem Cd.impl_newCard_rs : Tryd.f147.results.toList = [.cell 2 38] := rfl
theorem Cd.impl_newCard_nt : Tryd.f147.ntmps = 7 := rfl
theorem Cd.impl_newCard_ok : CodeIsR Tryd.prog 147 Tryd.f147 Cd.impl_newCard := ⟨Tryd.func147, by kernel_rfl, by decide +kernel⟩
-- NOT COVERED internal/strconv.FormatInt: [region 9 op 2, region 12 op 2, region 13 op 2]
/-- loop.example/g01012/spec.l14Parts -/
def Cd.spec_l14Parts : ACode :=
  .seq (.region [⟨some 4, .mv (.const (.int .i64 (0))), none⟩,
     ⟨some 5, .mv (.const (.int .i64 (0))), none⟩] [0, 1] []) <|
  .seq (.region [⟨some 6, .mv (.const (.int .i64 (0))), none⟩] [0, 1, 6] []) <|
  .seq (.region [⟨some 7, .mv (.const (.int .i64 (0))), none⟩] [0, 1, 6, 7] []) <|
  .seq (.region [⟨some 8, .mv (.const (.int .i64 (1))), none⟩] [0, 1, 6, 7, 8] []) <|
  .seq (.block 0 (
     .loop (
       .seq (.seq (.region [⟨some 10, .mv (.tmp 0), none⟩,
           ⟨some 11, .bin .gtr (.tmp 10) (.const (.int .i64 (0))), none⟩] [0, 1, 6, 7, 8, 11] []) <|
        .cond (.tmp 11)
          (.skip)
          (.exit 0)) <|
       .seq (.block 1 (
          .seq (.region [⟨some 14, .mv (.tmp 0), none⟩,
             ⟨some 15, .bin .rem (.tmp 14) (.const (.int .i64 (10))), none⟩,
             ⟨some 16, .mv (.tmp 1), none⟩,
             ⟨some 17, .bin .mul (.tmp 15) (.tmp 16), none⟩,
             ⟨some 9, .mv (.tmp 17), none⟩] [0, 1, 6, 7, 8, 9] []) <|
          .seq (.region [⟨some 18, .mv (.tmp 6), none⟩,
             ⟨some 19, .mv (.tmp 9), none⟩,
             ⟨some 20, .bin .rem (.tmp 19) (.const (.int .i64 (10))), none⟩,
             ⟨some 21, .mv (.tmp 8), none⟩,
             ⟨some 22, .bin .mul (.tmp 20) (.tmp 21), none⟩,
             ⟨some 23, .bin .add (.tmp 18) (.tmp 22), none⟩,
             ⟨some 6, .mv (.tmp 23), none⟩] [0, 1, 6, 7, 8, 9] []) <|
          .seq (.region [⟨some 24, .mv (.tmp 7), none⟩,
             ⟨some 25, .mv (.tmp 9), none⟩,
             ⟨some 26, .bin .quo (.tmp 25) (.const (.int .i64 (10))), none⟩,
             ⟨some 27, .mv (.tmp 8), none⟩,
             ⟨some 28, .bin .mul (.tmp 26) (.tmp 27), none⟩,
             ⟨some 29, .bin .add (.tmp 24) (.tmp 28), none⟩,
             ⟨some 7, .mv (.tmp 29), none⟩] [0, 1, 6, 7, 8] []) <|
          .region [⟨some 30, .mv (.tmp 8), none⟩,
            ⟨some 31, .bin .mul (.tmp 30) (.const (.int .i64 (10))), none⟩,
            ⟨some 8, .mv (.tmp 31), none⟩] [0, 1, 6, 7, 8] [])) <|
       .region [⟨some 12, .mv (.tmp 0), none⟩,
         ⟨some 13, .bin .quo (.tmp 12) (.const (.int .i64 (10))), none⟩,
         ⟨some 0, .mv (.tmp 13), none⟩] [0, 1, 6, 7, 8] []))) <|
  .seq (.region [⟨some 32, .mv (.tmp 6), none⟩,
     ⟨some 33, .mv (.tmp 7), none⟩,
     ⟨some 4, .mv (.tmp 32), none⟩,
     ⟨some 5, .mv (.tmp 33), none⟩] [4, 5] []) <|
  .ret
theorem Cd.spec_l14Parts_rs : Tryd.f159.results.toList = [.tmp 4, .tmp 5] := rfl
theorem Cd.spec_l14Parts_nt : Tryd.f159.ntmps = 34 := rfl
theorem Cd.spec_l14Parts_ok : CodeIsR Tryd.prog 159 Tryd.f159 Cd.spec_l14Parts := ⟨Tryd.func159, by kernel_rfl, by decide +kernel⟩
/-- loop.example/g01012/spec.l00Max -/
def Cd.spec_l00Max : ACode :=
  .seq (.region [⟨some 4, .mv (.const (.int .i64 (0))), none⟩] [0, 1] []) <|
  .seq (.seq (.region [⟨some 5, .mv (.tmp 0), none⟩,
      ⟨some 6, .mv (.tmp 1), none⟩,
      ⟨some 7, .bin .gtr (.tmp 5) (.tmp 6), none⟩] [0, 1, 7] []) <|
   .cond (.tmp 7)
     (.seq (.region [⟨some 8, .mv (.tmp 0), none⟩,
        ⟨some 4, .mv (.tmp 8), none⟩] [4] []) <|
     .ret)
     (.skip)) <|
  .seq (.region [⟨some 9, .mv (.tmp 1), none⟩,
     ⟨some 4, .mv (.tmp 9), none⟩] [4] []) <|
  .ret
theorem Cd.spec_l00Max_rs : Tryd.f160.results.toList = [.tmp 4] := rfl
theorem Cd.spec_l00Max_nt : Tryd.f160.ntmps = 10 := rfl
theorem Cd.spec_l00Max_ok : CodeIsR Tryd.prog 160 Tryd.f160 Cd.spec_l00Max := ⟨Tryd.func160, by kernel_rfl, by decide +kernel⟩
/-- loop.example/g01012/impl.isFactor -/
def Cd.impl_isFactor : ACode :=
  .seq (.region [⟨some 2, .mv (.const (.bool false)), none⟩] [0] []) <|
  .seq (.region [⟨some 3, .mv (.tmp 0), none⟩,
     ⟨some 4, .call (.func F.impl_inside) [(.tmp 3), (.const (.int .i64 (-999999))), (.const (.int .i64 (999999)))] [], none⟩,
     ⟨some 2, .mv (.tmp 4), none⟩] [2] []) <|
  .ret
theorem Cd.impl_isFactor_rs : Tryd.f161.results.toList = [.tmp 2] := rfl
theorem Cd.impl_isFactor_nt : Tryd.f161.ntmps = 5 := rfl
theorem Cd.impl_isFactor_ok : CodeIsR Tryd.prog 161 Tryd.f161 Cd.impl_isFactor := ⟨Tryd.func161, by kernel_rfl, by decide +kernel⟩
/-- loop.example/g01012/impl.digitList -/
def Cd.impl_digitList : ACode :=
  .seq (.region [⟨some 2, .mv (.const (.slice none 0 0)), none⟩] [0] []) <|
  .seq (.region [⟨some 3, .mv (.tmp 0), none⟩,
     ⟨some 4, .call (.func F.impl_absOf) [(.tmp 3)] [], none⟩,
     ⟨some 5, .call (.func F.impl_digitsOf) [(.tmp 4)] [], none⟩,
     ⟨some 6, .mv (.tmp 0), none⟩,
     ⟨some 7, .call (.func F.impl_absOf) [(.tmp 6)] [], none⟩,
     ⟨some 8, .call (.func F.impl_wheelsShow) [(.tmp 5), (.tmp 7)] [], none⟩,
     ⟨some 9, .field false 0 1 (.tmp 8), none⟩,
     ⟨some 2, .mv (.tmp 9), none⟩] [2] []) <|
  .ret
theorem Cd.impl_digitList_rs : Tryd.f162.results.toList = [.tmp 2] := rfl
theorem Cd.impl_digitList_nt : Tryd.f162.ntmps = 10 := rfl
theorem Cd.impl_digitList_ok : CodeIsR Tryd.prog 162 Tryd.f162 Cd.impl_digitList := ⟨Tryd.func162, by kernel_rfl, by decide +kernel⟩
/-- loop.example/g01012/impl.digitSum -/
def Cd.impl_digitSum : ACode :=
  .seq (.region [⟨some 2, .mv (.const (.int .i64 (0))), none⟩] [0] []) <|
  .seq (.region [⟨some 3, .mv (.const (.int .i64 (0))), none⟩] [0, 3] []) <|
  .seq (.seq (.region [⟨some 6, .mv (.tmp 0), none⟩,
      ⟨some 7, .call (.func F.impl_digitList) [(.tmp 6)] [], none⟩,
      ⟨some 8, .len (.tmp 7), none⟩,
      ⟨some 9, .mv (.const (.int .i64 (0))), none⟩] [3, 7, 8, 9] []) <|
   .block 0 (
     .loop (
       .seq (.region [⟨some 10, .bin .lss (.tmp 9) (.tmp 8), none⟩] [3, 7, 8, 9, 10] []) <|
       .seq (.cond (.tmp 10)
          (.skip)
          (.exit 0)) <|
       .seq (.block 1 (
          .seq (.region [⟨some 11, .idxSl 1 (.tmp 7) (.tmp 9), none⟩,
             ⟨some 12, .load false 1 (.tmp 11), none⟩,
             ⟨some 5, .mv (.tmp 12), none⟩] [3, 5, 7, 8, 9] []) <|
          .region [⟨some 13, .mv (.tmp 3), none⟩,
            ⟨some 14, .mv (.tmp 5), none⟩,
            ⟨some 15, .bin .add (.tmp 13) (.tmp 14), none⟩,
            ⟨some 3, .mv (.tmp 15), none⟩] [3, 7, 8, 9] [])) <|
       .region [⟨some 16, .bin .add (.tmp 9) (.const (.int .i64 (1))), none⟩,
         ⟨some 9, .mv (.tmp 16), none⟩] [3, 7, 8, 9] []))) <|
  .seq (.region [⟨some 17, .mv (.tmp 3), none⟩,
     ⟨some 2, .mv (.tmp 17), none⟩] [2] []) <|
  .ret
theorem Cd.impl_digitSum_rs : Tryd.f163.results.toList = [.tmp 2] := rfl
theorem Cd.impl_digitSum_nt : Tryd.f163.ntmps = 18 := rfl
theorem Cd.impl_digitSum_ok : CodeIsR Tryd.prog 163 Tryd.f163 Cd.impl_digitSum := ⟨Tryd.func163, by kernel_rfl, by decide +kernel⟩
/-- loop.example/g01012/impl.wheelsShow -/
def Cd.impl_wheelsShow : ACode :=
  .seq (.region [⟨some 4, .alloc [.v (.slice none 0 0)], none⟩] [0, 1, 4] []) <|
  .seq (.region [⟨some 6, .bslice 1 0 [.v (.int .i64 (0))] [], none⟩,
     ⟨some 7, .build [.v (.slice none 0 0)] [(0, 1, (.tmp 6))], none⟩,
     ⟨some 5, .alloc [.v (.slice none 0 0)], none⟩,
     ⟨none, .store 1 (.tmp 5) (.tmp 7), none⟩] [0, 1, 4, 5] []) <|
  .seq (.seq (.region [⟨some 8, .mv (.tmp 0), none⟩,
      ⟨some 9, .mv (.const (.int .i64 (0))), none⟩] [1, 4, 5, 8, 9] []) <|
   .block 0 (
     .loop (
       .seq (.region [⟨some 10, .bin .lss (.tmp 9) (.tmp 8), none⟩] [1, 4, 5, 8, 9, 10] []) <|
       .seq (.cond (.tmp 10)
          (.skip)
          (.exit 0)) <|
       .seq (.block 1 (
          .seq (.region [⟨some 11, .fieldAddr 0 (.tmp 5), none⟩,
             ⟨some 12, .load false 1 (.tmp 11), none⟩,
             ⟨some 13, .mv (.tmp 1), none⟩,
             ⟨some 14, .bin .rem (.tmp 13) (.const (.int .i64 (10))), none⟩,
             ⟨some 15, .bslice 1 1 [.v (.int .i64 (0))] [(0, (.tmp 14))], none⟩,
             ⟨some 16, .append 1 8 (.tmp 12) (.tmp 15), none⟩,
             ⟨some 17, .fieldAddr 0 (.tmp 5), none⟩,
             ⟨none, .store 1 (.tmp 17) (.tmp 16), none⟩] [1, 4, 5, 8, 9] []) <|
          .region [⟨some 18, .mv (.tmp 1), none⟩,
            ⟨some 19, .bin .quo (.tmp 18) (.const (.int .i64 (10))), none⟩,
            ⟨some 1, .mv (.tmp 19), none⟩] [1, 4, 5, 8, 9] [])) <|
       .region [⟨some 20, .bin .add (.tmp 9) (.const (.int .i64 (1))), none⟩,
         ⟨some 9, .mv (.tmp 20), none⟩] [1, 4, 5, 8, 9] []))) <|
  .seq (.region [⟨some 21, .load true 1 (.tmp 5), none⟩,
     ⟨none, .store 1 (.tmp 4) (.tmp 21), none⟩] [4] []) <|
  .ret
theorem Cd.impl_wheelsShow_rs : Tryd.f181.results.toList = [.cell 4 201] := rfl
theorem Cd.impl_wheelsShow_nt : Tryd.f181.ntmps = 22 := rfl
theorem Cd.impl_wheelsShow_ok : CodeIsR Tryd.prog 181 Tryd.f181 Cd.impl_wheelsShow := ⟨Tryd.func181, by kernel_rfl, by decide +kernel⟩
end Go.Proofs.YthpokkcbbpapdaaDoor
