/- The code of each function, resolved. -/
import Derived.Test.YthpokkcbbpapdaaDoorDtC
import Derived.Test.YthpokkcbbpapdaaDoorRows
namespace Go.Proofs.YthpokkcbbpapdaaDoor
open Go.Vs
set_option maxRecDepth 100000
theorem Tryd.own : ownKnob Tryd.prog.godebug = none := by kernel_rfl
theorem Tryd.laidOut : laidOutB Tryd.prog = true := by kernel_rfl
theorem Tryd.mixed : Tryd.prog.follows .mixedOrders = true := Tryd.checked.mixed
namespace F
abbrev main_main : FuncId := 0
abbrev gosem_cut : FuncId := 1
abbrev gosem_cut_init : FuncId := 2
abbrev laws_FnExactCyclesOfDeck : FuncId := 3
abbrev laws_FnExactCalculateCard : FuncId := 4
abbrev laws_FnExactCalculateDeck : FuncId := 5
abbrev laws_FnExactControlText : FuncId := 6
abbrev laws_FnExactFaultText : FuncId := 7
abbrev laws_FnExactSpecText : FuncId := 8
abbrev laws_FnExactTotalsText : FuncId := 9
abbrev laws_FnExactStepText : FuncId := 10
abbrev laws_FnExactReadControl : FuncId := 11
abbrev laws_szCardS : FuncId := 12
abbrev spec_CyclesOfDeck : FuncId := 13
abbrev laws_toCardS : FuncId := 14
abbrev laws_toField : FuncId := 15
abbrev impl_CyclesOfDeck : FuncId := 16
abbrev laws_eqCardS : FuncId := 17
abbrev laws_szCard : FuncId := 18
abbrev spec_CalculateCard : FuncId := 19
abbrev laws_toCard : FuncId := 20
abbrev impl_CalculateCard : FuncId := 21
abbrev laws_eqCard : FuncId := 22
abbrev laws_markCard : FuncId := 23
abbrev laws_heldCard : FuncId := 24
abbrev spec_CalculateDeck : FuncId := 25
abbrev impl_CalculateDeck : FuncId := 26
abbrev laws_markCardS : FuncId := 27
abbrev laws_heldCardS : FuncId := 28
abbrev spec_ControlText : FuncId := 29
abbrev laws_toControl : FuncId := 30
abbrev impl_ControlText : FuncId := 31
abbrev spec_FaultText : FuncId := 32
abbrev laws_toFault : FuncId := 33
abbrev impl_FaultText : FuncId := 34
abbrev laws_szSpec : FuncId := 35
abbrev spec_SpecText : FuncId := 36
abbrev laws_toSpec : FuncId := 37
abbrev impl_SpecText : FuncId := 38
abbrev laws_szTotalS : FuncId := 39
abbrev spec_TotalsText : FuncId := 40
abbrev laws_toTotalS : FuncId := 41
abbrev impl_TotalsText : FuncId := 42
abbrev laws_eqTotalS : FuncId := 43
abbrev laws_szStep : FuncId := 44
abbrev spec_StepText : FuncId := 45
abbrev laws_toStep : FuncId := 46
abbrev impl_StepText : FuncId := 47
abbrev spec_ReadControl : FuncId := 48
abbrev impl_ReadControl : FuncId := 49
abbrev laws_eqControl : FuncId := 50
abbrev spec_l02Deck : FuncId := 51
abbrev spec_l14Kind : FuncId := 52
abbrev spec_l14Fields : FuncId := 53
abbrev spec_l07Width : FuncId := 54
abbrev spec_l14Read : FuncId := 55
abbrev spec_l14Do : FuncId := 56
abbrev impl_ValidDeck : FuncId := 57
abbrev impl_calcCode : FuncId := 58
abbrev impl_deckColumns : FuncId := 59
abbrev impl_calculated : FuncId := 60
abbrev laws_szInt64S : FuncId := 61
abbrev spec_l02Ok : FuncId := 62
abbrev spec_l14Card : FuncId := 63
abbrev laws_toInt64S : FuncId := 64
abbrev impl_ValidCard : FuncId := 65
abbrev _impl_Card__columns : FuncId := 66
abbrev impl_calculatedCard : FuncId := 67
abbrev laws_eqInt64S : FuncId := 68
abbrev laws_markInt64S : FuncId := 69
abbrev laws_heldInt64S : FuncId := 70
abbrev spec_l18Ok : FuncId := 71
abbrev spec_l18Text : FuncId := 72
abbrev impl_isPlainControl : FuncId := 73
abbrev impl_Decimal : FuncId := 74
abbrev spec_l19Form : FuncId := 75
abbrev spec_l01Dec : FuncId := 76
abbrev impl_isFault : FuncId := 77
abbrev impl_inside : FuncId := 78
abbrev spec_l16Ok : FuncId := 79
abbrev spec_l16Text : FuncId := 80
abbrev impl_ValidSpec : FuncId := 81
abbrev impl_span : FuncId := 82
abbrev laws_szTotal : FuncId := 83
abbrev laws_toTotal : FuncId := 84
abbrev strings_Join : FuncId := 85
abbrev laws_eqTotal : FuncId := 86
abbrev spec_l15Step : FuncId := 87
abbrev spec_l15Both : FuncId := 88
abbrev spec_l15Field : FuncId := 89
abbrev impl_ValidStep : FuncId := 90
abbrev impl_takesTwo : FuncId := 91
abbrev spec_l01Split : FuncId := 92
abbrev spec_l01Number : FuncId := 93
abbrev strings_Split : FuncId := 94
abbrev impl_ReadDecimal : FuncId := 95
abbrev spec_l00In : FuncId := 96
abbrev spec_l02Field : FuncId := 97
abbrev spec_l03Number : FuncId := 98
abbrev spec_l02Part : FuncId := 99
abbrev spec_ProductBy : FuncId := 100
abbrev spec_QuotientBy : FuncId := 101
abbrev spec_l14Number : FuncId := 102
abbrev impl_isCalc : FuncId := 103
abbrev slices_ContainsFunc___impl_Field_impl_Field_ : FuncId := 104
abbrev impl_calcCode_1 : FuncId := 105
abbrev impl_isNumberField : FuncId := 106
abbrev impl_numberIn : FuncId := 107
abbrev impl_Calculate : FuncId := 108
abbrev spec_l03Put : FuncId := 109
abbrev spec_l02Own : FuncId := 110
abbrev slices_ContainsFunc___int64_int64_ : FuncId := 111
abbrev impl_ValidCard_1 : FuncId := 112
abbrev impl_size_int64_ : FuncId := 113
abbrev impl_digitsOf : FuncId := 114
abbrev impl_absOf : FuncId := 115
abbrev impl_calculatedCard_1 : FuncId := 116
abbrev impl_punchNumber : FuncId := 117
abbrev strconv_FormatInt : FuncId := 118
abbrev spec_l09Text : FuncId := 119
abbrev impl_isField : FuncId := 120
abbrev impl_areCharacters : FuncId := 121
abbrev __strings_Builder__Grow : FuncId := 122
abbrev __strings_Builder__WriteString : FuncId := 123
abbrev __strings_Builder__String : FuncId := 124
abbrev spec_l15Tray : FuncId := 125
abbrev impl_isTray : FuncId := 126
abbrev spec_l01Digit : FuncId := 127
abbrev strings_genSplit : FuncId := 128
abbrev strconv_ParseInt : FuncId := 129
abbrev strings_TrimPrefix : FuncId := 130
abbrev spec_l03Digit : FuncId := 131
abbrev spec_l14Factor : FuncId := 132
abbrev spec_l14Times : FuncId := 133
abbrev spec_l14Size : FuncId := 134
abbrev spec_l14Divide : FuncId := 135
abbrev slices_IndexFunc___impl_Field_impl_Field_ : FuncId := 136
abbrev impl_copyInts : FuncId := 137
abbrev impl_numberIn_1 : FuncId := 138
abbrev impl_bitOf : FuncId := 139
abbrev impl_digitOf : FuncId := 140
abbrev impl_isNumber : FuncId := 141
abbrev impl_ProductBy : FuncId := 142
abbrev impl_QuotientBy : FuncId := 143
abbrev spec_l02Bit : FuncId := 144
abbrev spec_l00Own : FuncId := 145
abbrev slices_IndexFunc___int64_int64_ : FuncId := 146
abbrev impl_newCard : FuncId := 147
abbrev internal_strconv_FormatInt : FuncId := 148
abbrev spec_l03Code : FuncId := 149
abbrev impl_isCharacter : FuncId := 150
abbrev __strings_Builder__copyCheck : FuncId := 151
abbrev __strings_Builder__grow : FuncId := 152
abbrev strings_explode : FuncId := 153
abbrev strings_Count : FuncId := 154
abbrev strings_Index : FuncId := 155
abbrev internal_strconv_ParseInt : FuncId := 156
abbrev strconv_toError : FuncId := 157
abbrev internal_stringslite_TrimPrefix : FuncId := 158
abbrev spec_l14Parts : FuncId := 159
abbrev spec_l00Max : FuncId := 160
abbrev impl_isFactor : FuncId := 161
abbrev impl_digitList : FuncId := 162
abbrev impl_digitSum : FuncId := 163
abbrev internal_strconv_small : FuncId := 164
abbrev internal_strconv_numDigits : FuncId := 165
abbrev internal_strconv_formatBase10 : FuncId := 166
abbrev internal_strconv_formatBits : FuncId := 167
abbrev strings_IndexByte : FuncId := 168
abbrev internal_abi_NoEscape : FuncId := 169
abbrev internal_bytealg_MakeNoZero : FuncId := 170
abbrev unicode_utf8_RuneCountInString : FuncId := 171
abbrev unicode_utf8_DecodeRuneInString : FuncId := 172
abbrev internal_bytealg_CountString : FuncId := 173
abbrev internal_stringslite_Index : FuncId := 174
abbrev internal_strconv_ParseUint : FuncId := 175
abbrev strconv_syntaxError : FuncId := 176
abbrev strconv_rangeError : FuncId := 177
abbrev strconv_baseError : FuncId := 178
abbrev strconv_bitSizeError : FuncId := 179
abbrev internal_stringslite_HasPrefix : FuncId := 180
abbrev impl_wheelsShow : FuncId := 181
abbrev internal_strconv_log10Pow2 : FuncId := 182
abbrev math_bits_Len64 : FuncId := 183
abbrev internal_strconv_bool2_int_ : FuncId := 184
abbrev internal_strconv_isPowerOfTwo : FuncId := 185
abbrev math_bits_TrailingZeros : FuncId := 186
abbrev internal_stringslite_IndexByte : FuncId := 187
abbrev unicode_utf8_decodeRuneInStringSlow : FuncId := 188
abbrev internal_bytealg_IndexString : FuncId := 189
abbrev internal_bytealg_Cutover : FuncId := 190
abbrev internal_bytealg_IndexRabinKarp_string_ : FuncId := 191
abbrev internal_strconv_lower : FuncId := 192
abbrev internal_strconv_underscoreOK : FuncId := 193
abbrev internal_stringslite_Clone : FuncId := 194
abbrev errors_New : FuncId := 195
abbrev strconv_Itoa : FuncId := 196
abbrev math_bits_TrailingZeros32 : FuncId := 197
abbrev math_bits_TrailingZeros64 : FuncId := 198
abbrev internal_bytealg_IndexByteString : FuncId := 199
abbrev internal_bytealg_hashStr_string_ : FuncId := 200
abbrev internal_strconv_Itoa : FuncId := 201
abbrev _runtime_boundsError__Error : FuncId := 202
abbrev _runtime_boundsError__RuntimeError : FuncId := 203
abbrev _runtime_errorString__Error : FuncId := 204
abbrev _runtime_errorString__RuntimeError : FuncId := 205
abbrev _runtime_plainError__Error : FuncId := 206
abbrev _runtime_plainError__RuntimeError : FuncId := 207
abbrev _runtime_errorAddressString__Error : FuncId := 208
abbrev _runtime_errorAddressString__RuntimeError : FuncId := 209
abbrev __runtime_TypeAssertionError__Error : FuncId := 210
abbrev __runtime_TypeAssertionError__RuntimeError : FuncId := 211
abbrev __runtime_PanicNilError__Error : FuncId := 212
abbrev __runtime_PanicNilError__RuntimeError : FuncId := 213
abbrev __internal_abi_Type__Align : FuncId := 214
abbrev _internal_runtime_maps_unhashableTypeError__Error : FuncId := 215
abbrev _internal_runtime_maps_unhashableTypeError__RuntimeError : FuncId := 216
abbrev _impl_Control__plus : FuncId := 217
abbrev __strings_Builder__Reset : FuncId := 218
abbrev _internal_strconv_Error__Error : FuncId := 219
abbrev __strconv_NumError__Error : FuncId := 220
abbrev __errors_errorString__Error : FuncId := 221
abbrev _internal_abi_Kind__String : FuncId := 222
abbrev var_s_door__gosem_cut_vars_holds_initialisers_alone__see_the_manifest_s_row_cutvarsword__look_11__test_files_too_ : FuncId := 223
abbrev var_s_door__internal_strconv_uint64pow10_is_laid_by_its_own_initialiser__plain_data__look_11_ : FuncId := 224
abbrev var_s_door__math_bits_deBruijn32tab_is_laid_by_its_own_initialiser__plain_data__look_11_ : FuncId := 225
abbrev var_s_door__math_bits_deBruijn64tab_is_laid_by_its_own_initialiser__plain_data__look_11_ : FuncId := 226
abbrev var_s_door__strconv_ErrRange_is_laid_by_its_own_call_of_errors_New_on_one_literal__look_11_ : FuncId := 227
abbrev var_s_door__strconv_ErrSyntax_is_laid_by_its_own_call_of_errors_New_on_one_literal__look_11_ : FuncId := 228
abbrev var_s_door__the_look_of_gosem_cut_vars_went_over_the_folder_that_the_caller_named_as_the_repository_s_root__look_11_ : FuncId := 229
abbrev var_s_door__unicode_utf8_acceptRanges_is_laid_by_its_own_initialiser__plain_data__look_11_ : FuncId := 230
abbrev var_s_door__unicode_utf8_first_is_laid_by_its_text_alone__pinned_1_ : FuncId := 231
abbrev gosem_cut_vars : FuncId := 232
end F
theorem Ld.t30 : ldOf Tryd.prog 30 = some (true, 2) := by kernel_rfl
theorem Ld.t38 : ldOf Tryd.prog 38 = some (true, 1) := by kernel_rfl
theorem Ld.t52 : ldOf Tryd.prog 52 = some (true, 3) := by kernel_rfl
theorem Ld.t58 : ldOf Tryd.prog 58 = some (true, 4) := by kernel_rfl
theorem Ld.t66 : ldOf Tryd.prog 66 = some (true, 7) := by kernel_rfl
theorem Ld.t81 : ldOf Tryd.prog 81 = some (true, 9) := by kernel_rfl
theorem Ld.t120 : ldOf Tryd.prog 120 = some (true, 2) := by kernel_rfl
theorem Ld.t201 : ldOf Tryd.prog 201 = some (true, 1) := by kernel_rfl
attribute [go_sem] Ld.t30 Ld.t38 Ld.t52 Ld.t58 Ld.t66 Ld.t81 Ld.t120 Ld.t201
/-- loop.example/g01012/laws.FnExactSpecText -/
def Cd.laws_FnExactSpecText : ACode :=
  .seq (.region [⟨some 1, .box (.tmp 0), none⟩,
     ⟨some 2, .mv (.const (.bool false)), none⟩] [1] []) <|
  .seq (.region [⟨some 3, .mv (.const (.int .i64 (1048576))), none⟩] [1, 3] []) <|
  .seq (.region [⟨some 6, .load true 7 (.tmp 1), none⟩,
     ⟨some 7, .mv (.tmp 3), none⟩,
     ⟨some 8, .call (.func F.laws_szSpec) [(.tmp 6), (.tmp 7)] [], none⟩,
     ⟨some 3, .mv (.tmp 8), none⟩] [1, 3] []) <|
  .seq (.seq (.region [⟨some 9, .mv (.tmp 3), none⟩,
      ⟨some 10, .bin .lss (.tmp 9) (.const (.int .i64 (0))), none⟩] [1, 10] []) <|
   .cond (.tmp 10)
     (.seq (.region [⟨some 2, .mv (.const (.bool true)), none⟩] [2] []) <|
     .ret)
     (.skip)) <|
  .seq (.region [⟨some 11, .load true 7 (.tmp 1), none⟩,
     ⟨some 12, .call (.func F.laws_toSpec) [(.tmp 11)] [], none⟩,
     ⟨some 13, .call (.func F.spec_SpecText) [(.tmp 12)] [], none⟩,
     ⟨some 4, .mv (.tmp 13), none⟩] [1, 4] []) <|
  .seq (.region [⟨some 14, .load true 7 (.tmp 1), none⟩,
     ⟨some 15, .call (.func F.laws_toSpec) [(.tmp 14)] [], none⟩,
     ⟨some 16, .call (.func F.impl_SpecText) [(.tmp 15)] [], none⟩,
     ⟨some 5, .mv (.tmp 16), none⟩] [4, 5] []) <|
  .seq (.seq (.region [⟨some 17, .mv (.tmp 5), none⟩,
      ⟨some 18, .mv (.tmp 4), none⟩,
      ⟨some 19, .binS .neq (.tmp 17) (.tmp 18), none⟩] [19] []) <|
   .cond (.tmp 19)
     (.seq (.region [⟨some 2, .mv (.const (.bool false)), none⟩] [2] []) <|
     .ret)
     (.skip)) <|
  .seq (.region [⟨some 2, .mv (.const (.bool true)), none⟩] [2] []) <|
  .ret
theorem Cd.laws_FnExactSpecText_rs : Tryd.f8.results.toList = [.tmp 2] := rfl
theorem Cd.laws_FnExactSpecText_nt : Tryd.f8.ntmps = 20 := rfl
theorem Cd.laws_FnExactSpecText_ok : CodeIsR Tryd.prog 8 Tryd.f8 Cd.laws_FnExactSpecText := ⟨Tryd.func8, by kernel_rfl, by decide +kernel⟩
/-- loop.example/g01012/laws.FnExactTotalsText -/
def Cd.laws_FnExactTotalsText : ACode :=
  .seq (.region [⟨some 2, .mv (.const (.bool false)), none⟩] [0] []) <|
  .seq (.region [⟨some 3, .mv (.const (.int .i64 (1048576))), none⟩] [0, 3] []) <|
  .seq (.region [⟨some 7, .mv (.tmp 0), none⟩,
     ⟨some 8, .mv (.tmp 3), none⟩,
     ⟨some 9, .call (.func F.laws_szTotalS) [(.tmp 7), (.tmp 8)] [], none⟩,
     ⟨some 3, .mv (.tmp 9), none⟩] [0, 3] []) <|
  .seq (.seq (.region [⟨some 10, .mv (.tmp 3), none⟩,
      ⟨some 11, .bin .lss (.tmp 10) (.const (.int .i64 (0))), none⟩] [0, 11] []) <|
   .cond (.tmp 11)
     (.seq (.region [⟨some 2, .mv (.const (.bool true)), none⟩] [2] []) <|
     .ret)
     (.skip)) <|
  .seq (.region [⟨some 12, .mv (.tmp 0), none⟩,
     ⟨some 13, .call (.func F.laws_toTotalS) [(.tmp 12)] [], none⟩,
     ⟨some 14, .call (.func F.spec_TotalsText) [(.tmp 13)] [], none⟩,
     ⟨some 4, .mv (.tmp 14), none⟩] [0, 4] []) <|
  .seq (.region [⟨some 15, .mv (.tmp 0), none⟩,
     ⟨some 16, .call (.func F.laws_toTotalS) [(.tmp 15)] [], none⟩,
     ⟨some 5, .mv (.tmp 16), none⟩] [0, 4, 5] []) <|
  .seq (.region [⟨some 17, .mv (.tmp 5), none⟩,
     ⟨some 18, .call (.func F.impl_TotalsText) [(.tmp 17)] [], none⟩,
     ⟨some 6, .mv (.tmp 18), none⟩] [0, 4, 5, 6] []) <|
  .seq (.seq (.region [⟨some 19, .mv (.tmp 6), none⟩,
      ⟨some 20, .mv (.tmp 4), none⟩,
      ⟨some 21, .binS .neq (.tmp 19) (.tmp 20), none⟩] [0, 5, 21] []) <|
   .cond (.tmp 21)
     (.seq (.region [⟨some 2, .mv (.const (.bool false)), none⟩] [2] []) <|
     .ret)
     (.skip)) <|
  .seq (.seq (.region [⟨some 22, .mv (.tmp 5), none⟩,
      ⟨some 23, .mv (.tmp 0), none⟩,
      ⟨some 24, .call (.func F.laws_toTotalS) [(.tmp 23)] [], none⟩,
      ⟨some 25, .call (.func F.laws_eqTotalS) [(.tmp 22), (.tmp 24)] [], none⟩,
      ⟨some 26, .un .not (.tmp 25), none⟩] [26] []) <|
   .cond (.tmp 26)
     (.seq (.region [⟨some 2, .mv (.const (.bool false)), none⟩] [2] []) <|
     .ret)
     (.skip)) <|
  .seq (.region [⟨some 2, .mv (.const (.bool true)), none⟩] [2] []) <|
  .ret
theorem Cd.laws_FnExactTotalsText_rs : Tryd.f9.results.toList = [.tmp 2] := rfl
theorem Cd.laws_FnExactTotalsText_nt : Tryd.f9.ntmps = 27 := rfl
theorem Cd.laws_FnExactTotalsText_ok : CodeIsR Tryd.prog 9 Tryd.f9 Cd.laws_FnExactTotalsText := ⟨Tryd.func9, by kernel_rfl, by decide +kernel⟩
/-- loop.example/g01012/laws.szCardS -/
def Cd.laws_szCardS : ACode :=
  .seq (.region [⟨some 4, .mv (.const (.int .i64 (0))), none⟩] [0, 1] []) <|
  .seq (.region [⟨some 6, .mv (.tmp 1), none⟩,
     ⟨some 7, .mv (.tmp 0), none⟩,
     ⟨some 8, .len (.tmp 7), none⟩,
     ⟨some 9, .bin .sub (.tmp 6) (.tmp 8), none⟩,
     ⟨some 1, .mv (.tmp 9), none⟩] [0, 1] []) <|
  .seq (.seq (.region [⟨some 10, .mv (.tmp 1), none⟩,
      ⟨some 11, .bin .lss (.tmp 10) (.const (.int .i64 (0))), none⟩] [0, 1, 11] []) <|
   .cond (.tmp 11)
     (.seq (.region [⟨some 4, .mv (.const (.int .i64 (-1))), none⟩] [4] []) <|
     .ret)
     (.skip)) <|
  .seq (.seq (.region [⟨some 5, .mv (.const (.int .i64 (0))), none⟩] [0, 1, 5] []) <|
   .block 0 (
     .loop (
       .seq (.seq (.region [⟨some 12, .mv (.tmp 5), none⟩,
           ⟨some 13, .mv (.tmp 0), none⟩,
           ⟨some 14, .len (.tmp 13), none⟩,
           ⟨some 15, .bin .lss (.tmp 12) (.tmp 14), none⟩] [0, 1, 5, 15] []) <|
        .cond (.tmp 15)
          (.skip)
          (.exit 0)) <|
       .seq (.block 1 (
          .seq (.region [⟨some 18, .mv (.tmp 0), none⟩,
             ⟨some 19, .mv (.tmp 5), none⟩,
             ⟨some 20, .idxSl 1 (.tmp 18) (.tmp 19), none⟩,
             ⟨some 21, .load true 1 (.tmp 20), none⟩,
             ⟨some 22, .mv (.tmp 1), none⟩,
             ⟨some 23, .call (.func F.laws_szCard) [(.tmp 21), (.tmp 22)] [], none⟩,
             ⟨some 1, .mv (.tmp 23), none⟩] [0, 1, 5] []) <|
          .seq (.region [⟨some 24, .mv (.tmp 1), none⟩,
             ⟨some 25, .bin .lss (.tmp 24) (.const (.int .i64 (0))), none⟩] [0, 1, 5, 25] []) <|
          .cond (.tmp 25)
            (.seq (.region [⟨some 4, .mv (.const (.int .i64 (-1))), none⟩] [4] []) <|
            .ret)
            (.skip))) <|
       .region [⟨some 16, .mv (.tmp 5), none⟩,
         ⟨some 17, .bin .add (.tmp 16) (.const (.int .i64 (1))), none⟩,
         ⟨some 5, .mv (.tmp 17), none⟩] [0, 1, 5] []))) <|
  .seq (.region [⟨some 26, .mv (.tmp 1), none⟩,
     ⟨some 4, .mv (.tmp 26), none⟩] [4] []) <|
  .ret
theorem Cd.laws_szCardS_rs : Tryd.f12.results.toList = [.tmp 4] := rfl
theorem Cd.laws_szCardS_nt : Tryd.f12.ntmps = 27 := rfl
theorem Cd.laws_szCardS_ok : CodeIsR Tryd.prog 12 Tryd.f12 Cd.laws_szCardS := ⟨Tryd.func12, by kernel_rfl, by decide +kernel⟩
/-- loop.example/g01012/laws.toCardS -/
def Cd.laws_toCardS : ACode :=
  .seq (.region [⟨some 2, .mv (.const (.slice none 0 0)), none⟩] [0] []) <|
  .seq (.region [⟨some 5, .mv (.tmp 0), none⟩,
     ⟨some 6, .len (.tmp 5), none⟩,
     ⟨some 7, .mk 1 24 [.v (.slice none 0 0)] (.tmp 6), none⟩,
     ⟨some 3, .mv (.tmp 7), none⟩] [0, 3] []) <|
  .seq (.seq (.region [⟨some 4, .mv (.const (.int .i64 (0))), none⟩] [0, 3, 4] []) <|
   .block 0 (
     .loop (
       .seq (.seq (.region [⟨some 8, .mv (.tmp 4), none⟩,
           ⟨some 9, .mv (.tmp 0), none⟩,
           ⟨some 10, .len (.tmp 9), none⟩,
           ⟨some 11, .bin .lss (.tmp 8) (.tmp 10), none⟩] [0, 3, 4, 11] []) <|
        .cond (.tmp 11)
          (.skip)
          (.exit 0)) <|
       .seq (.block 1 (
          .region [⟨some 14, .mv (.tmp 3), none⟩,
            ⟨some 15, .mv (.tmp 4), none⟩,
            ⟨some 16, .mv (.tmp 0), none⟩,
            ⟨some 17, .mv (.tmp 4), none⟩,
            ⟨some 18, .idxSl 1 (.tmp 16) (.tmp 17), none⟩,
            ⟨some 19, .load true 1 (.tmp 18), none⟩,
            ⟨some 20, .call (.func F.laws_toCard) [(.tmp 19)] [], none⟩,
            ⟨some 21, .idxSl 1 (.tmp 14) (.tmp 15), none⟩,
            ⟨none, .store 1 (.tmp 21) (.tmp 20), none⟩] [0, 3, 4] [])) <|
       .region [⟨some 12, .mv (.tmp 4), none⟩,
         ⟨some 13, .bin .add (.tmp 12) (.const (.int .i64 (1))), none⟩,
         ⟨some 4, .mv (.tmp 13), none⟩] [0, 3, 4] []))) <|
  .seq (.region [⟨some 22, .mv (.tmp 3), none⟩,
     ⟨some 2, .mv (.tmp 22), none⟩] [2] []) <|
  .ret
theorem Cd.laws_toCardS_rs : Tryd.f14.results.toList = [.tmp 2] := rfl
theorem Cd.laws_toCardS_nt : Tryd.f14.ntmps = 23 := rfl
theorem Cd.laws_toCardS_ok : CodeIsR Tryd.prog 14 Tryd.f14 Cd.laws_toCardS := ⟨Tryd.func14, by kernel_rfl, by decide +kernel⟩
/-- loop.example/g01012/laws.toField -/
def Cd.laws_toField : ACode :=
  .seq (.region [⟨some 1, .box (.tmp 0), none⟩,
     ⟨some 2, .alloc [.v (.int .i64 (0)), .v (.int .i64 (0))], none⟩] [1, 2] []) <|
  .seq (.region [⟨some 3, .alloc [.v (.int .i64 (0)), .v (.int .i64 (0))], none⟩] [1, 2, 3] []) <|
  .seq (.region [⟨some 4, .fieldAddr 0 (.tmp 1), none⟩,
     ⟨some 5, .load false 1 (.tmp 4), none⟩,
     ⟨some 6, .fieldAddr 0 (.tmp 3), none⟩,
     ⟨none, .store 1 (.tmp 6) (.tmp 5), none⟩] [1, 2, 3] []) <|
  .seq (.region [⟨some 7, .fieldAddr 1 (.tmp 1), none⟩,
     ⟨some 8, .load false 1 (.tmp 7), none⟩,
     ⟨some 9, .fieldAddr 1 (.tmp 3), none⟩,
     ⟨none, .store 1 (.tmp 9) (.tmp 8), none⟩] [2, 3] []) <|
  .seq (.region [⟨some 10, .load true 2 (.tmp 3), none⟩,
     ⟨none, .store 2 (.tmp 2) (.tmp 10), none⟩] [2] []) <|
  .ret
theorem Cd.laws_toField_rs : Tryd.f15.results.toList = [.cell 2 30] := rfl
theorem Cd.laws_toField_nt : Tryd.f15.ntmps = 11 := rfl
theorem Cd.laws_toField_ok : CodeIsR Tryd.prog 15 Tryd.f15 Cd.laws_toField := ⟨Tryd.func15, by kernel_rfl, by decide +kernel⟩
/-- loop.example/g01012/laws.eqCardS DRAWS -/
def Cd.laws_eqCardS : ACode :=
  .seq (.region [⟨some 4, .mv (.const (.bool false)), none⟩] [0, 1] []) <|
  .seq (.seq (.region [⟨some 6, .mv (.tmp 0), none⟩,
      ⟨some 7, .len (.tmp 6), none⟩,
      ⟨some 8, .mv (.tmp 1), none⟩,
      ⟨some 9, .len (.tmp 8), none⟩,
      ⟨some 10, .bin .neq (.tmp 7) (.tmp 9), none⟩] [0, 1, 10] []) <|
   .cond (.tmp 10)
     (.seq (.region [⟨some 4, .mv (.const (.bool false)), none⟩] [4] []) <|
     .ret)
     (.skip)) <|
  .seq (.seq (.region [⟨some 5, .mv (.const (.int .i64 (0))), none⟩] [0, 1, 5] []) <|
   .block 0 (
     .loop (
       .seq (.seq (.region [⟨some 11, .mv (.tmp 5), none⟩,
           ⟨some 12, .mv (.tmp 0), none⟩,
           ⟨some 13, .len (.tmp 12), none⟩,
           ⟨some 14, .bin .lss (.tmp 11) (.tmp 13), none⟩] [0, 1, 5, 14] []) <|
        .cond (.tmp 14)
          (.skip)
          (.exit 0)) <|
       .seq (.block 1 (
          .seq (.region [⟨some 17, .mv (.tmp 0), none⟩,
             ⟨some 18, .mv (.tmp 5), none⟩,
             ⟨some 19, .idxSl 1 (.tmp 17) (.tmp 18), none⟩,
             ⟨some 20, .load true 1 (.tmp 19), none⟩,
             ⟨some 21, .mv (.tmp 1), none⟩,
             ⟨some 22, .mv (.tmp 5), none⟩,
             ⟨some 23, .idxSl 1 (.tmp 21) (.tmp 22), none⟩,
             ⟨some 24, .load true 1 (.tmp 23), none⟩,
             ⟨some 25, .call (.func F.laws_eqCard) [(.tmp 20), (.tmp 24)] [], none⟩,
             ⟨some 26, .un .not (.tmp 25), none⟩] [0, 1, 5, 26] [17, 18, 20, 21, 19, 22, 23, 24, 25, 26]) <|
          .cond (.tmp 26)
            (.seq (.region [⟨some 4, .mv (.const (.bool false)), none⟩] [4] []) <|
            .ret)
            (.skip))) <|
       .region [⟨some 15, .mv (.tmp 5), none⟩,
         ⟨some 16, .bin .add (.tmp 15) (.const (.int .i64 (1))), none⟩,
         ⟨some 5, .mv (.tmp 16), none⟩] [0, 1, 5] []))) <|
  .seq (.region [⟨some 4, .mv (.const (.bool true)), none⟩] [4] []) <|
  .ret
theorem Cd.laws_eqCardS_rs : Tryd.f17.results.toList = [.tmp 4] := rfl
theorem Cd.laws_eqCardS_nt : Tryd.f17.ntmps = 27 := rfl
theorem Cd.laws_eqCardS_ok : CodeIsR Tryd.prog 17 Tryd.f17 Cd.laws_eqCardS := ⟨Tryd.func17, by kernel_rfl, by decide +kernel⟩
/-- loop.example/g01012/laws.szCard -/
def Cd.laws_szCard : ACode :=
  .seq (.region [⟨some 2, .box (.tmp 0), none⟩,
     ⟨some 4, .mv (.const (.int .i64 (0))), none⟩] [1, 2] []) <|
  .seq (.region [⟨some 5, .fieldAddr 0 (.tmp 2), none⟩,
     ⟨some 6, .load false 1 (.tmp 5), none⟩,
     ⟨some 7, .mv (.tmp 1), none⟩,
     ⟨some 8, .call (.func F.laws_szInt64S) [(.tmp 6), (.tmp 7)] [], none⟩,
     ⟨some 1, .mv (.tmp 8), none⟩] [1] []) <|
  .seq (.seq (.region [⟨some 9, .mv (.tmp 1), none⟩,
      ⟨some 10, .bin .lss (.tmp 9) (.const (.int .i64 (0))), none⟩] [1, 10] []) <|
   .cond (.tmp 10)
     (.seq (.region [⟨some 4, .mv (.const (.int .i64 (-1))), none⟩] [4] []) <|
     .ret)
     (.skip)) <|
  .seq (.region [⟨some 11, .mv (.tmp 1), none⟩,
     ⟨some 4, .mv (.tmp 11), none⟩] [4] []) <|
  .ret
theorem Cd.laws_szCard_rs : Tryd.f18.results.toList = [.tmp 4] := rfl
theorem Cd.laws_szCard_nt : Tryd.f18.ntmps = 12 := rfl
theorem Cd.laws_szCard_ok : CodeIsR Tryd.prog 18 Tryd.f18 Cd.laws_szCard := ⟨Tryd.func18, by kernel_rfl, by decide +kernel⟩
/-- loop.example/g01012/laws.toCard -/
def Cd.laws_toCard : ACode :=
  .seq (.region [⟨some 1, .box (.tmp 0), none⟩,
     ⟨some 2, .alloc [.v (.slice none 0 0)], none⟩] [1, 2] []) <|
  .seq (.region [⟨some 3, .alloc [.v (.slice none 0 0)], none⟩] [1, 2, 3] []) <|
  .seq (.region [⟨some 4, .fieldAddr 0 (.tmp 1), none⟩,
     ⟨some 5, .load false 1 (.tmp 4), none⟩,
     ⟨some 6, .call (.func F.laws_toInt64S) [(.tmp 5)] [], none⟩,
     ⟨some 7, .fieldAddr 0 (.tmp 3), none⟩,
     ⟨none, .store 1 (.tmp 7) (.tmp 6), none⟩] [2, 3] []) <|
  .seq (.region [⟨some 8, .load true 1 (.tmp 3), none⟩,
     ⟨none, .store 1 (.tmp 2) (.tmp 8), none⟩] [2] []) <|
  .ret
theorem Cd.laws_toCard_rs : Tryd.f20.results.toList = [.cell 2 38] := rfl
theorem Cd.laws_toCard_nt : Tryd.f20.ntmps = 9 := rfl
theorem Cd.laws_toCard_ok : CodeIsR Tryd.prog 20 Tryd.f20 Cd.laws_toCard := ⟨Tryd.func20, by kernel_rfl, by decide +kernel⟩
/-- loop.example/g01012/laws.eqCard -/
def Cd.laws_eqCard : ACode :=
  .seq (.region [⟨some 2, .box (.tmp 0), none⟩,
     ⟨some 3, .box (.tmp 1), none⟩,
     ⟨some 4, .mv (.const (.bool false)), none⟩] [2, 3] []) <|
  .seq (.seq (.region [⟨some 5, .fieldAddr 0 (.tmp 2), none⟩,
      ⟨some 6, .load false 1 (.tmp 5), none⟩,
      ⟨some 7, .fieldAddr 0 (.tmp 3), none⟩,
      ⟨some 8, .load false 1 (.tmp 7), none⟩,
      ⟨some 9, .call (.func F.laws_eqInt64S) [(.tmp 6), (.tmp 8)] [], none⟩,
      ⟨some 10, .un .not (.tmp 9), none⟩] [10] []) <|
   .cond (.tmp 10)
     (.seq (.region [⟨some 4, .mv (.const (.bool false)), none⟩] [4] []) <|
     .ret)
     (.skip)) <|
  .seq (.region [⟨some 4, .mv (.const (.bool true)), none⟩] [4] []) <|
  .ret
theorem Cd.laws_eqCard_rs : Tryd.f22.results.toList = [.tmp 4] := rfl
theorem Cd.laws_eqCard_nt : Tryd.f22.ntmps = 11 := rfl
theorem Cd.laws_eqCard_ok : CodeIsR Tryd.prog 22 Tryd.f22 Cd.laws_eqCard := ⟨Tryd.func22, by kernel_rfl, by decide +kernel⟩
/-- loop.example/g01012/laws.toControl -/
def Cd.laws_toControl : ACode :=
  .seq (.region [⟨some 1, .box (.tmp 0), none⟩,
     ⟨some 2, .alloc [.v (.int .i64 (0)), .v (.int .i64 (0)), .v (.int .i64 (0))], none⟩] [1, 2] []) <|
  .seq (.region [⟨some 3, .alloc [.v (.int .i64 (0)), .v (.int .i64 (0)), .v (.int .i64 (0))], none⟩] [1, 2, 3] []) <|
  .seq (.region [⟨some 4, .fieldAddr 0 (.tmp 1), none⟩,
     ⟨some 5, .load false 1 (.tmp 4), none⟩,
     ⟨some 6, .fieldAddr 0 (.tmp 3), none⟩,
     ⟨none, .store 1 (.tmp 6) (.tmp 5), none⟩] [1, 2, 3] []) <|
  .seq (.region [⟨some 7, .fieldAddr 1 (.tmp 1), none⟩,
     ⟨some 8, .load false 1 (.tmp 7), none⟩,
     ⟨some 9, .fieldAddr 1 (.tmp 3), none⟩,
     ⟨none, .store 1 (.tmp 9) (.tmp 8), none⟩] [1, 2, 3] []) <|
  .seq (.region [⟨some 10, .fieldAddr 2 (.tmp 1), none⟩,
     ⟨some 11, .load false 1 (.tmp 10), none⟩,
     ⟨some 12, .fieldAddr 2 (.tmp 3), none⟩,
     ⟨none, .store 1 (.tmp 12) (.tmp 11), none⟩] [2, 3] []) <|
  .seq (.region [⟨some 13, .load true 3 (.tmp 3), none⟩,
     ⟨none, .store 3 (.tmp 2) (.tmp 13), none⟩] [2] []) <|
  .ret
theorem Cd.laws_toControl_rs : Tryd.f30.results.toList = [.cell 2 52] := rfl
theorem Cd.laws_toControl_nt : Tryd.f30.ntmps = 14 := rfl
theorem Cd.laws_toControl_ok : CodeIsR Tryd.prog 30 Tryd.f30 Cd.laws_toControl := ⟨Tryd.func30, by kernel_rfl, by decide +kernel⟩
/-- loop.example/g01012/laws.szSpec -/
def Cd.laws_szSpec : ACode :=
  .seq (.region [⟨some 2, .box (.tmp 0), none⟩,
     ⟨some 4, .mv (.const (.int .i64 (0))), none⟩] [1, 2] []) <|
  .seq (.region [⟨some 5, .mv (.tmp 1), none⟩,
     ⟨some 6, .fieldAddr 2 (.tmp 2), none⟩,
     ⟨some 7, .load false 1 (.tmp 6), none⟩,
     ⟨some 8, .lenS (.tmp 7), none⟩,
     ⟨some 9, .bin .sub (.tmp 5) (.tmp 8), none⟩,
     ⟨some 1, .mv (.tmp 9), none⟩] [1] []) <|
  .seq (.seq (.region [⟨some 10, .mv (.tmp 1), none⟩,
      ⟨some 11, .bin .lss (.tmp 10) (.const (.int .i64 (0))), none⟩] [1, 11] []) <|
   .cond (.tmp 11)
     (.seq (.region [⟨some 4, .mv (.const (.int .i64 (-1))), none⟩] [4] []) <|
     .ret)
     (.skip)) <|
  .seq (.region [⟨some 12, .mv (.tmp 1), none⟩,
     ⟨some 4, .mv (.tmp 12), none⟩] [4] []) <|
  .ret
theorem Cd.laws_szSpec_rs : Tryd.f35.results.toList = [.tmp 4] := rfl
theorem Cd.laws_szSpec_nt : Tryd.f35.ntmps = 13 := rfl
theorem Cd.laws_szSpec_ok : CodeIsR Tryd.prog 35 Tryd.f35 Cd.laws_szSpec := ⟨Tryd.func35, by kernel_rfl, by decide +kernel⟩
/-- loop.example/g01012/spec.SpecText -/
def Cd.spec_SpecText : ACode :=
  .seq (.region [⟨some 1, .box (.tmp 0), none⟩,
     ⟨some 2, .mv (.const (.string ⟨#[]⟩)), none⟩] [1] []) <|
  .seq (.seq (.region [⟨some 3, .call (.func F.spec_l16Ok) [(.tmp 1), (.const (.int .i64 (20)))] [], none⟩,
      ⟨some 4, .un .not (.tmp 3), none⟩] [1, 4] []) <|
   .cond (.tmp 4)
     (.seq (.region [⟨some 2, .mv (.const (.string ⟨#[]⟩)), none⟩] [2] []) <|
     .ret)
     (.skip)) <|
  .seq (.region [⟨some 5, .call (.func F.spec_l16Text) [(.tmp 1)] [], none⟩,
     ⟨some 2, .mv (.tmp 5), none⟩] [2] []) <|
  .ret
theorem Cd.spec_SpecText_rs : Tryd.f36.results.toList = [.tmp 2] := rfl
theorem Cd.spec_SpecText_nt : Tryd.f36.ntmps = 6 := rfl
theorem Cd.spec_SpecText_ok : CodeIsR Tryd.prog 36 Tryd.f36 Cd.spec_SpecText := ⟨Tryd.func36, by kernel_rfl, by decide +kernel⟩
/-- loop.example/g01012/laws.toSpec -/
def Cd.laws_toSpec : ACode :=
  .seq (.region [⟨some 1, .box (.tmp 0), none⟩,
     ⟨some 2, .alloc [.v (.int .i64 (0)), .v (.int .i64 (0)), .v (.string ⟨#[]⟩), .v (.int .i64 (0)), .v (.int .i64 (0)), .v (.int .i64 (0)), .v (.int .i64 (0))], none⟩] [1, 2] []) <|
  .seq (.region [⟨some 3, .alloc [.v (.int .i64 (0)), .v (.int .i64 (0)), .v (.string ⟨#[]⟩), .v (.int .i64 (0)), .v (.int .i64 (0)), .v (.int .i64 (0)), .v (.int .i64 (0))], none⟩] [1, 2, 3] []) <|
  .seq (.region [⟨some 4, .fieldAddr 0 (.tmp 1), none⟩,
     ⟨some 5, .load true 2 (.tmp 4), none⟩,
     ⟨some 6, .call (.func F.laws_toField) [(.tmp 5)] [], none⟩,
     ⟨some 7, .fieldAddr 0 (.tmp 3), none⟩,
     ⟨none, .store 2 (.tmp 7) (.tmp 6), none⟩] [1, 2, 3] []) <|
  .seq (.region [⟨some 8, .fieldAddr 2 (.tmp 1), none⟩,
     ⟨some 9, .load false 1 (.tmp 8), none⟩,
     ⟨some 10, .fieldAddr 2 (.tmp 3), none⟩,
     ⟨none, .store 1 (.tmp 10) (.tmp 9), none⟩] [1, 2, 3] []) <|
  .seq (.region [⟨some 11, .fieldAddr 3 (.tmp 1), none⟩,
     ⟨some 12, .load true 2 (.tmp 11), none⟩,
     ⟨some 13, .call (.func F.laws_toField) [(.tmp 12)] [], none⟩,
     ⟨some 14, .fieldAddr 3 (.tmp 3), none⟩,
     ⟨none, .store 2 (.tmp 14) (.tmp 13), none⟩] [1, 2, 3] []) <|
  .seq (.region [⟨some 15, .fieldAddr 5 (.tmp 1), none⟩,
     ⟨some 16, .load true 2 (.tmp 15), none⟩,
     ⟨some 17, .call (.func F.laws_toField) [(.tmp 16)] [], none⟩,
     ⟨some 18, .fieldAddr 5 (.tmp 3), none⟩,
     ⟨none, .store 2 (.tmp 18) (.tmp 17), none⟩] [2, 3] []) <|
  .seq (.region [⟨some 19, .load true 7 (.tmp 3), none⟩,
     ⟨none, .store 7 (.tmp 2) (.tmp 19), none⟩] [2] []) <|
  .ret
theorem Cd.laws_toSpec_rs : Tryd.f37.results.toList = [.cell 2 66] := rfl
theorem Cd.laws_toSpec_nt : Tryd.f37.ntmps = 20 := rfl
theorem Cd.laws_toSpec_ok : CodeIsR Tryd.prog 37 Tryd.f37 Cd.laws_toSpec := ⟨Tryd.func37, by kernel_rfl, by decide +kernel⟩
/-- loop.example/g01012/impl.SpecText DRAWS -/
def Cd.impl_SpecText : ACode :=
  .seq (.region [⟨some 1, .box (.tmp 0), none⟩,
     ⟨some 2, .mv (.const (.string ⟨#[]⟩)), none⟩] [1] []) <|
  .seq (.seq (.region [⟨some 4, .load true 7 (.tmp 1), none⟩,
      ⟨some 5, .call (.func F.impl_ValidSpec) [(.tmp 4), (.const (.int .i64 (20)))] [], none⟩,
      ⟨some 6, .un .not (.tmp 5), none⟩] [1, 6] []) <|
   .cond (.tmp 6)
     (.seq (.region [⟨some 2, .mv (.const (.string ⟨#[]⟩)), none⟩] [2] []) <|
     .ret)
     (.skip)) <|
  .seq (.region [⟨some 7, .fieldAddr 5 (.tmp 1), none⟩,
     ⟨some 8, .load true 2 (.tmp 7), none⟩,
     ⟨some 9, .call (.func F.impl_span) [(.tmp 8)] [], none⟩,
     ⟨some 10, .binS .add (.const (.string ⟨#[115, 117, 109, 32]⟩)) (.tmp 9), none⟩,
     ⟨some 11, .binS .add (.tmp 10) (.const (.string ⟨#[32, 98, 121, 32]⟩)), none⟩,
     ⟨some 12, .fieldAddr 3 (.tmp 1), none⟩,
     ⟨some 13, .load true 2 (.tmp 12), none⟩,
     ⟨some 14, .call (.func F.impl_span) [(.tmp 13)] [], none⟩,
     ⟨some 15, .binS .add (.tmp 11) (.tmp 14), none⟩,
     ⟨some 3, .mv (.tmp 15), none⟩] [1, 3] [7, 9, 10, 8, 11, 12, 13, 14, 15]) <|
  .seq (.seq (.region [⟨some 16, .fieldAddr 2 (.tmp 1), none⟩,
      ⟨some 17, .load false 1 (.tmp 16), none⟩,
      ⟨some 18, .binS .neq (.tmp 17) (.const (.string ⟨#[]⟩)), none⟩] [1, 3, 18] []) <|
   .cond (.tmp 18)
     (.region [⟨some 19, .mv (.tmp 3), none⟩,
       ⟨some 20, .fieldAddr 0 (.tmp 1), none⟩,
       ⟨some 21, .load true 2 (.tmp 20), none⟩,
       ⟨some 22, .call (.func F.impl_span) [(.tmp 21)] [], none⟩,
       ⟨some 23, .binS .add (.const (.string ⟨#[32, 119, 104, 101, 114, 101, 32]⟩)) (.tmp 22), none⟩,
       ⟨some 24, .binS .add (.tmp 23) (.const (.string ⟨#[32, 61]⟩)), none⟩,
       ⟨some 25, .fieldAddr 2 (.tmp 1), none⟩,
       ⟨some 26, .load false 1 (.tmp 25), none⟩,
       ⟨some 27, .binS .add (.tmp 24) (.tmp 26), none⟩,
       ⟨some 28, .binS .add (.tmp 19) (.tmp 27), none⟩,
       ⟨some 3, .mv (.tmp 28), none⟩] [3] [19, 20, 21, 22, 23, 24, 25, 26, 27, 28])
     (.skip)) <|
  .seq (.region [⟨some 29, .mv (.tmp 3), none⟩,
     ⟨some 2, .mv (.tmp 29), none⟩] [2] []) <|
  .ret
theorem Cd.impl_SpecText_rs : Tryd.f38.results.toList = [.tmp 2] := rfl
theorem Cd.impl_SpecText_nt : Tryd.f38.ntmps = 30 := rfl
theorem Cd.impl_SpecText_ok : CodeIsR Tryd.prog 38 Tryd.f38 Cd.impl_SpecText := ⟨Tryd.func38, by kernel_rfl, by decide +kernel⟩
/-- loop.example/g01012/laws.szTotalS -/
def Cd.laws_szTotalS : ACode :=
  .seq (.region [⟨some 4, .mv (.const (.int .i64 (0))), none⟩] [0, 1] []) <|
  .seq (.region [⟨some 6, .mv (.tmp 1), none⟩,
     ⟨some 7, .mv (.tmp 0), none⟩,
     ⟨some 8, .len (.tmp 7), none⟩,
     ⟨some 9, .bin .sub (.tmp 6) (.tmp 8), none⟩,
     ⟨some 1, .mv (.tmp 9), none⟩] [0, 1] []) <|
  .seq (.seq (.region [⟨some 10, .mv (.tmp 1), none⟩,
      ⟨some 11, .bin .lss (.tmp 10) (.const (.int .i64 (0))), none⟩] [0, 1, 11] []) <|
   .cond (.tmp 11)
     (.seq (.region [⟨some 4, .mv (.const (.int .i64 (-1))), none⟩] [4] []) <|
     .ret)
     (.skip)) <|
  .seq (.seq (.region [⟨some 5, .mv (.const (.int .i64 (0))), none⟩] [0, 1, 5] []) <|
   .block 0 (
     .loop (
       .seq (.seq (.region [⟨some 12, .mv (.tmp 5), none⟩,
           ⟨some 13, .mv (.tmp 0), none⟩,
           ⟨some 14, .len (.tmp 13), none⟩,
           ⟨some 15, .bin .lss (.tmp 12) (.tmp 14), none⟩] [0, 1, 5, 15] []) <|
        .cond (.tmp 15)
          (.skip)
          (.exit 0)) <|
       .seq (.block 1 (
          .seq (.region [⟨some 18, .mv (.tmp 0), none⟩,
             ⟨some 19, .mv (.tmp 5), none⟩,
             ⟨some 20, .idxSl 2 (.tmp 18) (.tmp 19), none⟩,
             ⟨some 21, .load true 2 (.tmp 20), none⟩,
             ⟨some 22, .mv (.tmp 1), none⟩,
             ⟨some 23, .call (.func F.laws_szTotal) [(.tmp 21), (.tmp 22)] [], none⟩,
             ⟨some 1, .mv (.tmp 23), none⟩] [0, 1, 5] []) <|
          .seq (.region [⟨some 24, .mv (.tmp 1), none⟩,
             ⟨some 25, .bin .lss (.tmp 24) (.const (.int .i64 (0))), none⟩] [0, 1, 5, 25] []) <|
          .cond (.tmp 25)
            (.seq (.region [⟨some 4, .mv (.const (.int .i64 (-1))), none⟩] [4] []) <|
            .ret)
            (.skip))) <|
       .region [⟨some 16, .mv (.tmp 5), none⟩,
         ⟨some 17, .bin .add (.tmp 16) (.const (.int .i64 (1))), none⟩,
         ⟨some 5, .mv (.tmp 17), none⟩] [0, 1, 5] []))) <|
  .seq (.region [⟨some 26, .mv (.tmp 1), none⟩,
     ⟨some 4, .mv (.tmp 26), none⟩] [4] []) <|
  .ret
theorem Cd.laws_szTotalS_rs : Tryd.f39.results.toList = [.tmp 4] := rfl
theorem Cd.laws_szTotalS_nt : Tryd.f39.ntmps = 27 := rfl
theorem Cd.laws_szTotalS_ok : CodeIsR Tryd.prog 39 Tryd.f39 Cd.laws_szTotalS := ⟨Tryd.func39, by kernel_rfl, by decide +kernel⟩
/-- loop.example/g01012/spec.TotalsText DRAWS -/
def Cd.spec_TotalsText : ACode :=
  .seq (.region [⟨some 2, .mv (.const (.string ⟨#[]⟩)), none⟩] [0] []) <|
  .seq (.region [⟨some 3, .mv (.const (.string ⟨#[]⟩)), none⟩] [0, 3] []) <|
  .seq (.seq (.region [⟨some 4, .mv (.const (.int .i64 (0))), none⟩] [0, 3, 4] []) <|
   .block 0 (
     .loop (
       .seq (.seq (.region [⟨some 5, .mv (.tmp 4), none⟩,
           ⟨some 6, .mv (.tmp 0), none⟩,
           ⟨some 7, .len (.tmp 6), none⟩,
           ⟨some 8, .bin .lss (.tmp 5) (.tmp 7), none⟩] [0, 3, 4, 8] []) <|
        .cond (.tmp 8)
          (.skip)
          (.exit 0)) <|
       .seq (.block 1 (
          .seq (.seq (.region [⟨some 11, .mv (.tmp 4), none⟩,
              ⟨some 12, .bin .gtr (.tmp 11) (.const (.int .i64 (0))), none⟩] [0, 3, 4, 12] []) <|
           .cond (.tmp 12)
             (.region [⟨some 13, .mv (.tmp 3), none⟩,
               ⟨some 14, .binS .add (.tmp 13) (.const (.string ⟨#[59]⟩)), none⟩,
               ⟨some 3, .mv (.tmp 14), none⟩] [0, 3, 4] [])
             (.skip)) <|
          .region [⟨some 15, .mv (.tmp 3), none⟩,
            ⟨some 16, .mv (.tmp 0), none⟩,
            ⟨some 17, .mv (.tmp 4), none⟩,
            ⟨some 18, .idxSl 2 (.tmp 16) (.tmp 17), none⟩,
            ⟨some 19, .fieldAddr 0 (.tmp 18), none⟩,
            ⟨some 20, .load false 1 (.tmp 19), none⟩,
            ⟨some 21, .binS .add (.tmp 20) (.const (.string ⟨#[61]⟩)), none⟩,
            ⟨some 22, .mv (.tmp 0), none⟩,
            ⟨some 23, .mv (.tmp 4), none⟩,
            ⟨some 24, .idxSl 2 (.tmp 22) (.tmp 23), none⟩,
            ⟨some 25, .fieldAddr 1 (.tmp 24), none⟩,
            ⟨some 26, .load false 1 (.tmp 25), none⟩,
            ⟨some 27, .call (.func F.spec_l01Dec) [(.tmp 26)] [], none⟩,
            ⟨some 28, .binS .add (.tmp 21) (.tmp 27), none⟩,
            ⟨some 29, .binS .add (.tmp 15) (.tmp 28), none⟩,
            ⟨some 3, .mv (.tmp 29), none⟩] [0, 3, 4] [15, 16, 17, 18, 19, 20, 21, 22, 23, 24, 25, 26, 27, 28, 29])) <|
       .region [⟨some 9, .mv (.tmp 4), none⟩,
         ⟨some 10, .bin .add (.tmp 9) (.const (.int .i64 (1))), none⟩,
         ⟨some 4, .mv (.tmp 10), none⟩] [0, 3, 4] []))) <|
  .seq (.region [⟨some 30, .mv (.tmp 3), none⟩,
     ⟨some 2, .mv (.tmp 30), none⟩] [2] []) <|
  .ret
theorem Cd.spec_TotalsText_rs : Tryd.f40.results.toList = [.tmp 2] := rfl
theorem Cd.spec_TotalsText_nt : Tryd.f40.ntmps = 31 := rfl
theorem Cd.spec_TotalsText_ok : CodeIsR Tryd.prog 40 Tryd.f40 Cd.spec_TotalsText := ⟨Tryd.func40, by kernel_rfl, by decide +kernel⟩
/-- loop.example/g01012/laws.toTotalS -/
def Cd.laws_toTotalS : ACode :=
  .seq (.region [⟨some 2, .mv (.const (.slice none 0 0)), none⟩] [0] []) <|
  .seq (.region [⟨some 5, .mv (.tmp 0), none⟩,
     ⟨some 6, .len (.tmp 5), none⟩,
     ⟨some 7, .mk 2 24 [.v (.string ⟨#[]⟩), .v (.int .i64 (0))] (.tmp 6), none⟩,
     ⟨some 3, .mv (.tmp 7), none⟩] [0, 3] []) <|
  .seq (.seq (.region [⟨some 4, .mv (.const (.int .i64 (0))), none⟩] [0, 3, 4] []) <|
   .block 0 (
     .loop (
       .seq (.seq (.region [⟨some 8, .mv (.tmp 4), none⟩,
           ⟨some 9, .mv (.tmp 0), none⟩,
           ⟨some 10, .len (.tmp 9), none⟩,
           ⟨some 11, .bin .lss (.tmp 8) (.tmp 10), none⟩] [0, 3, 4, 11] []) <|
        .cond (.tmp 11)
          (.skip)
          (.exit 0)) <|
       .seq (.block 1 (
          .region [⟨some 14, .mv (.tmp 3), none⟩,
            ⟨some 15, .mv (.tmp 4), none⟩,
            ⟨some 16, .mv (.tmp 0), none⟩,
            ⟨some 17, .mv (.tmp 4), none⟩,
            ⟨some 18, .idxSl 2 (.tmp 16) (.tmp 17), none⟩,
            ⟨some 19, .load true 2 (.tmp 18), none⟩,
            ⟨some 20, .call (.func F.laws_toTotal) [(.tmp 19)] [], none⟩,
            ⟨some 21, .idxSl 2 (.tmp 14) (.tmp 15), none⟩,
            ⟨none, .store 2 (.tmp 21) (.tmp 20), none⟩] [0, 3, 4] [])) <|
       .region [⟨some 12, .mv (.tmp 4), none⟩,
         ⟨some 13, .bin .add (.tmp 12) (.const (.int .i64 (1))), none⟩,
         ⟨some 4, .mv (.tmp 13), none⟩] [0, 3, 4] []))) <|
  .seq (.region [⟨some 22, .mv (.tmp 3), none⟩,
     ⟨some 2, .mv (.tmp 22), none⟩] [2] []) <|
  .ret
theorem Cd.laws_toTotalS_rs : Tryd.f41.results.toList = [.tmp 2] := rfl
theorem Cd.laws_toTotalS_nt : Tryd.f41.ntmps = 23 := rfl
theorem Cd.laws_toTotalS_ok : CodeIsR Tryd.prog 41 Tryd.f41 Cd.laws_toTotalS := ⟨Tryd.func41, by kernel_rfl, by decide +kernel⟩
/-- loop.example/g01012/impl.TotalsText DRAWS -/
def Cd.impl_TotalsText : ACode :=
  .seq (.region [⟨some 2, .mv (.const (.string ⟨#[]⟩)), none⟩] [0] []) <|
  .seq (.region [⟨some 6, .bslice 1 0 [.v (.string ⟨#[]⟩)] [], none⟩,
     ⟨some 3, .mv (.tmp 6), none⟩] [0, 3] []) <|
  .seq (.seq (.region [⟨some 7, .mv (.tmp 0), none⟩,
      ⟨some 8, .len (.tmp 7), none⟩,
      ⟨some 9, .mv (.const (.int .i64 (0))), none⟩] [3, 7, 8, 9] []) <|
   .block 0 (
     .loop (
       .seq (.region [⟨some 10, .bin .lss (.tmp 9) (.tmp 8), none⟩] [3, 7, 8, 9, 10] []) <|
       .seq (.cond (.tmp 10)
          (.skip)
          (.exit 0)) <|
       .seq (.block 1 (
          .seq (.region [⟨some 11, .idxSl 2 (.tmp 7) (.tmp 9), none⟩,
             ⟨some 12, .load true 2 (.tmp 11), none⟩,
             ⟨some 5, .alloc [.v (.string ⟨#[]⟩), .v (.int .i64 (0))], none⟩,
             ⟨none, .store 2 (.tmp 5) (.tmp 12), none⟩] [3, 5, 7, 8, 9] []) <|
          .region [⟨some 13, .mv (.tmp 3), none⟩,
            ⟨some 14, .fieldAddr 0 (.tmp 5), none⟩,
            ⟨some 15, .load false 1 (.tmp 14), none⟩,
            ⟨some 16, .binS .add (.tmp 15) (.const (.string ⟨#[61]⟩)), none⟩,
            ⟨some 17, .fieldAddr 1 (.tmp 5), none⟩,
            ⟨some 18, .load false 1 (.tmp 17), none⟩,
            ⟨some 19, .call (.func F.impl_Decimal) [(.tmp 18)] [], none⟩,
            ⟨some 20, .binS .add (.tmp 16) (.tmp 19), none⟩,
            ⟨some 21, .bslice 1 1 [.v (.string ⟨#[]⟩)] [(0, (.tmp 20))], none⟩,
            ⟨some 22, .append 1 16 (.tmp 13) (.tmp 21), none⟩,
            ⟨some 3, .mv (.tmp 22), none⟩] [3, 7, 8, 9] [13, 14, 15, 16, 17, 18, 19, 20, 21])) <|
       .region [⟨some 23, .bin .add (.tmp 9) (.const (.int .i64 (1))), none⟩,
         ⟨some 9, .mv (.tmp 23), none⟩] [3, 7, 8, 9] []))) <|
  .seq (.region [⟨some 24, .mv (.tmp 3), none⟩,
     ⟨some 25, .call (.func F.strings_Join) [(.tmp 24), (.const (.string ⟨#[59]⟩))] [], none⟩,
     ⟨some 2, .mv (.tmp 25), none⟩] [2] []) <|
  .ret
theorem Cd.impl_TotalsText_rs : Tryd.f42.results.toList = [.tmp 2] := rfl
theorem Cd.impl_TotalsText_nt : Tryd.f42.ntmps = 26 := rfl
theorem Cd.impl_TotalsText_ok : CodeIsR Tryd.prog 42 Tryd.f42 Cd.impl_TotalsText := ⟨Tryd.func42, by kernel_rfl, by decide +kernel⟩
/-- loop.example/g01012/laws.eqTotalS DRAWS -/
def Cd.laws_eqTotalS : ACode :=
  .seq (.region [⟨some 4, .mv (.const (.bool false)), none⟩] [0, 1] []) <|
  .seq (.seq (.region [⟨some 6, .mv (.tmp 0), none⟩,
      ⟨some 7, .len (.tmp 6), none⟩,
      ⟨some 8, .mv (.tmp 1), none⟩,
      ⟨some 9, .len (.tmp 8), none⟩,
      ⟨some 10, .bin .neq (.tmp 7) (.tmp 9), none⟩] [0, 1, 10] []) <|
   .cond (.tmp 10)
     (.seq (.region [⟨some 4, .mv (.const (.bool false)), none⟩] [4] []) <|
     .ret)
     (.skip)) <|
  .seq (.seq (.region [⟨some 5, .mv (.const (.int .i64 (0))), none⟩] [0, 1, 5] []) <|
   .block 0 (
     .loop (
       .seq (.seq (.region [⟨some 11, .mv (.tmp 5), none⟩,
           ⟨some 12, .mv (.tmp 0), none⟩,
           ⟨some 13, .len (.tmp 12), none⟩,
           ⟨some 14, .bin .lss (.tmp 11) (.tmp 13), none⟩] [0, 1, 5, 14] []) <|
        .cond (.tmp 14)
          (.skip)
          (.exit 0)) <|
       .seq (.block 1 (
          .seq (.region [⟨some 17, .mv (.tmp 0), none⟩,
             ⟨some 18, .mv (.tmp 5), none⟩,
             ⟨some 19, .idxSl 2 (.tmp 17) (.tmp 18), none⟩,
             ⟨some 20, .load true 2 (.tmp 19), none⟩,
             ⟨some 21, .mv (.tmp 1), none⟩,
             ⟨some 22, .mv (.tmp 5), none⟩,
             ⟨some 23, .idxSl 2 (.tmp 21) (.tmp 22), none⟩,
             ⟨some 24, .load true 2 (.tmp 23), none⟩,
             ⟨some 25, .call (.func F.laws_eqTotal) [(.tmp 20), (.tmp 24)] [], none⟩,
             ⟨some 26, .un .not (.tmp 25), none⟩] [0, 1, 5, 26] [17, 18, 20, 21, 19, 22, 23, 24, 25, 26]) <|
          .cond (.tmp 26)
            (.seq (.region [⟨some 4, .mv (.const (.bool false)), none⟩] [4] []) <|
            .ret)
            (.skip))) <|
       .region [⟨some 15, .mv (.tmp 5), none⟩,
         ⟨some 16, .bin .add (.tmp 15) (.const (.int .i64 (1))), none⟩,
         ⟨some 5, .mv (.tmp 16), none⟩] [0, 1, 5] []))) <|
  .seq (.region [⟨some 4, .mv (.const (.bool true)), none⟩] [4] []) <|
  .ret
theorem Cd.laws_eqTotalS_rs : Tryd.f43.results.toList = [.tmp 4] := rfl
theorem Cd.laws_eqTotalS_nt : Tryd.f43.ntmps = 27 := rfl
theorem Cd.laws_eqTotalS_ok : CodeIsR Tryd.prog 43 Tryd.f43 Cd.laws_eqTotalS := ⟨Tryd.func43, by kernel_rfl, by decide +kernel⟩
/-- loop.example/g01012/laws.szStep -/
def Cd.laws_szStep : ACode :=
  .seq (.region [⟨some 2, .box (.tmp 0), none⟩,
     ⟨some 4, .mv (.const (.int .i64 (0))), none⟩] [1, 2] []) <|
  .seq (.region [⟨some 5, .mv (.tmp 1), none⟩,
     ⟨some 6, .fieldAddr 8 (.tmp 2), none⟩,
     ⟨some 7, .load false 1 (.tmp 6), none⟩,
     ⟨some 8, .lenS (.tmp 7), none⟩,
     ⟨some 9, .bin .sub (.tmp 5) (.tmp 8), none⟩,
     ⟨some 1, .mv (.tmp 9), none⟩] [1] []) <|
  .seq (.seq (.region [⟨some 10, .mv (.tmp 1), none⟩,
      ⟨some 11, .bin .lss (.tmp 10) (.const (.int .i64 (0))), none⟩] [1, 11] []) <|
   .cond (.tmp 11)
     (.seq (.region [⟨some 4, .mv (.const (.int .i64 (-1))), none⟩] [4] []) <|
     .ret)
     (.skip)) <|
  .seq (.region [⟨some 12, .mv (.tmp 1), none⟩,
     ⟨some 4, .mv (.tmp 12), none⟩] [4] []) <|
  .ret
theorem Cd.laws_szStep_rs : Tryd.f44.results.toList = [.tmp 4] := rfl
theorem Cd.laws_szStep_nt : Tryd.f44.ntmps = 13 := rfl
theorem Cd.laws_szStep_ok : CodeIsR Tryd.prog 44 Tryd.f44 Cd.laws_szStep := ⟨Tryd.func44, by kernel_rfl, by decide +kernel⟩
/-- loop.example/g01012/laws.toStep -/
def Cd.laws_toStep : ACode :=
  .seq (.region [⟨some 1, .box (.tmp 0), none⟩,
     ⟨some 2, .alloc [.v (.int .i64 (0)), .v (.int .i64 (0)), .v (.int .i64 (0)), .v (.int .i64 (0)), .v (.int .i64 (0)), .v (.int .i64 (0)), .v (.int .i64 (0)), .v (.int .i64 (0)), .v (.string ⟨#[]⟩)], none⟩] [1, 2] []) <|
  .seq (.region [⟨some 3, .alloc [.v (.int .i64 (0)), .v (.int .i64 (0)), .v (.int .i64 (0)), .v (.int .i64 (0)), .v (.int .i64 (0)), .v (.int .i64 (0)), .v (.int .i64 (0)), .v (.int .i64 (0)), .v (.string ⟨#[]⟩)], none⟩] [1, 2, 3] []) <|
  .seq (.region [⟨some 4, .fieldAddr 0 (.tmp 1), none⟩,
     ⟨some 5, .load false 1 (.tmp 4), none⟩,
     ⟨some 6, .fieldAddr 0 (.tmp 3), none⟩,
     ⟨none, .store 1 (.tmp 6) (.tmp 5), none⟩] [1, 2, 3] []) <|
  .seq (.region [⟨some 7, .fieldAddr 1 (.tmp 1), none⟩,
     ⟨some 8, .load false 1 (.tmp 7), none⟩,
     ⟨some 9, .fieldAddr 1 (.tmp 3), none⟩,
     ⟨none, .store 1 (.tmp 9) (.tmp 8), none⟩] [1, 2, 3] []) <|
  .seq (.region [⟨some 10, .fieldAddr 2 (.tmp 1), none⟩,
     ⟨some 11, .load false 1 (.tmp 10), none⟩,
     ⟨some 12, .fieldAddr 2 (.tmp 3), none⟩,
     ⟨none, .store 1 (.tmp 12) (.tmp 11), none⟩] [1, 2, 3] []) <|
  .seq (.region [⟨some 13, .fieldAddr 3 (.tmp 1), none⟩,
     ⟨some 14, .load false 1 (.tmp 13), none⟩,
     ⟨some 15, .fieldAddr 3 (.tmp 3), none⟩,
     ⟨none, .store 1 (.tmp 15) (.tmp 14), none⟩] [1, 2, 3] []) <|
  .seq (.region [⟨some 16, .fieldAddr 4 (.tmp 1), none⟩,
     ⟨some 17, .load true 2 (.tmp 16), none⟩,
     ⟨some 18, .call (.func F.laws_toField) [(.tmp 17)] [], none⟩,
     ⟨some 19, .fieldAddr 4 (.tmp 3), none⟩,
     ⟨none, .store 2 (.tmp 19) (.tmp 18), none⟩] [1, 2, 3] []) <|
  .seq (.region [⟨some 20, .fieldAddr 6 (.tmp 1), none⟩,
     ⟨some 21, .load true 2 (.tmp 20), none⟩,
     ⟨some 22, .call (.func F.laws_toField) [(.tmp 21)] [], none⟩,
     ⟨some 23, .fieldAddr 6 (.tmp 3), none⟩,
     ⟨none, .store 2 (.tmp 23) (.tmp 22), none⟩] [1, 2, 3] []) <|
  .seq (.region [⟨some 24, .fieldAddr 8 (.tmp 1), none⟩,
     ⟨some 25, .load false 1 (.tmp 24), none⟩,
     ⟨some 26, .fieldAddr 8 (.tmp 3), none⟩,
     ⟨none, .store 1 (.tmp 26) (.tmp 25), none⟩] [2, 3] []) <|
  .seq (.region [⟨some 27, .load true 9 (.tmp 3), none⟩,
     ⟨none, .store 9 (.tmp 2) (.tmp 27), none⟩] [2] []) <|
  .ret
theorem Cd.laws_toStep_rs : Tryd.f46.results.toList = [.cell 2 81] := rfl
theorem Cd.laws_toStep_nt : Tryd.f46.ntmps = 28 := rfl
theorem Cd.laws_toStep_ok : CodeIsR Tryd.prog 46 Tryd.f46 Cd.laws_toStep := ⟨Tryd.func46, by kernel_rfl, by decide +kernel⟩
/-- loop.example/g01012/laws.eqControl -/
def Cd.laws_eqControl : ACode :=
  .seq (.region [⟨some 2, .box (.tmp 0), none⟩,
     ⟨some 3, .box (.tmp 1), none⟩,
     ⟨some 4, .mv (.const (.bool false)), none⟩] [2, 3] []) <|
  .seq (.seq (.region [⟨some 5, .fieldAddr 0 (.tmp 2), none⟩,
      ⟨some 6, .load false 1 (.tmp 5), none⟩,
      ⟨some 7, .fieldAddr 0 (.tmp 3), none⟩,
      ⟨some 8, .load false 1 (.tmp 7), none⟩,
      ⟨some 9, .bin .neq (.tmp 6) (.tmp 8), none⟩] [2, 3, 9] []) <|
   .cond (.tmp 9)
     (.seq (.region [⟨some 4, .mv (.const (.bool false)), none⟩] [4] []) <|
     .ret)
     (.skip)) <|
  .seq (.seq (.region [⟨some 10, .fieldAddr 1 (.tmp 2), none⟩,
      ⟨some 11, .load false 1 (.tmp 10), none⟩,
      ⟨some 12, .fieldAddr 1 (.tmp 3), none⟩,
      ⟨some 13, .load false 1 (.tmp 12), none⟩,
      ⟨some 14, .bin .neq (.tmp 11) (.tmp 13), none⟩] [2, 3, 14] []) <|
   .cond (.tmp 14)
     (.seq (.region [⟨some 4, .mv (.const (.bool false)), none⟩] [4] []) <|
     .ret)
     (.skip)) <|
  .seq (.seq (.region [⟨some 15, .fieldAddr 2 (.tmp 2), none⟩,
      ⟨some 16, .load false 1 (.tmp 15), none⟩,
      ⟨some 17, .fieldAddr 2 (.tmp 3), none⟩,
      ⟨some 18, .load false 1 (.tmp 17), none⟩,
      ⟨some 19, .bin .neq (.tmp 16) (.tmp 18), none⟩] [19] []) <|
   .cond (.tmp 19)
     (.seq (.region [⟨some 4, .mv (.const (.bool false)), none⟩] [4] []) <|
     .ret)
     (.skip)) <|
  .seq (.region [⟨some 4, .mv (.const (.bool true)), none⟩] [4] []) <|
  .ret
theorem Cd.laws_eqControl_rs : Tryd.f50.results.toList = [.tmp 4] := rfl
theorem Cd.laws_eqControl_nt : Tryd.f50.ntmps = 20 := rfl
theorem Cd.laws_eqControl_ok : CodeIsR Tryd.prog 50 Tryd.f50 Cd.laws_eqControl := ⟨Tryd.func50, by kernel_rfl, by decide +kernel⟩
/-- loop.example/g01012/spec.l02Deck DRAWS -/
def Cd.spec_l02Deck : ACode :=
  .seq (.region [⟨some 2, .mv (.const (.bool false)), none⟩] [0] []) <|
  .seq (.seq (.region [⟨some 3, .mv (.const (.int .i64 (0))), none⟩] [0, 3] []) <|
   .block 0 (
     .loop (
       .seq (.seq (.region [⟨some 4, .mv (.tmp 3), none⟩,
           ⟨some 5, .mv (.tmp 0), none⟩,
           ⟨some 6, .len (.tmp 5), none⟩,
           ⟨some 7, .bin .lss (.tmp 4) (.tmp 6), none⟩] [0, 3, 7] []) <|
        .cond (.tmp 7)
          (.skip)
          (.exit 0)) <|
       .seq (.block 1 (
          .seq (.region [⟨some 10, .mv (.tmp 0), none⟩,
             ⟨some 11, .mv (.tmp 3), none⟩,
             ⟨some 12, .idxSl 1 (.tmp 10) (.tmp 11), none⟩,
             ⟨some 13, .call (.func F.spec_l02Ok) [(.tmp 12)] [], none⟩,
             ⟨some 14, .un .not (.tmp 13), none⟩,
             ⟨some 15, .mv (.tmp 14), none⟩,
             ⟨some 16, .mv (.tmp 0), some (15, false)⟩,
             ⟨some 17, .mv (.tmp 3), some (15, false)⟩,
             ⟨some 18, .idxSl 1 (.tmp 16) (.tmp 17), some (15, false)⟩,
             ⟨some 19, .fieldAddr 0 (.tmp 18), some (15, false)⟩,
             ⟨some 20, .load false 1 (.tmp 19), some (15, false)⟩,
             ⟨some 21, .len (.tmp 20), some (15, false)⟩,
             ⟨some 22, .mv (.tmp 0), some (15, false)⟩,
             ⟨some 23, .idxSl 1 (.tmp 22) (.const (.int .i64 (0))), some (15, false)⟩,
             ⟨some 24, .fieldAddr 0 (.tmp 23), some (15, false)⟩,
             ⟨some 25, .load false 1 (.tmp 24), some (15, false)⟩,
             ⟨some 26, .len (.tmp 25), some (15, false)⟩,
             ⟨some 27, .bin .neq (.tmp 21) (.tmp 26), some (15, false)⟩,
             ⟨some 28, .pick (.tmp 15) (.const (.bool true)) (.tmp 27), none⟩] [0, 3, 28] [10, 11, 13, 14, 12, 15, 16, 17, 18, 19, 20, 21, 22, 23, 24, 25, 26, 27, 28]) <|
          .cond (.tmp 28)
            (.seq (.region [⟨some 2, .mv (.const (.bool false)), none⟩] [2] []) <|
            .ret)
            (.skip))) <|
       .region [⟨some 8, .mv (.tmp 3), none⟩,
         ⟨some 9, .bin .add (.tmp 8) (.const (.int .i64 (1))), none⟩,
         ⟨some 3, .mv (.tmp 9), none⟩] [0, 3] []))) <|
  .seq (.region [⟨some 29, .mv (.tmp 0), none⟩,
     ⟨some 30, .len (.tmp 29), none⟩,
     ⟨some 31, .bin .leq (.tmp 30) (.const (.int .i64 (40))), none⟩,
     ⟨some 2, .mv (.tmp 31), none⟩] [2] []) <|
  .ret
theorem Cd.spec_l02Deck_rs : Tryd.f51.results.toList = [.tmp 2] := rfl
theorem Cd.spec_l02Deck_nt : Tryd.f51.ntmps = 32 := rfl
theorem Cd.spec_l02Deck_ok : CodeIsR Tryd.prog 51 Tryd.f51 Cd.spec_l02Deck := ⟨Tryd.func51, by kernel_rfl, by decide +kernel⟩
/-- loop.example/g01012/laws.szInt64S -/
def Cd.laws_szInt64S : ACode :=
  .seq (.region [⟨some 4, .mv (.const (.int .i64 (0))), none⟩] [0, 1] []) <|
  .seq (.region [⟨some 5, .mv (.tmp 1), none⟩,
     ⟨some 6, .mv (.tmp 0), none⟩,
     ⟨some 7, .len (.tmp 6), none⟩,
     ⟨some 8, .bin .sub (.tmp 5) (.tmp 7), none⟩,
     ⟨some 1, .mv (.tmp 8), none⟩] [1] []) <|
  .seq (.seq (.region [⟨some 9, .mv (.tmp 1), none⟩,
      ⟨some 10, .bin .lss (.tmp 9) (.const (.int .i64 (0))), none⟩] [1, 10] []) <|
   .cond (.tmp 10)
     (.seq (.region [⟨some 4, .mv (.const (.int .i64 (-1))), none⟩] [4] []) <|
     .ret)
     (.skip)) <|
  .seq (.region [⟨some 11, .mv (.tmp 1), none⟩,
     ⟨some 4, .mv (.tmp 11), none⟩] [4] []) <|
  .ret
theorem Cd.laws_szInt64S_rs : Tryd.f61.results.toList = [.tmp 4] := rfl
theorem Cd.laws_szInt64S_nt : Tryd.f61.ntmps = 12 := rfl
theorem Cd.laws_szInt64S_ok : CodeIsR Tryd.prog 61 Tryd.f61 Cd.laws_szInt64S := ⟨Tryd.func61, by kernel_rfl, by decide +kernel⟩
/-- loop.example/g01012/spec.l02Ok -/
def Cd.spec_l02Ok : ACode :=
  .seq (.region [⟨some 2, .mv (.const (.bool false)), none⟩] [0] []) <|
  .seq (.seq (.region [⟨some 3, .mv (.const (.int .i64 (0))), none⟩] [0, 3] []) <|
   .block 0 (
     .loop (
       .seq (.seq (.region [⟨some 4, .mv (.tmp 3), none⟩,
           ⟨some 5, .mv (.tmp 0), none⟩,
           ⟨some 6, .nilc (.tmp 5), none⟩,
           ⟨some 7, .fieldAddr 0 (.tmp 6), none⟩,
           ⟨some 8, .load false 1 (.tmp 7), none⟩,
           ⟨some 9, .len (.tmp 8), none⟩,
           ⟨some 10, .bin .lss (.tmp 4) (.tmp 9), none⟩] [0, 3, 10] []) <|
        .cond (.tmp 10)
          (.skip)
          (.exit 0)) <|
       .seq (.block 1 (
          .seq (.region [⟨some 13, .mv (.tmp 0), none⟩,
             ⟨some 14, .nilc (.tmp 13), none⟩,
             ⟨some 15, .fieldAddr 0 (.tmp 14), none⟩,
             ⟨some 16, .load false 1 (.tmp 15), none⟩,
             ⟨some 17, .mv (.tmp 3), none⟩,
             ⟨some 18, .idxSl 1 (.tmp 16) (.tmp 17), none⟩,
             ⟨some 19, .load false 1 (.tmp 18), none⟩,
             ⟨some 20, .call (.func F.spec_l00In) [(.tmp 19), (.const (.int .i64 (0))), (.const (.int .i64 (4095)))] [], none⟩,
             ⟨some 21, .un .not (.tmp 20), none⟩] [0, 3, 21] []) <|
          .cond (.tmp 21)
            (.seq (.region [⟨some 2, .mv (.const (.bool false)), none⟩] [2] []) <|
            .ret)
            (.skip))) <|
       .region [⟨some 11, .mv (.tmp 3), none⟩,
         ⟨some 12, .bin .add (.tmp 11) (.const (.int .i64 (1))), none⟩,
         ⟨some 3, .mv (.tmp 12), none⟩] [0, 3] []))) <|
  .seq (.region [⟨some 22, .mv (.tmp 0), none⟩,
     ⟨some 23, .nilc (.tmp 22), none⟩,
     ⟨some 24, .fieldAddr 0 (.tmp 23), none⟩,
     ⟨some 25, .load false 1 (.tmp 24), none⟩,
     ⟨some 26, .len (.tmp 25), none⟩,
     ⟨some 27, .call (.func F.spec_l00In) [(.tmp 26), (.const (.int .i64 (1))), (.const (.int .i64 (20)))] [], none⟩,
     ⟨some 2, .mv (.tmp 27), none⟩] [2] []) <|
  .ret
theorem Cd.spec_l02Ok_rs : Tryd.f62.results.toList = [.tmp 2] := rfl
theorem Cd.spec_l02Ok_nt : Tryd.f62.ntmps = 28 := rfl
theorem Cd.spec_l02Ok_ok : CodeIsR Tryd.prog 62 Tryd.f62 Cd.spec_l02Ok := ⟨Tryd.func62, by kernel_rfl, by decide +kernel⟩
/-- loop.example/g01012/laws.toInt64S -/
def Cd.laws_toInt64S : ACode :=
  .seq (.region [⟨some 2, .mv (.const (.slice none 0 0)), none⟩] [0] []) <|
  .seq (.region [⟨some 5, .mv (.tmp 0), none⟩,
     ⟨some 6, .len (.tmp 5), none⟩,
     ⟨some 7, .mk 1 8 [.v (.int .i64 (0))] (.tmp 6), none⟩,
     ⟨some 3, .mv (.tmp 7), none⟩] [0, 3] []) <|
  .seq (.seq (.region [⟨some 4, .mv (.const (.int .i64 (0))), none⟩] [0, 3, 4] []) <|
   .block 0 (
     .loop (
       .seq (.seq (.region [⟨some 8, .mv (.tmp 4), none⟩,
           ⟨some 9, .mv (.tmp 0), none⟩,
           ⟨some 10, .len (.tmp 9), none⟩,
           ⟨some 11, .bin .lss (.tmp 8) (.tmp 10), none⟩] [0, 3, 4, 11] []) <|
        .cond (.tmp 11)
          (.skip)
          (.exit 0)) <|
       .seq (.block 1 (
          .region [⟨some 14, .mv (.tmp 3), none⟩,
            ⟨some 15, .mv (.tmp 4), none⟩,
            ⟨some 16, .mv (.tmp 0), none⟩,
            ⟨some 17, .mv (.tmp 4), none⟩,
            ⟨some 18, .idxSl 1 (.tmp 16) (.tmp 17), none⟩,
            ⟨some 19, .load false 1 (.tmp 18), none⟩,
            ⟨some 20, .idxSl 1 (.tmp 14) (.tmp 15), none⟩,
            ⟨none, .store 1 (.tmp 20) (.tmp 19), none⟩] [0, 3, 4] [])) <|
       .region [⟨some 12, .mv (.tmp 4), none⟩,
         ⟨some 13, .bin .add (.tmp 12) (.const (.int .i64 (1))), none⟩,
         ⟨some 4, .mv (.tmp 13), none⟩] [0, 3, 4] []))) <|
  .seq (.region [⟨some 21, .mv (.tmp 3), none⟩,
     ⟨some 2, .mv (.tmp 21), none⟩] [2] []) <|
  .ret
theorem Cd.laws_toInt64S_rs : Tryd.f64.results.toList = [.tmp 2] := rfl
theorem Cd.laws_toInt64S_nt : Tryd.f64.ntmps = 22 := rfl
theorem Cd.laws_toInt64S_ok : CodeIsR Tryd.prog 64 Tryd.f64 Cd.laws_toInt64S := ⟨Tryd.func64, by kernel_rfl, by decide +kernel⟩
/-- loop.example/g01012/impl.ValidCard -/
def Cd.impl_ValidCard : ACode :=
  .seq (.region [⟨some 1, .box (.tmp 0), none⟩,
     ⟨some 2, .mv (.const (.bool false)), none⟩] [1] []) <|
  .seq (.region [⟨some 3, .load true 1 (.tmp 1), none⟩,
     ⟨some 4, .call (.func F._impl_Card__columns) [(.tmp 3)] [], none⟩,
     ⟨some 5, .call (.func F.impl_inside) [(.tmp 4), (.const (.int .i64 (1))), (.const (.int .i64 (20)))] [], none⟩,
     ⟨some 6, .mv (.tmp 5), none⟩,
     ⟨some 7, .fieldAddr 0 (.tmp 1), some (6, true)⟩,
     ⟨some 8, .load false 1 (.tmp 7), some (6, true)⟩,
     ⟨some 9, .call (.func F.slices_ContainsFunc___int64_int64_) [(.tmp 8), (.func F.impl_ValidCard_1)] [], some (6, true)⟩,
     ⟨some 10, .un .not (.tmp 9), some (6, true)⟩,
     ⟨some 11, .pick (.tmp 6) (.tmp 10) (.const (.bool false)), none⟩,
     ⟨some 2, .mv (.tmp 11), none⟩] [2] []) <|
  .ret
theorem Cd.impl_ValidCard_rs : Tryd.f65.results.toList = [.tmp 2] := rfl
theorem Cd.impl_ValidCard_nt : Tryd.f65.ntmps = 12 := rfl
theorem Cd.impl_ValidCard_ok : CodeIsR Tryd.prog 65 Tryd.f65 Cd.impl_ValidCard := ⟨Tryd.func65, by kernel_rfl, by decide +kernel⟩
/-- (loop.example/g01012/impl.Card).columns -/
def Cd._impl_Card__columns : ACode :=
  .seq (.region [⟨some 1, .box (.tmp 0), none⟩,
     ⟨some 2, .mv (.const (.int .i64 (0))), none⟩] [1] []) <|
  .seq (.region [⟨some 3, .fieldAddr 0 (.tmp 1), none⟩,
     ⟨some 4, .load false 1 (.tmp 3), none⟩,
     ⟨some 5, .call (.func F.impl_size_int64_) [(.tmp 4)] [], none⟩,
     ⟨some 2, .mv (.tmp 5), none⟩] [2] []) <|
  .ret
theorem Cd._impl_Card__columns_rs : Tryd.f66.results.toList = [.tmp 2] := rfl
theorem Cd._impl_Card__columns_nt : Tryd.f66.ntmps = 6 := rfl
theorem Cd._impl_Card__columns_ok : CodeIsR Tryd.prog 66 Tryd.f66 Cd._impl_Card__columns := ⟨Tryd.func66, by kernel_rfl, by decide +kernel⟩
/-- loop.example/g01012/laws.eqInt64S DRAWS -/
def Cd.laws_eqInt64S : ACode :=
  .seq (.region [⟨some 4, .mv (.const (.bool false)), none⟩] [0, 1] []) <|
  .seq (.seq (.region [⟨some 6, .mv (.tmp 0), none⟩,
      ⟨some 7, .len (.tmp 6), none⟩,
      ⟨some 8, .mv (.tmp 1), none⟩,
      ⟨some 9, .len (.tmp 8), none⟩,
      ⟨some 10, .bin .neq (.tmp 7) (.tmp 9), none⟩] [0, 1, 10] []) <|
   .cond (.tmp 10)
     (.seq (.region [⟨some 4, .mv (.const (.bool false)), none⟩] [4] []) <|
     .ret)
     (.skip)) <|
  .seq (.seq (.region [⟨some 5, .mv (.const (.int .i64 (0))), none⟩] [0, 1, 5] []) <|
   .block 0 (
     .loop (
       .seq (.seq (.region [⟨some 11, .mv (.tmp 5), none⟩,
           ⟨some 12, .mv (.tmp 0), none⟩,
           ⟨some 13, .len (.tmp 12), none⟩,
           ⟨some 14, .bin .lss (.tmp 11) (.tmp 13), none⟩] [0, 1, 5, 14] []) <|
        .cond (.tmp 14)
          (.skip)
          (.exit 0)) <|
       .seq (.block 1 (
          .seq (.region [⟨some 17, .mv (.tmp 0), none⟩,
             ⟨some 18, .mv (.tmp 5), none⟩,
             ⟨some 19, .idxSl 1 (.tmp 17) (.tmp 18), none⟩,
             ⟨some 20, .load false 1 (.tmp 19), none⟩,
             ⟨some 21, .mv (.tmp 1), none⟩,
             ⟨some 22, .mv (.tmp 5), none⟩,
             ⟨some 23, .idxSl 1 (.tmp 21) (.tmp 22), none⟩,
             ⟨some 24, .load false 1 (.tmp 23), none⟩,
             ⟨some 25, .bin .neq (.tmp 20) (.tmp 24), none⟩] [0, 1, 5, 25] [17, 18, 20, 21, 19, 22, 23, 24, 25]) <|
          .cond (.tmp 25)
            (.seq (.region [⟨some 4, .mv (.const (.bool false)), none⟩] [4] []) <|
            .ret)
            (.skip))) <|
       .region [⟨some 15, .mv (.tmp 5), none⟩,
         ⟨some 16, .bin .add (.tmp 15) (.const (.int .i64 (1))), none⟩,
         ⟨some 5, .mv (.tmp 16), none⟩] [0, 1, 5] []))) <|
  .seq (.region [⟨some 4, .mv (.const (.bool true)), none⟩] [4] []) <|
  .ret
theorem Cd.laws_eqInt64S_rs : Tryd.f68.results.toList = [.tmp 4] := rfl
theorem Cd.laws_eqInt64S_nt : Tryd.f68.ntmps = 26 := rfl
theorem Cd.laws_eqInt64S_ok : CodeIsR Tryd.prog 68 Tryd.f68 Cd.laws_eqInt64S := ⟨Tryd.func68, by kernel_rfl, by decide +kernel⟩
/-- loop.example/g01012/spec.l18Ok -/
def Cd.spec_l18Ok : ACode :=
  .seq (.region [⟨some 1, .box (.tmp 0), none⟩,
     ⟨some 2, .mv (.const (.bool false)), none⟩] [1] []) <|
  .seq (.region [⟨some 3, .fieldAddr 0 (.tmp 1), none⟩,
     ⟨some 4, .load false 1 (.tmp 3), none⟩,
     ⟨some 5, .call (.func F.spec_l00In) [(.tmp 4), (.const (.int .i64 (0))), (.const (.int .i64 (1000000)))] [], none⟩,
     ⟨some 6, .mv (.tmp 5), none⟩,
     ⟨some 7, .fieldAddr 1 (.tmp 1), some (6, true)⟩,
     ⟨some 8, .load false 1 (.tmp 7), some (6, true)⟩,
     ⟨some 9, .call (.func F.spec_l00In) [(.tmp 8), (.const (.int .i64 (-1000000000000000))), (.const (.int .i64 (1000000000000000)))] [], some (6, true)⟩,
     ⟨some 10, .pick (.tmp 6) (.tmp 9) (.const (.bool false)), none⟩,
     ⟨some 11, .mv (.tmp 10), none⟩,
     ⟨some 12, .fieldAddr 2 (.tmp 1), some (11, true)⟩,
     ⟨some 13, .load false 1 (.tmp 12), some (11, true)⟩,
     ⟨some 14, .call (.func F.spec_l00In) [(.tmp 13), (.const (.int .i64 (0))), (.const (.int .i64 (1000000000)))] [], some (11, true)⟩,
     ⟨some 15, .pick (.tmp 11) (.tmp 14) (.const (.bool false)), none⟩,
     ⟨some 2, .mv (.tmp 15), none⟩] [2] []) <|
  .ret
theorem Cd.spec_l18Ok_rs : Tryd.f71.results.toList = [.tmp 2] := rfl
theorem Cd.spec_l18Ok_nt : Tryd.f71.ntmps = 16 := rfl
theorem Cd.spec_l18Ok_ok : CodeIsR Tryd.prog 71 Tryd.f71 Cd.spec_l18Ok := ⟨Tryd.func71, by kernel_rfl, by decide +kernel⟩
/-- loop.example/g01012/impl.isPlainControl -/
def Cd.impl_isPlainControl : ACode :=
  .seq (.region [⟨some 1, .box (.tmp 0), none⟩,
     ⟨some 2, .mv (.const (.bool false)), none⟩] [1] []) <|
  .seq (.region [⟨some 3, .fieldAddr 0 (.tmp 1), none⟩,
     ⟨some 4, .load false 1 (.tmp 3), none⟩,
     ⟨some 5, .call (.func F.impl_inside) [(.tmp 4), (.const (.int .i64 (0))), (.const (.int .i64 (1000000)))] [], none⟩,
     ⟨some 6, .mv (.tmp 5), none⟩,
     ⟨some 7, .fieldAddr 1 (.tmp 1), some (6, true)⟩,
     ⟨some 8, .load false 1 (.tmp 7), some (6, true)⟩,
     ⟨some 9, .call (.func F.impl_inside) [(.tmp 8), (.const (.int .i64 (-1000000000000000))), (.const (.int .i64 (1000000000000000)))] [], some (6, true)⟩,
     ⟨some 10, .pick (.tmp 6) (.tmp 9) (.const (.bool false)), none⟩,
     ⟨some 11, .mv (.tmp 10), none⟩,
     ⟨some 12, .fieldAddr 2 (.tmp 1), some (11, true)⟩,
     ⟨some 13, .load false 1 (.tmp 12), some (11, true)⟩,
     ⟨some 14, .call (.func F.impl_inside) [(.tmp 13), (.const (.int .i64 (0))), (.const (.int .i64 (1000000000)))] [], some (11, true)⟩,
     ⟨some 15, .pick (.tmp 11) (.tmp 14) (.const (.bool false)), none⟩,
     ⟨some 2, .mv (.tmp 15), none⟩] [2] []) <|
  .ret
theorem Cd.impl_isPlainControl_rs : Tryd.f73.results.toList = [.tmp 2] := rfl
theorem Cd.impl_isPlainControl_nt : Tryd.f73.ntmps = 16 := rfl
theorem Cd.impl_isPlainControl_ok : CodeIsR Tryd.prog 73 Tryd.f73 Cd.impl_isPlainControl := ⟨Tryd.func73, by kernel_rfl, by decide +kernel⟩
/-- loop.example/g01012/impl.Decimal -/
def Cd.impl_Decimal : ACode :=
  .seq (.region [⟨some 2, .mv (.const (.string ⟨#[]⟩)), none⟩] [0] []) <|
  .seq (.region [⟨some 3, .mv (.tmp 0), none⟩,
     ⟨some 4, .call (.func F.strconv_FormatInt) [(.tmp 3), (.const (.int .i64 (10)))] [], none⟩,
     ⟨some 2, .mv (.tmp 4), none⟩] [2] []) <|
  .ret
theorem Cd.impl_Decimal_rs : Tryd.f74.results.toList = [.tmp 2] := rfl
theorem Cd.impl_Decimal_nt : Tryd.f74.ntmps = 5 := rfl
theorem Cd.impl_Decimal_ok : CodeIsR Tryd.prog 74 Tryd.f74 Cd.impl_Decimal := ⟨Tryd.func74, by kernel_rfl, by decide +kernel⟩
/-- loop.example/g01012/spec.l19Form -/
def Cd.spec_l19Form : ACode :=
  .seq (.region [⟨some 1, .box (.tmp 0), none⟩,
     ⟨some 2, .mv (.const (.bool false)), none⟩] [1] []) <|
  .seq (.seq (.region [⟨some 3, .fieldAddr 0 (.tmp 1), none⟩,
      ⟨some 4, .load false 1 (.tmp 3), none⟩,
      ⟨some 5, .call (.func F.spec_l00In) [(.tmp 4), (.const (.int .i64 (1))), (.const (.int .i64 (3)))] [], none⟩,
      ⟨some 6, .un .not (.tmp 5), none⟩,
      ⟨some 7, .mv (.tmp 6), none⟩,
      ⟨some 8, .fieldAddr 1 (.tmp 1), some (7, false)⟩,
      ⟨some 9, .load false 1 (.tmp 8), some (7, false)⟩,
      ⟨some 10, .call (.func F.spec_l00In) [(.tmp 9), (.const (.int .i64 (0))), (.const (.int .i64 (11)))] [], some (7, false)⟩,
      ⟨some 11, .un .not (.tmp 10), some (7, false)⟩,
      ⟨some 12, .pick (.tmp 7) (.const (.bool true)) (.tmp 11), none⟩] [1, 12] []) <|
   .cond (.tmp 12)
     (.seq (.region [⟨some 2, .mv (.const (.bool false)), none⟩] [2] []) <|
     .ret)
     (.skip)) <|
  .seq (.seq (.region [⟨some 13, .fieldAddr 0 (.tmp 1), none⟩,
      ⟨some 14, .load false 1 (.tmp 13), none⟩,
      ⟨some 15, .bin .eql (.tmp 14) (.const (.int .i64 (3))), none⟩] [1, 15] []) <|
   .cond (.tmp 15)
     (.seq (.region [⟨some 16, .fieldAddr 2 (.tmp 1), none⟩,
        ⟨some 17, .load false 1 (.tmp 16), none⟩,
        ⟨some 18, .call (.func F.spec_l00In) [(.tmp 17), (.const (.int .i64 (0))), (.const (.int .i64 (3)))] [], none⟩,
        ⟨some 19, .mv (.tmp 18), none⟩,
        ⟨some 20, .fieldAddr 3 (.tmp 1), some (19, true)⟩,
        ⟨some 21, .load false 1 (.tmp 20), some (19, true)⟩,
        ⟨some 22, .call (.func F.spec_l00In) [(.tmp 21), (.const (.int .i64 (0))), (.const (.int .i64 (9)))] [], some (19, true)⟩,
        ⟨some 23, .pick (.tmp 19) (.tmp 22) (.const (.bool false)), none⟩,
        ⟨some 2, .mv (.tmp 23), none⟩] [2] []) <|
     .ret)
     (.skip)) <|
  .seq (.region [⟨some 24, .fieldAddr 2 (.tmp 1), none⟩,
     ⟨some 25, .load false 1 (.tmp 24), none⟩,
     ⟨some 26, .bin .eql (.tmp 25) (.const (.int .i64 (0))), none⟩,
     ⟨some 27, .mv (.tmp 26), none⟩,
     ⟨some 28, .fieldAddr 3 (.tmp 1), some (27, true)⟩,
     ⟨some 29, .load false 1 (.tmp 28), some (27, true)⟩,
     ⟨some 30, .bin .eql (.tmp 29) (.const (.int .i64 (0))), some (27, true)⟩,
     ⟨some 31, .pick (.tmp 27) (.tmp 30) (.const (.bool false)), none⟩,
     ⟨some 2, .mv (.tmp 31), none⟩] [2] []) <|
  .ret
theorem Cd.spec_l19Form_rs : Tryd.f75.results.toList = [.tmp 2] := rfl
theorem Cd.spec_l19Form_nt : Tryd.f75.ntmps = 32 := rfl
theorem Cd.spec_l19Form_ok : CodeIsR Tryd.prog 75 Tryd.f75 Cd.spec_l19Form := ⟨Tryd.func75, by kernel_rfl, by decide +kernel⟩
/-- loop.example/g01012/spec.l01Dec -/
def Cd.spec_l01Dec : ACode :=
  .seq (.region [⟨some 2, .mv (.const (.string ⟨#[]⟩)), none⟩] [0] []) <|
  .seq (.closing 3 (
     .region [⟨some 6, .bslice 1 0 [.v (.int .u8 (0))] [], none⟩,
       ⟨some 3, .mv (.tmp 6), none⟩] [0, 3] [])) <|
  .seq (.seq (.region [⟨some 7, .mv (.tmp 0), none⟩,
      ⟨some 4, .mv (.tmp 7), none⟩] [0, 3, 4] []) <|
   .block 0 (
     .loop (
       .seq (.seq (.region [⟨some 8, .mv (.tmp 4), none⟩,
           ⟨some 9, .bin .neq (.tmp 8) (.const (.int .i64 (0))), none⟩] [0, 3, 4, 9] []) <|
        .cond (.tmp 9)
          (.skip)
          (.exit 0)) <|
       .seq (.block 1 (
          .seq (.region [⟨some 12, .mv (.tmp 4), none⟩,
             ⟨some 13, .bin .rem (.tmp 12) (.const (.int .i64 (10))), none⟩,
             ⟨some 5, .mv (.tmp 13), none⟩] [0, 3, 4, 5] []) <|
          .seq (.seq (.region [⟨some 14, .mv (.tmp 5), none⟩,
              ⟨some 15, .bin .lss (.tmp 14) (.const (.int .i64 (0))), none⟩] [0, 3, 4, 5, 15] []) <|
           .cond (.tmp 15)
             (.region [⟨some 16, .mv (.tmp 5), none⟩,
               ⟨some 17, .un .neg (.tmp 16), none⟩,
               ⟨some 5, .mv (.tmp 17), none⟩] [0, 3, 4, 5] [])
             (.skip)) <|
          .closing 3 (
            .region [⟨some 18, .mv (.tmp 5), none⟩,
              ⟨some 19, .bin .add (.const (.int .i64 (48))) (.tmp 18), none⟩,
              ⟨some 20, .conv .u8 (.tmp 19), none⟩,
              ⟨some 21, .bslice 1 1 [.v (.int .u8 (0))] [(0, (.tmp 20))], none⟩,
              ⟨some 22, .mv (.tmp 3), none⟩,
              ⟨some 23, .append 1 1 (.tmp 21) (.tmp 22), none⟩,
              ⟨some 3, .mv (.tmp 23), none⟩] [0, 3, 4] []))) <|
       .region [⟨some 10, .mv (.tmp 4), none⟩,
         ⟨some 11, .bin .quo (.tmp 10) (.const (.int .i64 (10))), none⟩,
         ⟨some 4, .mv (.tmp 11), none⟩] [0, 3, 4] []))) <|
  .seq (.seq (.region [⟨some 24, .mv (.tmp 3), none⟩,
      ⟨some 25, .len (.tmp 24), none⟩,
      ⟨some 26, .bin .eql (.tmp 25) (.const (.int .i64 (0))), none⟩] [0, 3, 26] []) <|
   .cond (.tmp 26)
     (.seq (.region [⟨some 2, .mv (.const (.string ⟨#[48]⟩)), none⟩] [2] []) <|
     .ret)
     (.skip)) <|
  .seq (.seq (.region [⟨some 27, .mv (.tmp 0), none⟩,
      ⟨some 28, .bin .lss (.tmp 27) (.const (.int .i64 (0))), none⟩] [3, 28] []) <|
   .cond (.tmp 28)
     (.seq (.region [⟨some 29, .mv (.tmp 3), none⟩,
        ⟨some 30, .b2s (.tmp 29), none⟩,
        ⟨some 31, .binS .add (.const (.string ⟨#[45]⟩)) (.tmp 30), none⟩,
        ⟨some 2, .mv (.tmp 31), none⟩] [2] []) <|
     .ret)
     (.skip)) <|
  .seq (.region [⟨some 32, .mv (.tmp 3), none⟩,
     ⟨some 33, .b2s (.tmp 32), none⟩,
     ⟨some 2, .mv (.tmp 33), none⟩] [2] []) <|
  .ret
theorem Cd.spec_l01Dec_rs : Tryd.f76.results.toList = [.tmp 2] := rfl
theorem Cd.spec_l01Dec_nt : Tryd.f76.ntmps = 34 := rfl
theorem Cd.spec_l01Dec_ok : CodeIsR Tryd.prog 76 Tryd.f76 Cd.spec_l01Dec := ⟨Tryd.func76, by kernel_rfl, by decide +kernel⟩
/-- loop.example/g01012/impl.isFault -/
def Cd.impl_isFault : ACode :=
  .seq (.region [⟨some 1, .box (.tmp 0), none⟩,
     ⟨some 2, .mv (.const (.bool false)), none⟩] [1] []) <|
  .seq (.seq (.region [⟨some 3, .fieldAddr 0 (.tmp 1), none⟩,
      ⟨some 4, .load false 1 (.tmp 3), none⟩,
      ⟨some 5, .bin .eql (.tmp 4) (.const (.int .i64 (3))), none⟩] [1, 5] []) <|
   .cond (.tmp 5)
     (.seq (.region [⟨some 6, .fieldAddr 2 (.tmp 1), none⟩,
        ⟨some 7, .load false 1 (.tmp 6), none⟩,
        ⟨some 8, .call (.func F.impl_inside) [(.tmp 7), (.const (.int .i64 (0))), (.const (.int .i64 (3)))] [], none⟩,
        ⟨some 9, .mv (.tmp 8), none⟩,
        ⟨some 10, .fieldAddr 3 (.tmp 1), some (9, true)⟩,
        ⟨some 11, .load false 1 (.tmp 10), some (9, true)⟩,
        ⟨some 12, .call (.func F.impl_inside) [(.tmp 11), (.const (.int .i64 (0))), (.const (.int .i64 (9)))] [], some (9, true)⟩,
        ⟨some 13, .pick (.tmp 9) (.tmp 12) (.const (.bool false)), none⟩,
        ⟨some 2, .mv (.tmp 13), none⟩] [2] []) <|
     .ret)
     (.skip)) <|
  .seq (.region [⟨some 14, .fieldAddr 0 (.tmp 1), none⟩,
     ⟨some 15, .load false 1 (.tmp 14), none⟩,
     ⟨some 16, .call (.func F.impl_inside) [(.tmp 15), (.const (.int .i64 (1))), (.const (.int .i64 (2)))] [], none⟩,
     ⟨some 17, .mv (.tmp 16), none⟩,
     ⟨some 18, .fieldAddr 2 (.tmp 1), some (17, true)⟩,
     ⟨some 19, .load false 1 (.tmp 18), some (17, true)⟩,
     ⟨some 20, .bin .eql (.tmp 19) (.const (.int .i64 (0))), some (17, true)⟩,
     ⟨some 21, .pick (.tmp 17) (.tmp 20) (.const (.bool false)), none⟩,
     ⟨some 22, .mv (.tmp 21), none⟩,
     ⟨some 23, .fieldAddr 3 (.tmp 1), some (22, true)⟩,
     ⟨some 24, .load false 1 (.tmp 23), some (22, true)⟩,
     ⟨some 25, .bin .eql (.tmp 24) (.const (.int .i64 (0))), some (22, true)⟩,
     ⟨some 26, .pick (.tmp 22) (.tmp 25) (.const (.bool false)), none⟩,
     ⟨some 2, .mv (.tmp 26), none⟩] [2] []) <|
  .ret
theorem Cd.impl_isFault_rs : Tryd.f77.results.toList = [.tmp 2] := rfl
theorem Cd.impl_isFault_nt : Tryd.f77.ntmps = 27 := rfl
theorem Cd.impl_isFault_ok : CodeIsR Tryd.prog 77 Tryd.f77 Cd.impl_isFault := ⟨Tryd.func77, by kernel_rfl, by decide +kernel⟩
/-- loop.example/g01012/impl.inside -/
def Cd.impl_inside : ACode :=
  .seq (.region [⟨some 6, .mv (.const (.bool false)), none⟩] [0, 1, 2] []) <|
  .seq (.region [⟨some 7, .mv (.tmp 0), none⟩,
     ⟨some 8, .mv (.tmp 1), none⟩,
     ⟨some 9, .bin .geq (.tmp 7) (.tmp 8), none⟩,
     ⟨some 10, .mv (.tmp 9), none⟩,
     ⟨some 11, .mv (.tmp 0), some (10, true)⟩,
     ⟨some 12, .mv (.tmp 2), some (10, true)⟩,
     ⟨some 13, .bin .leq (.tmp 11) (.tmp 12), some (10, true)⟩,
     ⟨some 14, .pick (.tmp 10) (.tmp 13) (.const (.bool false)), none⟩,
     ⟨some 6, .mv (.tmp 14), none⟩] [6] []) <|
  .ret
theorem Cd.impl_inside_rs : Tryd.f78.results.toList = [.tmp 6] := rfl
theorem Cd.impl_inside_nt : Tryd.f78.ntmps = 15 := rfl
theorem Cd.impl_inside_ok : CodeIsR Tryd.prog 78 Tryd.f78 Cd.impl_inside := ⟨Tryd.func78, by kernel_rfl, by decide +kernel⟩
/-- loop.example/g01012/spec.l16Ok DRAWS -/
def Cd.spec_l16Ok : ACode :=
  .seq (.region [⟨some 4, .mv (.const (.bool false)), none⟩] [0, 1] []) <|
  .seq (.seq (.region [⟨some 5, .mv (.tmp 0), none⟩,
      ⟨some 6, .nilc (.tmp 5), none⟩,
      ⟨some 7, .fieldAddr 3 (.tmp 6), none⟩,
      ⟨some 8, .load true 2 (.tmp 7), none⟩,
      ⟨some 9, .mv (.tmp 1), none⟩,
      ⟨some 10, .call (.func F.spec_l02Field) [(.tmp 8), (.tmp 9)] [], none⟩,
      ⟨some 11, .un .not (.tmp 10), none⟩,
      ⟨some 12, .mv (.tmp 11), none⟩,
      ⟨some 13, .mv (.tmp 0), some (12, false)⟩,
      ⟨some 14, .nilc (.tmp 13), some (12, false)⟩,
      ⟨some 15, .fieldAddr 5 (.tmp 14), some (12, false)⟩,
      ⟨some 16, .load true 2 (.tmp 15), some (12, false)⟩,
      ⟨some 17, .mv (.tmp 1), some (12, false)⟩,
      ⟨some 18, .call (.func F.spec_l02Field) [(.tmp 16), (.tmp 17)] [], some (12, false)⟩,
      ⟨some 19, .un .not (.tmp 18), some (12, false)⟩,
      ⟨some 20, .pick (.tmp 12) (.const (.bool true)) (.tmp 19), none⟩,
      ⟨some 21, .mv (.tmp 20), none⟩,
      ⟨some 22, .mv (.tmp 0), some (21, false)⟩,
      ⟨some 23, .nilc (.tmp 22), some (21, false)⟩,
      ⟨some 24, .fieldAddr 5 (.tmp 23), some (21, false)⟩,
      ⟨some 25, .fieldAddr 1 (.tmp 24), some (21, false)⟩,
      ⟨some 26, .load false 1 (.tmp 25), some (21, false)⟩,
      ⟨some 27, .mv (.tmp 0), some (21, false)⟩,
      ⟨some 28, .nilc (.tmp 27), some (21, false)⟩,
      ⟨some 29, .fieldAddr 5 (.tmp 28), some (21, false)⟩,
      ⟨some 30, .fieldAddr 0 (.tmp 29), some (21, false)⟩,
      ⟨some 31, .load false 1 (.tmp 30), some (21, false)⟩,
      ⟨some 32, .bin .sub (.tmp 26) (.tmp 31), some (21, false)⟩,
      ⟨some 33, .bin .gtr (.tmp 32) (.const (.int .i64 (12))), some (21, false)⟩,
      ⟨some 34, .pick (.tmp 21) (.const (.bool true)) (.tmp 33), none⟩] [0, 1, 34] [5, 7, 8, 6, 9, 10, 11, 12, 13, 14, 15, 16, 17, 18, 19, 20, 21, 22, 23, 24, 25, 26, 27, 28, 29, 30, 31, 32, 33, 34]) <|
   .cond (.tmp 34)
     (.seq (.region [⟨some 4, .mv (.const (.bool false)), none⟩] [4] []) <|
     .ret)
     (.skip)) <|
  .seq (.seq (.region [⟨some 35, .mv (.tmp 0), none⟩,
      ⟨some 36, .nilc (.tmp 35), none⟩,
      ⟨some 37, .fieldAddr 2 (.tmp 36), none⟩,
      ⟨some 38, .load false 1 (.tmp 37), none⟩,
      ⟨some 39, .binS .eql (.tmp 38) (.const (.string ⟨#[]⟩)), none⟩] [0, 1, 39] []) <|
   .cond (.tmp 39)
     (.seq (.region [⟨some 40, .mv (.tmp 0), none⟩,
        ⟨some 41, .nilc (.tmp 40), none⟩,
        ⟨some 42, .fieldAddr 0 (.tmp 41), none⟩,
        ⟨some 43, .load true 2 (.tmp 42), none⟩,
        ⟨some 44, .build [.v (.int .i64 (0)), .v (.int .i64 (0))] [], none⟩,
        ⟨some 45, .eqA false [0, 0] (.tmp 43) (.tmp 44), none⟩,
        ⟨some 4, .mv (.tmp 45), none⟩] [4] []) <|
     .ret)
     (.skip)) <|
  .seq (.region [⟨some 46, .mv (.tmp 0), none⟩,
     ⟨some 47, .nilc (.tmp 46), none⟩,
     ⟨some 48, .fieldAddr 0 (.tmp 47), none⟩,
     ⟨some 49, .load true 2 (.tmp 48), none⟩,
     ⟨some 50, .mv (.tmp 1), none⟩,
     ⟨some 51, .call (.func F.spec_l02Field) [(.tmp 49), (.tmp 50)] [], none⟩,
     ⟨some 52, .mv (.tmp 51), none⟩,
     ⟨some 53, .mv (.tmp 0), some (52, true)⟩,
     ⟨some 54, .nilc (.tmp 53), some (52, true)⟩,
     ⟨some 55, .fieldAddr 2 (.tmp 54), some (52, true)⟩,
     ⟨some 56, .load false 1 (.tmp 55), some (52, true)⟩,
     ⟨some 57, .mv (.tmp 0), some (52, true)⟩,
     ⟨some 58, .nilc (.tmp 57), some (52, true)⟩,
     ⟨some 59, .fieldAddr 0 (.tmp 58), some (52, true)⟩,
     ⟨some 60, .load true 2 (.tmp 59), some (52, true)⟩,
     ⟨some 61, .call (.func F.spec_l09Text) [(.tmp 56), (.tmp 60)] [], some (52, true)⟩,
     ⟨some 62, .bin .eql (.tmp 61) (.const (.int .i64 (0))), some (52, true)⟩,
     ⟨some 63, .pick (.tmp 52) (.tmp 62) (.const (.bool false)), none⟩,
     ⟨some 4, .mv (.tmp 63), none⟩] [4] [46, 48, 49, 47, 50, 51, 52, 53, 54, 55, 56, 57, 58, 59, 60, 61, 62, 63]) <|
  .ret
theorem Cd.spec_l16Ok_rs : Tryd.f79.results.toList = [.tmp 4] := rfl
theorem Cd.spec_l16Ok_nt : Tryd.f79.ntmps = 64 := rfl
theorem Cd.spec_l16Ok_ok : CodeIsR Tryd.prog 79 Tryd.f79 Cd.spec_l16Ok := ⟨Tryd.func79, by kernel_rfl, by decide +kernel⟩
/-- loop.example/g01012/spec.l16Text DRAWS -/
def Cd.spec_l16Text : ACode :=
  .seq (.region [⟨some 2, .mv (.const (.string ⟨#[]⟩)), none⟩] [0] []) <|
  .seq (.region [⟨some 4, .mv (.tmp 0), none⟩,
     ⟨some 5, .nilc (.tmp 4), none⟩,
     ⟨some 6, .fieldAddr 5 (.tmp 5), none⟩,
     ⟨some 7, .load true 2 (.tmp 6), none⟩,
     ⟨some 8, .call (.func F.spec_l15Field) [(.tmp 7)] [], none⟩,
     ⟨some 9, .binS .add (.const (.string ⟨#[115, 117, 109, 32]⟩)) (.tmp 8), none⟩,
     ⟨some 10, .binS .add (.tmp 9) (.const (.string ⟨#[32, 98, 121, 32]⟩)), none⟩,
     ⟨some 11, .mv (.tmp 0), none⟩,
     ⟨some 12, .nilc (.tmp 11), none⟩,
     ⟨some 13, .fieldAddr 3 (.tmp 12), none⟩,
     ⟨some 14, .load true 2 (.tmp 13), none⟩,
     ⟨some 15, .call (.func F.spec_l15Field) [(.tmp 14)] [], none⟩,
     ⟨some 16, .binS .add (.tmp 10) (.tmp 15), none⟩,
     ⟨some 3, .mv (.tmp 16), none⟩] [0, 3] [4, 6, 7, 5, 8, 9, 10, 11, 12, 13, 14, 15, 16]) <|
  .seq (.seq (.region [⟨some 17, .mv (.tmp 0), none⟩,
      ⟨some 18, .nilc (.tmp 17), none⟩,
      ⟨some 19, .fieldAddr 2 (.tmp 18), none⟩,
      ⟨some 20, .load false 1 (.tmp 19), none⟩,
      ⟨some 21, .binS .neq (.tmp 20) (.const (.string ⟨#[]⟩)), none⟩] [0, 3, 21] []) <|
   .cond (.tmp 21)
     (.region [⟨some 22, .mv (.tmp 3), none⟩,
       ⟨some 23, .mv (.tmp 0), none⟩,
       ⟨some 24, .nilc (.tmp 23), none⟩,
       ⟨some 25, .fieldAddr 0 (.tmp 24), none⟩,
       ⟨some 26, .load true 2 (.tmp 25), none⟩,
       ⟨some 27, .call (.func F.spec_l15Field) [(.tmp 26)] [], none⟩,
       ⟨some 28, .binS .add (.const (.string ⟨#[32, 119, 104, 101, 114, 101, 32]⟩)) (.tmp 27), none⟩,
       ⟨some 29, .binS .add (.tmp 28) (.const (.string ⟨#[32, 61]⟩)), none⟩,
       ⟨some 30, .mv (.tmp 0), none⟩,
       ⟨some 31, .nilc (.tmp 30), none⟩,
       ⟨some 32, .fieldAddr 2 (.tmp 31), none⟩,
       ⟨some 33, .load false 1 (.tmp 32), none⟩,
       ⟨some 34, .binS .add (.tmp 29) (.tmp 33), none⟩,
       ⟨some 35, .binS .add (.tmp 22) (.tmp 34), none⟩,
       ⟨some 3, .mv (.tmp 35), none⟩] [3] [22, 23, 24, 25, 26, 27, 28, 29, 30, 31, 32, 33, 34, 35])
     (.skip)) <|
  .seq (.region [⟨some 36, .mv (.tmp 3), none⟩,
     ⟨some 2, .mv (.tmp 36), none⟩] [2] []) <|
  .ret
theorem Cd.spec_l16Text_rs : Tryd.f80.results.toList = [.tmp 2] := rfl
theorem Cd.spec_l16Text_nt : Tryd.f80.ntmps = 37 := rfl
theorem Cd.spec_l16Text_ok : CodeIsR Tryd.prog 80 Tryd.f80 Cd.spec_l16Text := ⟨Tryd.func80, by kernel_rfl, by decide +kernel⟩
/-- loop.example/g01012/impl.ValidSpec -/
def Cd.impl_ValidSpec : ACode :=
  .seq (.region [⟨some 2, .box (.tmp 0), none⟩,
     ⟨some 4, .mv (.const (.bool false)), none⟩] [1, 2] []) <|
  .seq (.seq (.region [⟨some 5, .mv (.tmp 1), none⟩,
      ⟨some 6, .call (.func F.impl_inside) [(.tmp 5), (.const (.int .i64 (1))), (.const (.int .i64 (20)))] [], none⟩,
      ⟨some 7, .un .not (.tmp 6), none⟩,
      ⟨some 8, .mv (.tmp 7), none⟩,
      ⟨some 9, .fieldAddr 3 (.tmp 2), some (8, false)⟩,
      ⟨some 10, .load true 2 (.tmp 9), some (8, false)⟩,
      ⟨some 11, .mv (.tmp 1), some (8, false)⟩,
      ⟨some 12, .call (.func F.impl_isField) [(.tmp 10), (.tmp 11)] [], some (8, false)⟩,
      ⟨some 13, .un .not (.tmp 12), some (8, false)⟩,
      ⟨some 14, .pick (.tmp 8) (.const (.bool true)) (.tmp 13), none⟩,
      ⟨some 15, .mv (.tmp 14), none⟩,
      ⟨some 16, .fieldAddr 5 (.tmp 2), some (15, false)⟩,
      ⟨some 17, .load true 2 (.tmp 16), some (15, false)⟩,
      ⟨some 18, .mv (.tmp 1), some (15, false)⟩,
      ⟨some 19, .call (.func F.impl_isNumberField) [(.tmp 17), (.tmp 18)] [], some (15, false)⟩,
      ⟨some 20, .un .not (.tmp 19), some (15, false)⟩,
      ⟨some 21, .pick (.tmp 15) (.const (.bool true)) (.tmp 20), none⟩] [1, 2, 21] []) <|
   .cond (.tmp 21)
     (.seq (.region [⟨some 4, .mv (.const (.bool false)), none⟩] [4] []) <|
     .ret)
     (.skip)) <|
  .seq (.seq (.region [⟨some 22, .fieldAddr 2 (.tmp 2), none⟩,
      ⟨some 23, .load false 1 (.tmp 22), none⟩,
      ⟨some 24, .binS .eql (.tmp 23) (.const (.string ⟨#[]⟩)), none⟩] [1, 2, 24] []) <|
   .cond (.tmp 24)
     (.seq (.region [⟨some 25, .fieldAddr 0 (.tmp 2), none⟩,
        ⟨some 26, .load true 2 (.tmp 25), none⟩,
        ⟨some 27, .build [.v (.int .i64 (0)), .v (.int .i64 (0))] [], none⟩,
        ⟨some 28, .eqA false [0, 0] (.tmp 26) (.tmp 27), none⟩,
        ⟨some 4, .mv (.tmp 28), none⟩] [4] []) <|
     .ret)
     (.skip)) <|
  .seq (.region [⟨some 29, .fieldAddr 0 (.tmp 2), none⟩,
     ⟨some 30, .load true 2 (.tmp 29), none⟩,
     ⟨some 31, .mv (.tmp 1), none⟩,
     ⟨some 32, .call (.func F.impl_isField) [(.tmp 30), (.tmp 31)] [], none⟩,
     ⟨some 33, .mv (.tmp 32), none⟩,
     ⟨some 34, .fieldAddr 2 (.tmp 2), some (33, true)⟩,
     ⟨some 35, .load false 1 (.tmp 34), some (33, true)⟩,
     ⟨some 36, .call (.func F.impl_areCharacters) [(.tmp 35)] [], some (33, true)⟩,
     ⟨some 37, .pick (.tmp 33) (.tmp 36) (.const (.bool false)), none⟩,
     ⟨some 38, .mv (.tmp 37), none⟩,
     ⟨some 39, .fieldAddr 2 (.tmp 2), some (38, true)⟩,
     ⟨some 40, .load false 1 (.tmp 39), some (38, true)⟩,
     ⟨some 41, .lenS (.tmp 40), some (38, true)⟩,
     ⟨some 42, .fieldAddr 0 (.tmp 2), some (38, true)⟩,
     ⟨some 43, .fieldAddr 1 (.tmp 42), some (38, true)⟩,
     ⟨some 44, .load false 1 (.tmp 43), some (38, true)⟩,
     ⟨some 45, .fieldAddr 0 (.tmp 2), some (38, true)⟩,
     ⟨some 46, .fieldAddr 0 (.tmp 45), some (38, true)⟩,
     ⟨some 47, .load false 1 (.tmp 46), some (38, true)⟩,
     ⟨some 48, .bin .sub (.tmp 44) (.tmp 47), some (38, true)⟩,
     ⟨some 49, .bin .eql (.tmp 41) (.tmp 48), some (38, true)⟩,
     ⟨some 50, .pick (.tmp 38) (.tmp 49) (.const (.bool false)), none⟩,
     ⟨some 4, .mv (.tmp 50), none⟩] [4] []) <|
  .ret
theorem Cd.impl_ValidSpec_rs : Tryd.f81.results.toList = [.tmp 4] := rfl
theorem Cd.impl_ValidSpec_nt : Tryd.f81.ntmps = 51 := rfl
theorem Cd.impl_ValidSpec_ok : CodeIsR Tryd.prog 81 Tryd.f81 Cd.impl_ValidSpec := ⟨Tryd.func81, by kernel_rfl, by decide +kernel⟩
/-- loop.example/g01012/impl.span DRAWS -/
def Cd.impl_span : ACode :=
  .seq (.region [⟨some 1, .box (.tmp 0), none⟩,
     ⟨some 2, .mv (.const (.string ⟨#[]⟩)), none⟩] [1] []) <|
  .seq (.region [⟨some 3, .fieldAddr 0 (.tmp 1), none⟩,
     ⟨some 4, .load false 1 (.tmp 3), none⟩,
     ⟨some 5, .call (.func F.impl_Decimal) [(.tmp 4)] [], none⟩,
     ⟨some 6, .binS .add (.tmp 5) (.const (.string ⟨#[45]⟩)), none⟩,
     ⟨some 7, .fieldAddr 1 (.tmp 1), none⟩,
     ⟨some 8, .load false 1 (.tmp 7), none⟩,
     ⟨some 9, .call (.func F.impl_Decimal) [(.tmp 8)] [], none⟩,
     ⟨some 10, .binS .add (.tmp 6) (.tmp 9), none⟩,
     ⟨some 2, .mv (.tmp 10), none⟩] [2] [3, 5, 6, 4, 7, 8, 9, 10]) <|
  .ret
theorem Cd.impl_span_rs : Tryd.f82.results.toList = [.tmp 2] := rfl
theorem Cd.impl_span_nt : Tryd.f82.ntmps = 11 := rfl
theorem Cd.impl_span_ok : CodeIsR Tryd.prog 82 Tryd.f82 Cd.impl_span := ⟨Tryd.func82, by kernel_rfl, by decide +kernel⟩
/-- loop.example/g01012/laws.szTotal -/
def Cd.laws_szTotal : ACode :=
  .seq (.region [⟨some 2, .box (.tmp 0), none⟩,
     ⟨some 4, .mv (.const (.int .i64 (0))), none⟩] [1, 2] []) <|
  .seq (.region [⟨some 5, .mv (.tmp 1), none⟩,
     ⟨some 6, .fieldAddr 0 (.tmp 2), none⟩,
     ⟨some 7, .load false 1 (.tmp 6), none⟩,
     ⟨some 8, .lenS (.tmp 7), none⟩,
     ⟨some 9, .bin .sub (.tmp 5) (.tmp 8), none⟩,
     ⟨some 1, .mv (.tmp 9), none⟩] [1] []) <|
  .seq (.seq (.region [⟨some 10, .mv (.tmp 1), none⟩,
      ⟨some 11, .bin .lss (.tmp 10) (.const (.int .i64 (0))), none⟩] [1, 11] []) <|
   .cond (.tmp 11)
     (.seq (.region [⟨some 4, .mv (.const (.int .i64 (-1))), none⟩] [4] []) <|
     .ret)
     (.skip)) <|
  .seq (.region [⟨some 12, .mv (.tmp 1), none⟩,
     ⟨some 4, .mv (.tmp 12), none⟩] [4] []) <|
  .ret
theorem Cd.laws_szTotal_rs : Tryd.f83.results.toList = [.tmp 4] := rfl
theorem Cd.laws_szTotal_nt : Tryd.f83.ntmps = 13 := rfl
theorem Cd.laws_szTotal_ok : CodeIsR Tryd.prog 83 Tryd.f83 Cd.laws_szTotal := ⟨Tryd.func83, by kernel_rfl, by decide +kernel⟩
/-- loop.example/g01012/laws.toTotal -/
def Cd.laws_toTotal : ACode :=
  .seq (.region [⟨some 1, .box (.tmp 0), none⟩,
     ⟨some 2, .alloc [.v (.string ⟨#[]⟩), .v (.int .i64 (0))], none⟩] [1, 2] []) <|
  .seq (.region [⟨some 3, .alloc [.v (.string ⟨#[]⟩), .v (.int .i64 (0))], none⟩] [1, 2, 3] []) <|
  .seq (.region [⟨some 4, .fieldAddr 0 (.tmp 1), none⟩,
     ⟨some 5, .load false 1 (.tmp 4), none⟩,
     ⟨some 6, .fieldAddr 0 (.tmp 3), none⟩,
     ⟨none, .store 1 (.tmp 6) (.tmp 5), none⟩] [1, 2, 3] []) <|
  .seq (.region [⟨some 7, .fieldAddr 1 (.tmp 1), none⟩,
     ⟨some 8, .load false 1 (.tmp 7), none⟩,
     ⟨some 9, .fieldAddr 1 (.tmp 3), none⟩,
     ⟨none, .store 1 (.tmp 9) (.tmp 8), none⟩] [2, 3] []) <|
  .seq (.region [⟨some 10, .load true 2 (.tmp 3), none⟩,
     ⟨none, .store 2 (.tmp 2) (.tmp 10), none⟩] [2] []) <|
  .ret
theorem Cd.laws_toTotal_rs : Tryd.f84.results.toList = [.cell 2 120] := rfl
theorem Cd.laws_toTotal_nt : Tryd.f84.ntmps = 11 := rfl
theorem Cd.laws_toTotal_ok : CodeIsR Tryd.prog 84 Tryd.f84 Cd.laws_toTotal := ⟨Tryd.func84, by kernel_rfl, by decide +kernel⟩
-- NOT COVERED strings.Join: [region 9 op 0, region 9 op 1, region 15 op 0, region 15 op 1]
/-- loop.example/g01012/laws.eqTotal -/
def Cd.laws_eqTotal : ACode :=
  .seq (.region [⟨some 2, .box (.tmp 0), none⟩,
     ⟨some 3, .box (.tmp 1), none⟩,
     ⟨some 4, .mv (.const (.bool false)), none⟩] [2, 3] []) <|
  .seq (.seq (.region [⟨some 5, .fieldAddr 0 (.tmp 2), none⟩,
      ⟨some 6, .load false 1 (.tmp 5), none⟩,
      ⟨some 7, .fieldAddr 0 (.tmp 3), none⟩,
      ⟨some 8, .load false 1 (.tmp 7), none⟩,
      ⟨some 9, .binS .neq (.tmp 6) (.tmp 8), none⟩] [2, 3, 9] []) <|
   .cond (.tmp 9)
     (.seq (.region [⟨some 4, .mv (.const (.bool false)), none⟩] [4] []) <|
     .ret)
     (.skip)) <|
  .seq (.seq (.region [⟨some 10, .fieldAddr 1 (.tmp 2), none⟩,
      ⟨some 11, .load false 1 (.tmp 10), none⟩,
      ⟨some 12, .fieldAddr 1 (.tmp 3), none⟩,
      ⟨some 13, .load false 1 (.tmp 12), none⟩,
      ⟨some 14, .bin .neq (.tmp 11) (.tmp 13), none⟩] [14] []) <|
   .cond (.tmp 14)
     (.seq (.region [⟨some 4, .mv (.const (.bool false)), none⟩] [4] []) <|
     .ret)
     (.skip)) <|
  .seq (.region [⟨some 4, .mv (.const (.bool true)), none⟩] [4] []) <|
  .ret
theorem Cd.laws_eqTotal_rs : Tryd.f86.results.toList = [.tmp 4] := rfl
theorem Cd.laws_eqTotal_nt : Tryd.f86.ntmps = 15 := rfl
theorem Cd.laws_eqTotal_ok : CodeIsR Tryd.prog 86 Tryd.f86 Cd.laws_eqTotal := ⟨Tryd.func86, by kernel_rfl, by decide +kernel⟩
/-- loop.example/g01012/spec.l15Both -/
def Cd.spec_l15Both : ACode :=
  .seq (.region [⟨some 2, .mv (.const (.bool false)), none⟩] [0] []) <|
  .seq (.region [⟨some 3, .mv (.tmp 0), none⟩,
     ⟨some 4, .call (.func F.spec_l00In) [(.tmp 3), (.const (.int .i64 (2))), (.const (.int .i64 (4)))] [], none⟩,
     ⟨some 2, .mv (.tmp 4), none⟩] [2] []) <|
  .ret
theorem Cd.spec_l15Both_rs : Tryd.f88.results.toList = [.tmp 2] := rfl
theorem Cd.spec_l15Both_nt : Tryd.f88.ntmps = 5 := rfl
theorem Cd.spec_l15Both_ok : CodeIsR Tryd.prog 88 Tryd.f88 Cd.spec_l15Both := ⟨Tryd.func88, by kernel_rfl, by decide +kernel⟩
/-- loop.example/g01012/spec.l15Field DRAWS -/
def Cd.spec_l15Field : ACode :=
  .seq (.region [⟨some 1, .box (.tmp 0), none⟩,
     ⟨some 2, .mv (.const (.string ⟨#[]⟩)), none⟩] [1] []) <|
  .seq (.region [⟨some 3, .fieldAddr 0 (.tmp 1), none⟩,
     ⟨some 4, .load false 1 (.tmp 3), none⟩,
     ⟨some 5, .call (.func F.spec_l01Dec) [(.tmp 4)] [], none⟩,
     ⟨some 6, .binS .add (.tmp 5) (.const (.string ⟨#[45]⟩)), none⟩,
     ⟨some 7, .fieldAddr 1 (.tmp 1), none⟩,
     ⟨some 8, .load false 1 (.tmp 7), none⟩,
     ⟨some 9, .call (.func F.spec_l01Dec) [(.tmp 8)] [], none⟩,
     ⟨some 10, .binS .add (.tmp 6) (.tmp 9), none⟩,
     ⟨some 2, .mv (.tmp 10), none⟩] [2] [3, 5, 6, 4, 7, 8, 9, 10]) <|
  .ret
theorem Cd.spec_l15Field_rs : Tryd.f89.results.toList = [.tmp 2] := rfl
theorem Cd.spec_l15Field_nt : Tryd.f89.ntmps = 11 := rfl
theorem Cd.spec_l15Field_ok : CodeIsR Tryd.prog 89 Tryd.f89 Cd.spec_l15Field := ⟨Tryd.func89, by kernel_rfl, by decide +kernel⟩
/-- loop.example/g01012/impl.takesTwo -/
def Cd.impl_takesTwo : ACode :=
  .seq (.region [⟨some 2, .mv (.const (.bool false)), none⟩] [0] []) <|
  .seq (.region [⟨some 3, .mv (.tmp 0), none⟩,
     ⟨some 4, .call (.func F.impl_inside) [(.tmp 3), (.const (.int .i64 (2))), (.const (.int .i64 (4)))] [], none⟩,
     ⟨some 2, .mv (.tmp 4), none⟩] [2] []) <|
  .ret
theorem Cd.impl_takesTwo_rs : Tryd.f91.results.toList = [.tmp 2] := rfl
theorem Cd.impl_takesTwo_nt : Tryd.f91.ntmps = 5 := rfl
theorem Cd.impl_takesTwo_ok : CodeIsR Tryd.prog 91 Tryd.f91 Cd.impl_takesTwo := ⟨Tryd.func91, by kernel_rfl, by decide +kernel⟩
/-- loop.example/g01012/spec.l00In -/
def Cd.spec_l00In : ACode :=
  .seq (.region [⟨some 6, .mv (.const (.bool false)), none⟩] [0, 1, 2] []) <|
  .seq (.region [⟨some 7, .mv (.tmp 0), none⟩,
     ⟨some 8, .mv (.tmp 1), none⟩,
     ⟨some 9, .bin .geq (.tmp 7) (.tmp 8), none⟩,
     ⟨some 10, .mv (.tmp 9), none⟩,
     ⟨some 11, .mv (.tmp 0), some (10, true)⟩,
     ⟨some 12, .mv (.tmp 2), some (10, true)⟩,
     ⟨some 13, .bin .leq (.tmp 11) (.tmp 12), some (10, true)⟩,
     ⟨some 14, .pick (.tmp 10) (.tmp 13) (.const (.bool false)), none⟩,
     ⟨some 6, .mv (.tmp 14), none⟩] [6] []) <|
  .ret
theorem Cd.spec_l00In_rs : Tryd.f96.results.toList = [.tmp 6] := rfl
theorem Cd.spec_l00In_nt : Tryd.f96.ntmps = 15 := rfl
theorem Cd.spec_l00In_ok : CodeIsR Tryd.prog 96 Tryd.f96 Cd.spec_l00In := ⟨Tryd.func96, by kernel_rfl, by decide +kernel⟩
/-- loop.example/g01012/spec.l02Field -/
def Cd.spec_l02Field : ACode :=
  .seq (.region [⟨some 2, .box (.tmp 0), none⟩,
     ⟨some 4, .mv (.const (.bool false)), none⟩] [1, 2] []) <|
  .seq (.region [⟨some 5, .fieldAddr 0 (.tmp 2), none⟩,
     ⟨some 6, .load false 1 (.tmp 5), none⟩,
     ⟨some 7, .bin .geq (.tmp 6) (.const (.int .i64 (0))), none⟩,
     ⟨some 8, .mv (.tmp 7), none⟩,
     ⟨some 9, .fieldAddr 0 (.tmp 2), some (8, true)⟩,
     ⟨some 10, .load false 1 (.tmp 9), some (8, true)⟩,
     ⟨some 11, .fieldAddr 1 (.tmp 2), some (8, true)⟩,
     ⟨some 12, .load false 1 (.tmp 11), some (8, true)⟩,
     ⟨some 13, .bin .lss (.tmp 10) (.tmp 12), some (8, true)⟩,
     ⟨some 14, .pick (.tmp 8) (.tmp 13) (.const (.bool false)), none⟩,
     ⟨some 15, .mv (.tmp 14), none⟩,
     ⟨some 16, .fieldAddr 1 (.tmp 2), some (15, true)⟩,
     ⟨some 17, .load false 1 (.tmp 16), some (15, true)⟩,
     ⟨some 18, .mv (.tmp 1), some (15, true)⟩,
     ⟨some 19, .bin .leq (.tmp 17) (.tmp 18), some (15, true)⟩,
     ⟨some 20, .pick (.tmp 15) (.tmp 19) (.const (.bool false)), none⟩,
     ⟨some 4, .mv (.tmp 20), none⟩] [4] []) <|
  .ret
theorem Cd.spec_l02Field_rs : Tryd.f97.results.toList = [.tmp 4] := rfl
theorem Cd.spec_l02Field_nt : Tryd.f97.ntmps = 21 := rfl
theorem Cd.spec_l02Field_ok : CodeIsR Tryd.prog 97 Tryd.f97 Cd.spec_l02Field := ⟨Tryd.func97, by kernel_rfl, by decide +kernel⟩
/-- loop.example/g01012/impl.isNumberField -/
def Cd.impl_isNumberField : ACode :=
  .seq (.region [⟨some 2, .box (.tmp 0), none⟩,
     ⟨some 4, .mv (.const (.bool false)), none⟩] [1, 2] []) <|
  .seq (.region [⟨some 5, .load true 2 (.tmp 2), none⟩,
     ⟨some 6, .mv (.tmp 1), none⟩,
     ⟨some 7, .call (.func F.impl_isField) [(.tmp 5), (.tmp 6)] [], none⟩,
     ⟨some 8, .mv (.tmp 7), none⟩,
     ⟨some 9, .fieldAddr 1 (.tmp 2), some (8, true)⟩,
     ⟨some 10, .load false 1 (.tmp 9), some (8, true)⟩,
     ⟨some 11, .fieldAddr 0 (.tmp 2), some (8, true)⟩,
     ⟨some 12, .load false 1 (.tmp 11), some (8, true)⟩,
     ⟨some 13, .bin .sub (.tmp 10) (.tmp 12), some (8, true)⟩,
     ⟨some 14, .bin .leq (.tmp 13) (.const (.int .i64 (12))), some (8, true)⟩,
     ⟨some 15, .pick (.tmp 8) (.tmp 14) (.const (.bool false)), none⟩,
     ⟨some 4, .mv (.tmp 15), none⟩] [4] []) <|
  .ret
theorem Cd.impl_isNumberField_rs : Tryd.f106.results.toList = [.tmp 4] := rfl
theorem Cd.impl_isNumberField_nt : Tryd.f106.ntmps = 16 := rfl
theorem Cd.impl_isNumberField_ok : CodeIsR Tryd.prog 106 Tryd.f106 Cd.impl_isNumberField := ⟨Tryd.func106, by kernel_rfl, by decide +kernel⟩
/-- slices.ContainsFunc[[]int64,int64] -/
def Cd.slices_ContainsFunc___int64_int64_ : ACode :=
  .seq (.region [⟨some 4, .mv (.const (.bool false)), none⟩] [0, 1] []) <|
  .seq (.region [⟨some 5, .mv (.tmp 0), none⟩,
     ⟨some 6, .mv (.tmp 1), none⟩,
     ⟨some 7, .call (.func F.slices_IndexFunc___int64_int64_) [(.tmp 5), (.tmp 6)] [], none⟩,
     ⟨some 8, .bin .geq (.tmp 7) (.const (.int .i64 (0))), none⟩,
     ⟨some 4, .mv (.tmp 8), none⟩] [4] []) <|
  .ret
theorem Cd.slices_ContainsFunc___int64_int64__rs : Tryd.f111.results.toList = [.tmp 4] := rfl
theorem Cd.slices_ContainsFunc___int64_int64__nt : Tryd.f111.ntmps = 9 := rfl
theorem Cd.slices_ContainsFunc___int64_int64__ok : CodeIsR Tryd.prog 111 Tryd.f111 Cd.slices_ContainsFunc___int64_int64_ := ⟨Tryd.func111, by kernel_rfl, by decide +kernel⟩
/-- loop.example/g01012/impl.ValidCard$1 -/
def Cd.impl_ValidCard_1 : ACode :=
  .seq (.region [⟨some 2, .mv (.const (.bool false)), none⟩] [0] []) <|
  .seq (.region [⟨some 3, .mv (.tmp 0), none⟩,
     ⟨some 4, .call (.func F.impl_inside) [(.tmp 3), (.const (.int .i64 (0))), (.const (.int .i64 (4095)))] [], none⟩,
     ⟨some 5, .un .not (.tmp 4), none⟩,
     ⟨some 2, .mv (.tmp 5), none⟩] [2] []) <|
  .ret
theorem Cd.impl_ValidCard_1_rs : Tryd.f112.results.toList = [.tmp 2] := rfl
theorem Cd.impl_ValidCard_1_nt : Tryd.f112.ntmps = 6 := rfl
theorem Cd.impl_ValidCard_1_ok : CodeIsR Tryd.prog 112 Tryd.f112 Cd.impl_ValidCard_1 := ⟨Tryd.func112, by kernel_rfl, by decide +kernel⟩
/-- loop.example/g01012/impl.size[int64] -/
def Cd.impl_size_int64_ : ACode :=
  .seq (.region [⟨some 2, .mv (.const (.int .i64 (0))), none⟩] [0] []) <|
  .seq (.region [⟨some 3, .mv (.tmp 0), none⟩,
     ⟨some 4, .len (.tmp 3), none⟩,
     ⟨some 2, .mv (.tmp 4), none⟩] [2] []) <|
  .ret
theorem Cd.impl_size_int64__rs : Tryd.f113.results.toList = [.tmp 2] := rfl
theorem Cd.impl_size_int64__nt : Tryd.f113.ntmps = 5 := rfl
theorem Cd.impl_size_int64__ok : CodeIsR Tryd.prog 113 Tryd.f113 Cd.impl_size_int64_ := ⟨Tryd.func113, by kernel_rfl, by decide +kernel⟩
/-- strconv.FormatInt -/
def Cd.strconv_FormatInt : ACode :=
  .seq (.region [⟨some 4, .mv (.const (.string ⟨#[]⟩)), none⟩] [0, 1] []) <|
  .seq (.region [⟨some 5, .mv (.tmp 0), none⟩,
     ⟨some 6, .mv (.tmp 1), none⟩,
     ⟨some 7, .call (.func F.internal_strconv_FormatInt) [(.tmp 5), (.tmp 6)] [], none⟩,
     ⟨some 4, .mv (.tmp 7), none⟩] [4] []) <|
  .ret
theorem Cd.strconv_FormatInt_rs : Tryd.f118.results.toList = [.tmp 4] := rfl
theorem Cd.strconv_FormatInt_nt : Tryd.f118.ntmps = 8 := rfl
theorem Cd.strconv_FormatInt_ok : CodeIsR Tryd.prog 118 Tryd.f118 Cd.strconv_FormatInt := ⟨Tryd.func118, by kernel_rfl, by decide +kernel⟩
/-- loop.example/g01012/spec.l09Text -/
def Cd.spec_l09Text : ACode :=
  .seq (.region [⟨some 3, .box (.tmp 1), none⟩,
     ⟨some 4, .mv (.const (.int .i64 (0))), none⟩] [0, 3] []) <|
  .seq (.seq (.region [⟨some 6, .mv (.tmp 0), none⟩,
      ⟨some 7, .lenS (.tmp 6), none⟩,
      ⟨some 8, .fieldAddr 1 (.tmp 3), none⟩,
      ⟨some 9, .load false 1 (.tmp 8), none⟩,
      ⟨some 10, .fieldAddr 0 (.tmp 3), none⟩,
      ⟨some 11, .load false 1 (.tmp 10), none⟩,
      ⟨some 12, .bin .sub (.tmp 9) (.tmp 11), none⟩,
      ⟨some 13, .bin .neq (.tmp 7) (.tmp 12), none⟩] [0, 13] []) <|
   .cond (.tmp 13)
     (.seq (.region [⟨some 4, .mv (.const (.int .i64 (2))), none⟩] [4] []) <|
     .ret)
     (.skip)) <|
  .seq (.seq (.region [⟨some 5, .mv (.const (.int .i64 (0))), none⟩] [0, 5] []) <|
   .block 0 (
     .loop (
       .seq (.seq (.region [⟨some 14, .mv (.tmp 5), none⟩,
           ⟨some 15, .mv (.tmp 0), none⟩,
           ⟨some 16, .lenS (.tmp 15), none⟩,
           ⟨some 17, .bin .lss (.tmp 14) (.tmp 16), none⟩] [0, 5, 17] []) <|
        .cond (.tmp 17)
          (.skip)
          (.exit 0)) <|
       .seq (.block 1 (
          .seq (.region [⟨some 20, .mv (.tmp 0), none⟩,
             ⟨some 21, .mv (.tmp 5), none⟩,
             ⟨some 22, .idxStr (.tmp 20) (.tmp 21), none⟩,
             ⟨some 23, .call (.func F.spec_l03Code) [(.tmp 22)] [], none⟩,
             ⟨some 24, .bin .lss (.tmp 23) (.const (.int .i64 (0))), none⟩] [0, 5, 24] []) <|
          .cond (.tmp 24)
            (.seq (.region [⟨some 4, .mv (.const (.int .i64 (7))), none⟩] [4] []) <|
            .ret)
            (.skip))) <|
       .region [⟨some 18, .mv (.tmp 5), none⟩,
         ⟨some 19, .bin .add (.tmp 18) (.const (.int .i64 (1))), none⟩,
         ⟨some 5, .mv (.tmp 19), none⟩] [0, 5] []))) <|
  .seq (.region [⟨some 4, .mv (.const (.int .i64 (0))), none⟩] [4] []) <|
  .ret
theorem Cd.spec_l09Text_rs : Tryd.f119.results.toList = [.tmp 4] := rfl
theorem Cd.spec_l09Text_nt : Tryd.f119.ntmps = 25 := rfl
theorem Cd.spec_l09Text_ok : CodeIsR Tryd.prog 119 Tryd.f119 Cd.spec_l09Text := ⟨Tryd.func119, by kernel_rfl, by decide +kernel⟩
/-- loop.example/g01012/impl.isField -/
def Cd.impl_isField : ACode :=
  .seq (.region [⟨some 2, .box (.tmp 0), none⟩,
     ⟨some 4, .mv (.const (.bool false)), none⟩] [1, 2] []) <|
  .seq (.region [⟨some 5, .fieldAddr 0 (.tmp 2), none⟩,
     ⟨some 6, .load false 1 (.tmp 5), none⟩,
     ⟨some 7, .bin .leq (.const (.int .i64 (0))) (.tmp 6), none⟩,
     ⟨some 8, .mv (.tmp 7), none⟩,
     ⟨some 9, .fieldAddr 0 (.tmp 2), some (8, true)⟩,
     ⟨some 10, .load false 1 (.tmp 9), some (8, true)⟩,
     ⟨some 11, .fieldAddr 1 (.tmp 2), some (8, true)⟩,
     ⟨some 12, .load false 1 (.tmp 11), some (8, true)⟩,
     ⟨some 13, .bin .lss (.tmp 10) (.tmp 12), some (8, true)⟩,
     ⟨some 14, .pick (.tmp 8) (.tmp 13) (.const (.bool false)), none⟩,
     ⟨some 15, .mv (.tmp 14), none⟩,
     ⟨some 16, .fieldAddr 1 (.tmp 2), some (15, true)⟩,
     ⟨some 17, .load false 1 (.tmp 16), some (15, true)⟩,
     ⟨some 18, .mv (.tmp 1), some (15, true)⟩,
     ⟨some 19, .bin .leq (.tmp 17) (.tmp 18), some (15, true)⟩,
     ⟨some 20, .pick (.tmp 15) (.tmp 19) (.const (.bool false)), none⟩,
     ⟨some 4, .mv (.tmp 20), none⟩] [4] []) <|
  .ret
theorem Cd.impl_isField_rs : Tryd.f120.results.toList = [.tmp 4] := rfl
theorem Cd.impl_isField_nt : Tryd.f120.ntmps = 21 := rfl
theorem Cd.impl_isField_ok : CodeIsR Tryd.prog 120 Tryd.f120 Cd.impl_isField := ⟨Tryd.func120, by kernel_rfl, by decide +kernel⟩
/-- loop.example/g01012/impl.areCharacters -/
def Cd.impl_areCharacters : ACode :=
  .seq (.region [⟨some 2, .mv (.const (.bool false)), none⟩] [0] []) <|
  .seq (.seq (.region [⟨some 3, .mv (.const (.int .i64 (0))), none⟩] [0, 3] []) <|
   .block 0 (
     .loop (
       .seq (.seq (.region [⟨some 4, .mv (.tmp 3), none⟩,
           ⟨some 5, .mv (.tmp 0), none⟩,
           ⟨some 6, .lenS (.tmp 5), none⟩,
           ⟨some 7, .bin .lss (.tmp 4) (.tmp 6), none⟩] [0, 3, 7] []) <|
        .cond (.tmp 7)
          (.skip)
          (.exit 0)) <|
       .seq (.block 1 (
          .seq (.region [⟨some 10, .mv (.tmp 0), none⟩,
             ⟨some 11, .mv (.tmp 3), none⟩,
             ⟨some 12, .idxStr (.tmp 10) (.tmp 11), none⟩,
             ⟨some 13, .call (.func F.impl_isCharacter) [(.tmp 12)] [], none⟩,
             ⟨some 14, .un .not (.tmp 13), none⟩] [0, 3, 14] []) <|
          .cond (.tmp 14)
            (.seq (.region [⟨some 2, .mv (.const (.bool false)), none⟩] [2] []) <|
            .ret)
            (.skip))) <|
       .region [⟨some 8, .mv (.tmp 3), none⟩,
         ⟨some 9, .bin .add (.tmp 8) (.const (.int .i64 (1))), none⟩,
         ⟨some 3, .mv (.tmp 9), none⟩] [0, 3] []))) <|
  .seq (.region [⟨some 2, .mv (.const (.bool true)), none⟩] [2] []) <|
  .ret
theorem Cd.impl_areCharacters_rs : Tryd.f121.results.toList = [.tmp 2] := rfl
theorem Cd.impl_areCharacters_nt : Tryd.f121.ntmps = 15 := rfl
theorem Cd.impl_areCharacters_ok : CodeIsR Tryd.prog 121 Tryd.f121 Cd.impl_areCharacters := ⟨Tryd.func121, by kernel_rfl, by decide +kernel⟩
-- NOT COVERED (*strings.Builder).Grow: [region 2 op 0, region 2 op 1, region 3 op 4]
-- NOT COVERED (*strings.Builder).WriteString: [region 2 op 6]
-- NOT COVERED (*strings.Builder).String: [region 1 op 4, region 1 op 10]
/-- loop.example/g01012/spec.l15Tray -/
def Cd.spec_l15Tray : ACode :=
  .seq (.region [⟨some 2, .mv (.const (.bool false)), none⟩] [0] []) <|
  .seq (.region [⟨some 3, .mv (.tmp 0), none⟩,
     ⟨some 4, .call (.func F.spec_l00In) [(.tmp 3), (.const (.int .i64 (0))), (.const (.int .i64 (5)))] [], none⟩,
     ⟨some 2, .mv (.tmp 4), none⟩] [2] []) <|
  .ret
theorem Cd.spec_l15Tray_rs : Tryd.f125.results.toList = [.tmp 2] := rfl
theorem Cd.spec_l15Tray_nt : Tryd.f125.ntmps = 5 := rfl
theorem Cd.spec_l15Tray_ok : CodeIsR Tryd.prog 125 Tryd.f125 Cd.spec_l15Tray := ⟨Tryd.func125, by kernel_rfl, by decide +kernel⟩
/-- loop.example/g01012/impl.isTray -/
def Cd.impl_isTray : ACode :=
  .seq (.region [⟨some 2, .mv (.const (.bool false)), none⟩] [0] []) <|
  .seq (.region [⟨some 3, .mv (.tmp 0), none⟩,
     ⟨some 4, .call (.func F.impl_inside) [(.tmp 3), (.const (.int .i64 (0))), (.const (.int .i64 (5)))] [], none⟩,
     ⟨some 2, .mv (.tmp 4), none⟩] [2] []) <|
  .ret
theorem Cd.impl_isTray_rs : Tryd.f126.results.toList = [.tmp 2] := rfl
theorem Cd.impl_isTray_nt : Tryd.f126.ntmps = 5 := rfl
theorem Cd.impl_isTray_ok : CodeIsR Tryd.prog 126 Tryd.f126 Cd.impl_isTray := ⟨Tryd.func126, by kernel_rfl, by decide +kernel⟩
/-- loop.example/g01012/spec.l01Digit -/
def Cd.spec_l01Digit : ACode :=
  .seq (.region [⟨some 2, .mv (.const (.bool false)), none⟩] [0] []) <|
  .seq (.region [⟨some 3, .mv (.tmp 0), none⟩,
     ⟨some 4, .bin .geq (.tmp 3) (.const (.int .u8 (48))), none⟩,
     ⟨some 5, .mv (.tmp 4), none⟩,
     ⟨some 6, .mv (.tmp 0), some (5, true)⟩,
     ⟨some 7, .bin .leq (.tmp 6) (.const (.int .u8 (57))), some (5, true)⟩,
     ⟨some 8, .pick (.tmp 5) (.tmp 7) (.const (.bool false)), none⟩,
     ⟨some 2, .mv (.tmp 8), none⟩] [2] []) <|
  .ret
theorem Cd.spec_l01Digit_rs : Tryd.f127.results.toList = [.tmp 2] := rfl
theorem Cd.spec_l01Digit_nt : Tryd.f127.ntmps = 9 := rfl
theorem Cd.spec_l01Digit_ok : CodeIsR Tryd.prog 127 Tryd.f127 Cd.spec_l01Digit := ⟨Tryd.func127, by kernel_rfl, by decide +kernel⟩
/-- loop.example/g01012/spec.l02Bit -/
def Cd.spec_l02Bit : ACode :=
  .seq (.region [⟨some 2, .mv (.const (.int .i64 (0))), none⟩] [0] []) <|
  .seq (.block 0 (
     .seq (.region [⟨some 4, .mv (.tmp 0), none⟩,
        ⟨some 5, .bin .eql (.tmp 4) (.const (.int .i64 (12))), none⟩,
        ⟨some 3, .mv (.tmp 5), none⟩] [0, 3] []) <|
     .cond (.tmp 3)
       (.seq (.region [⟨some 2, .mv (.const (.int .i64 (1))), none⟩] [2] []) <|
       .ret)
       (.seq (.region [⟨some 7, .mv (.tmp 0), none⟩,
          ⟨some 8, .bin .eql (.tmp 7) (.const (.int .i64 (11))), none⟩,
          ⟨some 6, .mv (.tmp 8), none⟩] [0, 6] []) <|
       .cond (.tmp 6)
         (.seq (.region [⟨some 2, .mv (.const (.int .i64 (2))), none⟩] [2] []) <|
         .ret)
         (.seq (.region [⟨some 10, .mv (.tmp 0), none⟩,
            ⟨some 11, .call (.func F.spec_l00In) [(.tmp 10), (.const (.int .i64 (0))), (.const (.int .i64 (9)))] [], none⟩,
            ⟨some 9, .mv (.tmp 11), none⟩] [0, 9] []) <|
         .cond (.tmp 9)
           (.seq (.region [⟨some 12, .mv (.tmp 0), none⟩,
              ⟨some 13, .conv .u64 (.tmp 12), none⟩,
              ⟨some 14, .bin .shl (.const (.int .i64 (4))) (.tmp 13), none⟩,
              ⟨some 2, .mv (.tmp 14), none⟩] [2] []) <|
           .ret)
           (.skip))))) <|
  .seq (.region [⟨some 2, .mv (.const (.int .i64 (0))), none⟩] [2] []) <|
  .ret
theorem Cd.spec_l02Bit_rs : Tryd.f144.results.toList = [.tmp 2] := rfl
theorem Cd.spec_l02Bit_nt : Tryd.f144.ntmps = 15 := rfl
theorem Cd.spec_l02Bit_ok : CodeIsR Tryd.prog 144 Tryd.f144 Cd.spec_l02Bit := ⟨Tryd.func144, by kernel_rfl, by decide +kernel⟩
/-- slices.IndexFunc[[]int64,int64] -/
def Cd.slices_IndexFunc___int64_int64_ : ACode :=
  .seq (.region [⟨some 4, .mv (.const (.int .i64 (0))), none⟩] [0, 1] []) <|
  .seq (.seq (.region [⟨some 6, .mv (.tmp 0), none⟩,
      ⟨some 7, .len (.tmp 6), none⟩,
      ⟨some 8, .mv (.const (.int .i64 (0))), none⟩] [0, 1, 7, 8] []) <|
   .block 0 (
     .loop (
       .seq (.region [⟨some 9, .bin .lss (.tmp 8) (.tmp 7), none⟩] [0, 1, 7, 8, 9] []) <|
       .seq (.cond (.tmp 9)
          (.skip)
          (.exit 0)) <|
       .seq (.block 1 (
          .seq (.region [⟨some 10, .mv (.tmp 8), none⟩,
             ⟨some 5, .mv (.tmp 10), none⟩] [0, 1, 5, 7, 8] []) <|
          .seq (.region [⟨some 11, .mv (.tmp 1), none⟩,
             ⟨some 12, .mv (.tmp 0), none⟩,
             ⟨some 13, .mv (.tmp 5), none⟩,
             ⟨some 14, .idxSl 1 (.tmp 12) (.tmp 13), none⟩,
             ⟨some 15, .load false 1 (.tmp 14), none⟩,
             ⟨some 16, .call (.tmp 11) [(.tmp 15)] [], none⟩] [0, 1, 5, 7, 8, 16] []) <|
          .cond (.tmp 16)
            (.seq (.region [⟨some 17, .mv (.tmp 5), none⟩,
               ⟨some 4, .mv (.tmp 17), none⟩] [4] []) <|
            .ret)
            (.skip))) <|
       .region [⟨some 18, .bin .add (.tmp 8) (.const (.int .i64 (1))), none⟩,
         ⟨some 8, .mv (.tmp 18), none⟩] [0, 1, 7, 8] []))) <|
  .seq (.region [⟨some 4, .mv (.const (.int .i64 (-1))), none⟩] [4] []) <|
  .ret
theorem Cd.slices_IndexFunc___int64_int64__rs : Tryd.f146.results.toList = [.tmp 4] := rfl
theorem Cd.slices_IndexFunc___int64_int64__nt : Tryd.f146.ntmps = 19 := rfl
theorem Cd.slices_IndexFunc___int64_int64__ok : CodeIsR Tryd.prog 146 Tryd.f146 Cd.slices_IndexFunc___int64_int64_ := ⟨Tryd.func146, by kernel_rfl, by decide +kernel⟩
/-- loop.example/g01012/spec.l03Code -/
def Cd.spec_l03Code : ACode :=
  .seq (.region [⟨some 2, .mv (.const (.int .i64 (0))), none⟩] [0] []) <|
  .seq (.region [⟨some 4, .mv (.tmp 0), none⟩,
     ⟨some 5, .conv .i64 (.tmp 4), none⟩,
     ⟨some 3, .mv (.tmp 5), none⟩] [0, 3] []) <|
  .seq (.block 0 (
     .seq (.region [⟨some 7, .mv (.tmp 0), none⟩,
        ⟨some 8, .bin .eql (.tmp 7) (.const (.int .u8 (32))), none⟩,
        ⟨some 6, .mv (.tmp 8), none⟩] [0, 3, 6] []) <|
     .cond (.tmp 6)
       (.seq (.region [⟨some 2, .mv (.const (.int .i64 (0))), none⟩] [2] []) <|
       .ret)
       (.seq (.region [⟨some 10, .mv (.tmp 0), none⟩,
          ⟨some 11, .bin .eql (.tmp 10) (.const (.int .u8 (38))), none⟩,
          ⟨some 9, .mv (.tmp 11), none⟩] [0, 3, 9] []) <|
       .cond (.tmp 9)
         (.seq (.region [⟨some 2, .mv (.const (.int .i64 (1))), none⟩] [2] []) <|
         .ret)
         (.seq (.region [⟨some 13, .mv (.tmp 0), none⟩,
            ⟨some 14, .bin .eql (.tmp 13) (.const (.int .u8 (45))), none⟩,
            ⟨some 12, .mv (.tmp 14), none⟩] [0, 3, 12] []) <|
         .cond (.tmp 12)
           (.seq (.region [⟨some 2, .mv (.const (.int .i64 (2))), none⟩] [2] []) <|
           .ret)
           (.seq (.region [⟨some 16, .mv (.tmp 0), none⟩,
              ⟨some 17, .bin .eql (.tmp 16) (.const (.int .u8 (47))), none⟩,
              ⟨some 15, .mv (.tmp 17), none⟩] [0, 3, 15] []) <|
           .cond (.tmp 15)
             (.seq (.region [⟨some 18, .call (.func F.spec_l02Bit) [(.const (.int .i64 (1)))] [], none⟩,
                ⟨some 19, .bin .or (.const (.int .i64 (4))) (.tmp 18), none⟩,
                ⟨some 2, .mv (.tmp 19), none⟩] [2] []) <|
             .ret)
             (.seq (.region [⟨some 21, .mv (.tmp 0), none⟩,
                ⟨some 22, .call (.func F.spec_l01Digit) [(.tmp 21)] [], none⟩,
                ⟨some 20, .mv (.tmp 22), none⟩] [0, 3, 20] []) <|
             .cond (.tmp 20)
               (.seq (.region [⟨some 23, .mv (.tmp 3), none⟩,
                  ⟨some 24, .bin .sub (.tmp 23) (.const (.int .i64 (48))), none⟩,
                  ⟨some 25, .call (.func F.spec_l02Bit) [(.tmp 24)] [], none⟩,
                  ⟨some 2, .mv (.tmp 25), none⟩] [2] []) <|
               .ret)
               (.seq (.region [⟨some 27, .mv (.tmp 0), none⟩,
                  ⟨some 28, .bin .geq (.tmp 27) (.const (.int .u8 (65))), none⟩,
                  ⟨some 29, .mv (.tmp 28), none⟩,
                  ⟨some 30, .mv (.tmp 0), some (29, true)⟩,
                  ⟨some 31, .bin .leq (.tmp 30) (.const (.int .u8 (73))), some (29, true)⟩,
                  ⟨some 32, .pick (.tmp 29) (.tmp 31) (.const (.bool false)), none⟩,
                  ⟨some 26, .mv (.tmp 32), none⟩] [0, 3, 26] []) <|
               .cond (.tmp 26)
                 (.seq (.region [⟨some 33, .mv (.tmp 3), none⟩,
                    ⟨some 34, .bin .sub (.tmp 33) (.const (.int .i64 (65))), none⟩,
                    ⟨some 35, .bin .add (.tmp 34) (.const (.int .i64 (1))), none⟩,
                    ⟨some 36, .call (.func F.spec_l02Bit) [(.tmp 35)] [], none⟩,
                    ⟨some 37, .bin .or (.const (.int .i64 (1))) (.tmp 36), none⟩,
                    ⟨some 2, .mv (.tmp 37), none⟩] [2] []) <|
                 .ret)
                 (.seq (.region [⟨some 39, .mv (.tmp 0), none⟩,
                    ⟨some 40, .bin .geq (.tmp 39) (.const (.int .u8 (74))), none⟩,
                    ⟨some 41, .mv (.tmp 40), none⟩,
                    ⟨some 42, .mv (.tmp 0), some (41, true)⟩,
                    ⟨some 43, .bin .leq (.tmp 42) (.const (.int .u8 (82))), some (41, true)⟩,
                    ⟨some 44, .pick (.tmp 41) (.tmp 43) (.const (.bool false)), none⟩,
                    ⟨some 38, .mv (.tmp 44), none⟩] [0, 3, 38] []) <|
                 .cond (.tmp 38)
                   (.seq (.region [⟨some 45, .mv (.tmp 3), none⟩,
                      ⟨some 46, .bin .sub (.tmp 45) (.const (.int .i64 (74))), none⟩,
                      ⟨some 47, .bin .add (.tmp 46) (.const (.int .i64 (1))), none⟩,
                      ⟨some 48, .call (.func F.spec_l02Bit) [(.tmp 47)] [], none⟩,
                      ⟨some 49, .bin .or (.const (.int .i64 (2))) (.tmp 48), none⟩,
                      ⟨some 2, .mv (.tmp 49), none⟩] [2] []) <|
                   .ret)
                   (.seq (.region [⟨some 51, .mv (.tmp 0), none⟩,
                      ⟨some 52, .bin .geq (.tmp 51) (.const (.int .u8 (83))), none⟩,
                      ⟨some 53, .mv (.tmp 52), none⟩,
                      ⟨some 54, .mv (.tmp 0), some (53, true)⟩,
                      ⟨some 55, .bin .leq (.tmp 54) (.const (.int .u8 (90))), some (53, true)⟩,
                      ⟨some 56, .pick (.tmp 53) (.tmp 55) (.const (.bool false)), none⟩,
                      ⟨some 50, .mv (.tmp 56), none⟩] [3, 50] []) <|
                   .cond (.tmp 50)
                     (.seq (.region [⟨some 57, .mv (.tmp 3), none⟩,
                        ⟨some 58, .bin .sub (.tmp 57) (.const (.int .i64 (83))), none⟩,
                        ⟨some 59, .bin .add (.tmp 58) (.const (.int .i64 (2))), none⟩,
                        ⟨some 60, .call (.func F.spec_l02Bit) [(.tmp 59)] [], none⟩,
                        ⟨some 61, .bin .or (.const (.int .i64 (4))) (.tmp 60), none⟩,
                        ⟨some 2, .mv (.tmp 61), none⟩] [2] []) <|
                     .ret)
                     (.skip)))))))))) <|
  .seq (.region [⟨some 2, .mv (.const (.int .i64 (-1))), none⟩] [2] []) <|
  .ret
theorem Cd.spec_l03Code_rs : Tryd.f149.results.toList = [.tmp 2] := rfl
theorem Cd.spec_l03Code_nt : Tryd.f149.ntmps = 62 := rfl
theorem Cd.spec_l03Code_ok : CodeIsR Tryd.prog 149 Tryd.f149 Cd.spec_l03Code := ⟨Tryd.func149, by kernel_rfl, by decide +kernel⟩
/-- loop.example/g01012/impl.isCharacter -/
def Cd.impl_isCharacter : ACode :=
  .seq (.region [⟨some 2, .mv (.const (.bool false)), none⟩] [0] []) <|
  .seq (.region [⟨some 3, .mv (.tmp 0), none⟩,
     ⟨some 4, .call (.func F.strings_IndexByte) [(.const (.string ⟨#[32, 38, 65, 66, 67, 68, 69, 70, 71, 72, 73, 45, 74, 75, 76, 77, 78, 79, 80, 81, 82, 47, 83, 84, 85, 86, 87, 88, 89, 90, 48, 49, 50, 51, 52, 53, 54, 55, 56, 57]⟩)), (.tmp 3)] [], none⟩,
     ⟨some 5, .bin .geq (.tmp 4) (.const (.int .i64 (0))), none⟩,
     ⟨some 2, .mv (.tmp 5), none⟩] [2] []) <|
  .ret
theorem Cd.impl_isCharacter_rs : Tryd.f150.results.toList = [.tmp 2] := rfl
theorem Cd.impl_isCharacter_nt : Tryd.f150.ntmps = 6 := rfl
theorem Cd.impl_isCharacter_ok : CodeIsR Tryd.prog 150 Tryd.f150 Cd.impl_isCharacter := ⟨Tryd.func150, by kernel_rfl, by decide +kernel⟩
-- NOT COVERED (*strings.Builder).copyCheck: [region 0 op 4, region 1 op 2, region 1 op 4, region 2 op 5, a code that is not covered]
-- NOT COVERED (*strings.Builder).grow: [region 0 op 4, region 1 op 5]
/-- strings.IndexByte -/
def Cd.strings_IndexByte : ACode :=
  .seq (.region [⟨some 4, .mv (.const (.int .i64 (0))), none⟩] [0, 1] []) <|
  .seq (.region [⟨some 5, .mv (.tmp 0), none⟩,
     ⟨some 6, .mv (.tmp 1), none⟩,
     ⟨some 7, .call (.func F.internal_stringslite_IndexByte) [(.tmp 5), (.tmp 6)] [], none⟩,
     ⟨some 4, .mv (.tmp 7), none⟩] [4] []) <|
  .ret
theorem Cd.strings_IndexByte_rs : Tryd.f168.results.toList = [.tmp 4] := rfl
theorem Cd.strings_IndexByte_nt : Tryd.f168.ntmps = 8 := rfl
theorem Cd.strings_IndexByte_ok : CodeIsR Tryd.prog 168 Tryd.f168 Cd.strings_IndexByte := ⟨Tryd.func168, by kernel_rfl, by decide +kernel⟩
-- NOT COVERED unicode/utf8.RuneCountInString: [region 1 op 1, region 2 op 0]
/-- loop.example/g01012/impl.wheelsShow -/
def Cd.impl_wheelsShow : ACode :=
  .seq (.region [⟨some 4, .alloc [.v (.slice none 0 0)], none⟩] [0, 1, 4] []) <|
  .seq (.region [⟨some 6, .bslice 1 0 [.v (.int .i64 (0))] [], none⟩,
     ⟨some 7, .build [.v (.slice none 0 0)] [(0, 1, (.tmp 6))], none⟩,
     ⟨some 5, .alloc [.v (.slice none 0 0)], none⟩,
     ⟨none, .store 1 (.tmp 5) (.tmp 7), none⟩] [0, 1, 4, 5] []) <|
  .seq (.seq (.region [⟨some 8, .mv (.tmp 0), none⟩,
      ⟨some 9, .mv (.const (.int .i64 (0))), none⟩] [1, 4, 5, 8, 9] []) <|
   .block 0 (
     .loop (
       .seq (.region [⟨some 10, .bin .lss (.tmp 9) (.tmp 8), none⟩] [1, 4, 5, 8, 9, 10] []) <|
       .seq (.cond (.tmp 10)
          (.skip)
          (.exit 0)) <|
       .seq (.block 1 (
          .seq (.region [⟨some 11, .fieldAddr 0 (.tmp 5), none⟩,
             ⟨some 12, .load false 1 (.tmp 11), none⟩,
             ⟨some 13, .mv (.tmp 1), none⟩,
             ⟨some 14, .bin .rem (.tmp 13) (.const (.int .i64 (10))), none⟩,
             ⟨some 15, .bslice 1 1 [.v (.int .i64 (0))] [(0, (.tmp 14))], none⟩,
             ⟨some 16, .append 1 8 (.tmp 12) (.tmp 15), none⟩,
             ⟨some 17, .fieldAddr 0 (.tmp 5), none⟩,
             ⟨none, .store 1 (.tmp 17) (.tmp 16), none⟩] [1, 4, 5, 8, 9] []) <|
          .region [⟨some 18, .mv (.tmp 1), none⟩,
            ⟨some 19, .bin .quo (.tmp 18) (.const (.int .i64 (10))), none⟩,
            ⟨some 1, .mv (.tmp 19), none⟩] [1, 4, 5, 8, 9] [])) <|
       .region [⟨some 20, .bin .add (.tmp 9) (.const (.int .i64 (1))), none⟩,
         ⟨some 9, .mv (.tmp 20), none⟩] [1, 4, 5, 8, 9] []))) <|
  .seq (.region [⟨some 21, .load true 1 (.tmp 5), none⟩,
     ⟨none, .store 1 (.tmp 4) (.tmp 21), none⟩] [4] []) <|
  .ret
theorem Cd.impl_wheelsShow_rs : Tryd.f181.results.toList = [.cell 4 201] := rfl
theorem Cd.impl_wheelsShow_nt : Tryd.f181.ntmps = 22 := rfl
theorem Cd.impl_wheelsShow_ok : CodeIsR Tryd.prog 181 Tryd.f181 Cd.impl_wheelsShow := ⟨Tryd.func181, by kernel_rfl, by decide +kernel⟩
/-- internal/stringslite.IndexByte -/
def Cd.internal_stringslite_IndexByte : ACode :=
  .seq (.region [⟨some 4, .mv (.const (.int .i64 (0))), none⟩] [0, 1] []) <|
  .seq (.region [⟨some 5, .mv (.tmp 0), none⟩,
     ⟨some 6, .mv (.tmp 1), none⟩,
     ⟨some 7, .idxB (.tmp 5) (.tmp 6), none⟩,
     ⟨some 4, .mv (.tmp 7), none⟩] [4] []) <|
  .ret
theorem Cd.internal_stringslite_IndexByte_rs : Tryd.f187.results.toList = [.tmp 4] := rfl
theorem Cd.internal_stringslite_IndexByte_nt : Tryd.f187.ntmps = 8 := rfl
theorem Cd.internal_stringslite_IndexByte_ok : CodeIsR Tryd.prog 187 Tryd.f187 Cd.internal_stringslite_IndexByte := ⟨Tryd.func187, by kernel_rfl, by decide +kernel⟩
end Go.Proofs.YthpokkcbbpapdaaDoor
