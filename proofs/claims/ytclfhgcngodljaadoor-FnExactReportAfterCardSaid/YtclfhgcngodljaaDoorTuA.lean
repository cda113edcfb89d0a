/- The code of each function, resolved. -/
import Derived.Test.YtclfhgcngodljaaDoorDtC
import Derived.Test.YtclfhgcngodljaaDoorRows
namespace Go.Proofs.YtclfhgcngodljaaDoor
open Go.Vs
set_option maxRecDepth 100000
theorem Tryd.own : ownKnob Tryd.prog.godebug = none := by kernel_rfl
theorem Tryd.laidOut : laidOutB Tryd.prog = true := by kernel_rfl
theorem Tryd.mixed : Tryd.prog.follows .mixedOrders = true := Tryd.checked.mixed
namespace F
abbrev main_main : FuncId := 0
abbrev gosem_cut : FuncId := 1
abbrev gosem_cut_init : FuncId := 2
abbrev laws_FnExactReportOf : FuncId := 3
abbrev laws_FnExactMissingBy : FuncId := 4
abbrev laws_FnExactReportAfter : FuncId := 5
abbrev laws_FnExactControlOf : FuncId := 6
abbrev laws_FnExactCyclesOfDeck : FuncId := 7
abbrev spec_ReportOf : FuncId := 8
abbrev laws_toInt64S : FuncId := 9
abbrev impl_ReportOf : FuncId := 10
abbrev laws_eqReport : FuncId := 11
abbrev laws_eqInt64S : FuncId := 12
abbrev spec_MissingBy : FuncId := 13
abbrev laws_toReport : FuncId := 14
abbrev impl_MissingBy : FuncId := 15
abbrev laws_szFaultS : FuncId := 16
abbrev spec_ReportAfter : FuncId := 17
abbrev laws_toFaultS : FuncId := 18
abbrev impl_ReportAfter : FuncId := 19
abbrev laws_eqFaultS : FuncId := 20
abbrev laws_szCardS : FuncId := 21
abbrev spec_ControlOf : FuncId := 22
abbrev laws_toCardS : FuncId := 23
abbrev laws_toField : FuncId := 24
abbrev impl_ControlOf : FuncId := 25
abbrev laws_eqControl : FuncId := 26
abbrev laws_eqCardS : FuncId := 27
abbrev spec_CyclesOfDeck : FuncId := 28
abbrev impl_CyclesOfDeck : FuncId := 29
abbrev spec_l19Ok : FuncId := 30
abbrev spec_l19Report : FuncId := 31
abbrev impl_ValidAmounts : FuncId := 32
abbrev impl_reportOf : FuncId := 33
abbrev spec_l19Small : FuncId := 34
abbrev spec_l19Less : FuncId := 35
abbrev impl_isReport : FuncId := 36
abbrev _impl_Report__less : FuncId := 37
abbrev spec_l19Code : FuncId := 38
abbrev spec_l19After : FuncId := 39
abbrev laws_toFault : FuncId := 40
abbrev impl_faultCode : FuncId := 41
abbrev impl_amountsAfter : FuncId := 42
abbrev laws_eqFault : FuncId := 43
abbrev laws_szCard : FuncId := 44
abbrev spec_l02Deck : FuncId := 45
abbrev spec_l18Field : FuncId := 46
abbrev spec_l07Width : FuncId := 47
abbrev spec_l18Of : FuncId := 48
abbrev laws_toCard : FuncId := 49
abbrev impl_ValidDeck : FuncId := 50
abbrev impl_isNumberField : FuncId := 51
abbrev impl_deckColumns : FuncId := 52
abbrev impl_controlOf : FuncId := 53
abbrev laws_eqCard : FuncId := 54
abbrev spec_l14Kind : FuncId := 55
abbrev spec_l14Fields : FuncId := 56
abbrev spec_l14Read : FuncId := 57
abbrev spec_l14Do : FuncId := 58
abbrev impl_calcCode : FuncId := 59
abbrev impl_calculated : FuncId := 60
abbrev spec_l00In : FuncId := 61
abbrev spec_l19Digits : FuncId := 62
abbrev slices_ContainsFunc___int64_int64_ : FuncId := 63
abbrev impl_ValidAmounts_1 : FuncId := 64
abbrev impl_inside : FuncId := 65
abbrev impl_size_int64_ : FuncId := 66
abbrev impl_digitSum : FuncId := 67
abbrev spec_l19Faults : FuncId := 68
abbrev spec_l19Read : FuncId := 69
abbrev impl_areFaults : FuncId := 70
abbrev slices_IndexFunc___impl_Fault_impl_Fault_ : FuncId := 71
abbrev impl_amountsAfter_1 : FuncId := 72
abbrev impl_wheelsShow : FuncId := 73
abbrev impl_shown : FuncId := 74
abbrev laws_szInt64S : FuncId := 75
abbrev spec_l02Ok : FuncId := 76
abbrev spec_l02Field : FuncId := 77
abbrev spec_l03Number : FuncId := 78
abbrev spec_l02Part : FuncId := 79
abbrev spec_l18Digits : FuncId := 80
abbrev impl_ValidCard : FuncId := 81
abbrev _impl_Card__columns : FuncId := 82
abbrev impl_isField : FuncId := 83
abbrev impl_size_impl_Card_ : FuncId := 84
abbrev impl_numberIn : FuncId := 85
abbrev spec_ProductBy : FuncId := 86
abbrev spec_QuotientBy : FuncId := 87
abbrev spec_l14Number : FuncId := 88
abbrev impl_isCalc : FuncId := 89
abbrev slices_ContainsFunc___impl_Field_impl_Field_ : FuncId := 90
abbrev impl_calcCode_1 : FuncId := 91
abbrev impl_Calculate : FuncId := 92
abbrev slices_IndexFunc___int64_int64_ : FuncId := 93
abbrev impl_digitList : FuncId := 94
abbrev spec_l19Fault : FuncId := 95
abbrev spec_l19Power : FuncId := 96
abbrev impl_isFault : FuncId := 97
abbrev impl_digitAt : FuncId := 98
abbrev spec_l03Digit : FuncId := 99
abbrev impl_ValidCard_1 : FuncId := 100
abbrev impl_copyInts : FuncId := 101
abbrev impl_numberIn_1 : FuncId := 102
abbrev impl_bitOf : FuncId := 103
abbrev impl_digitOf : FuncId := 104
abbrev spec_l14Factor : FuncId := 105
abbrev spec_l14Times : FuncId := 106
abbrev spec_l14Size : FuncId := 107
abbrev spec_l14Divide : FuncId := 108
abbrev slices_IndexFunc___impl_Field_impl_Field_ : FuncId := 109
abbrev impl_isNumber : FuncId := 110
abbrev impl_ProductBy : FuncId := 111
abbrev impl_QuotientBy : FuncId := 112
abbrev impl_digitsOf : FuncId := 113
abbrev impl_absOf : FuncId := 114
abbrev spec_l19Form : FuncId := 115
abbrev spec_l02Bit : FuncId := 116
abbrev spec_l14Parts : FuncId := 117
abbrev spec_l00Max : FuncId := 118
abbrev impl_isFactor : FuncId := 119
abbrev impl_Decimal : FuncId := 120
abbrev strconv_FormatInt : FuncId := 121
abbrev internal_strconv_FormatInt : FuncId := 122
abbrev internal_strconv_small : FuncId := 123
abbrev internal_strconv_numDigits : FuncId := 124
abbrev internal_strconv_formatBase10 : FuncId := 125
abbrev internal_strconv_formatBits : FuncId := 126
abbrev internal_strconv_log10Pow2 : FuncId := 127
abbrev math_bits_Len64 : FuncId := 128
abbrev internal_strconv_bool2_int_ : FuncId := 129
abbrev internal_strconv_isPowerOfTwo : FuncId := 130
abbrev math_bits_TrailingZeros : FuncId := 131
abbrev math_bits_TrailingZeros32 : FuncId := 132
abbrev math_bits_TrailingZeros64 : FuncId := 133
abbrev _runtime_boundsError__Error : FuncId := 134
abbrev _runtime_boundsError__RuntimeError : FuncId := 135
abbrev _runtime_errorString__Error : FuncId := 136
abbrev _runtime_errorString__RuntimeError : FuncId := 137
abbrev _runtime_plainError__Error : FuncId := 138
abbrev _runtime_plainError__RuntimeError : FuncId := 139
abbrev _runtime_errorAddressString__Error : FuncId := 140
abbrev _runtime_errorAddressString__RuntimeError : FuncId := 141
abbrev __runtime_TypeAssertionError__Error : FuncId := 142
abbrev __runtime_TypeAssertionError__RuntimeError : FuncId := 143
abbrev __runtime_PanicNilError__Error : FuncId := 144
abbrev __runtime_PanicNilError__RuntimeError : FuncId := 145
abbrev __internal_abi_Type__Align : FuncId := 146
abbrev _internal_runtime_maps_unhashableTypeError__Error : FuncId := 147
abbrev _internal_runtime_maps_unhashableTypeError__RuntimeError : FuncId := 148
abbrev _impl_Control__plus : FuncId := 149
abbrev _internal_abi_Kind__String : FuncId := 150
abbrev var_s_door__gosem_cut_vars_holds_initialisers_alone__see_the_manifest_s_row_cutvarsword__look_11__test_files_too_ : FuncId := 151
abbrev var_s_door__internal_strconv_uint64pow10_is_laid_by_its_own_initialiser__plain_data__look_11_ : FuncId := 152
abbrev var_s_door__math_bits_deBruijn32tab_is_laid_by_its_own_initialiser__plain_data__look_11_ : FuncId := 153
abbrev var_s_door__math_bits_deBruijn64tab_is_laid_by_its_own_initialiser__plain_data__look_11_ : FuncId := 154
abbrev var_s_door__the_look_of_gosem_cut_vars_went_over_the_folder_that_the_caller_named_as_the_repository_s_root__look_11_ : FuncId := 155
abbrev gosem_cut_vars : FuncId := 156
end F
theorem Ld.t24 : ldOf Tryd.prog 24 = some (true, 3) := by kernel_rfl
theorem Ld.t47 : ldOf Tryd.prog 47 = some (true, 3) := by kernel_rfl
theorem Ld.t52 : ldOf Tryd.prog 52 = some (true, 2) := by kernel_rfl
theorem Ld.t67 : ldOf Tryd.prog 67 = some (true, 4) := by kernel_rfl
theorem Ld.t79 : ldOf Tryd.prog 79 = some (true, 1) := by kernel_rfl
theorem Ld.t102 : ldOf Tryd.prog 102 = some (true, 1) := by kernel_rfl
attribute [go_sem] Ld.t24 Ld.t47 Ld.t52 Ld.t67 Ld.t79 Ld.t102
/-- loop.example/g01012/laws.FnExactReportOf -/
def Cd.laws_FnExactReportOf : ACode :=
  .seq (.region [⟨some 2, .mv (.const (.bool false)), none⟩] [0] []) <|
  .seq (.seq (.region [⟨some 8, .mv (.tmp 0), none⟩,
      ⟨some 9, .len (.tmp 8), none⟩,
      ⟨some 10, .bin .gtr (.tmp 9) (.const (.int .i64 (1048576))), none⟩] [0, 10] []) <|
   .cond (.tmp 10)
     (.seq (.region [⟨some 2, .mv (.const (.bool true)), none⟩] [2] []) <|
     .ret)
     (.skip)) <|
  .seq (.region [⟨some 12, .mv (.tmp 0), none⟩,
     ⟨some 13, .call (.func F.laws_toInt64S) [(.tmp 12)] [], none⟩,
     ⟨some 14, .call (.func F.spec_ReportOf) [(.tmp 13)] [], none⟩,
     ⟨some 11, .mv (.tmp 14), none⟩,
     ⟨some 15, .extract (.tmp 11) 0, none⟩,
     ⟨some 16, .extract (.tmp 11) 1, none⟩,
     ⟨some 3, .alloc [.v (.int .i64 (0)), .v (.int .i64 (0)), .v (.int .i64 (0))], none⟩,
     ⟨none, .store 3 (.tmp 3) (.tmp 15), none⟩,
     ⟨some 4, .mv (.tmp 16), none⟩] [0, 3, 4] []) <|
  .seq (.region [⟨some 17, .mv (.tmp 0), none⟩,
     ⟨some 18, .call (.func F.laws_toInt64S) [(.tmp 17)] [], none⟩,
     ⟨some 5, .mv (.tmp 18), none⟩] [0, 3, 4, 5] []) <|
  .seq (.region [⟨some 20, .mv (.tmp 5), none⟩,
     ⟨some 21, .call (.func F.impl_ReportOf) [(.tmp 20)] [], none⟩,
     ⟨some 19, .mv (.tmp 21), none⟩,
     ⟨some 22, .extract (.tmp 19) 0, none⟩,
     ⟨some 23, .extract (.tmp 19) 1, none⟩,
     ⟨some 6, .alloc [.v (.int .i64 (0)), .v (.int .i64 (0)), .v (.int .i64 (0))], none⟩,
     ⟨none, .store 3 (.tmp 6) (.tmp 22), none⟩,
     ⟨some 7, .mv (.tmp 23), none⟩] [0, 3, 4, 5, 6, 7] []) <|
  .seq (.seq (.region [⟨some 24, .load true 3 (.tmp 6), none⟩,
      ⟨some 25, .load true 3 (.tmp 3), none⟩,
      ⟨some 26, .call (.func F.laws_eqReport) [(.tmp 24), (.tmp 25)] [], none⟩,
      ⟨some 27, .un .not (.tmp 26), none⟩,
      ⟨some 28, .mv (.tmp 27), none⟩,
      ⟨some 29, .mv (.tmp 7), some (28, false)⟩,
      ⟨some 30, .mv (.tmp 4), some (28, false)⟩,
      ⟨some 31, .bin .neq (.tmp 29) (.tmp 30), some (28, false)⟩,
      ⟨some 32, .pick (.tmp 28) (.const (.bool true)) (.tmp 31), none⟩] [0, 5, 32] []) <|
   .cond (.tmp 32)
     (.seq (.region [⟨some 2, .mv (.const (.bool false)), none⟩] [2] []) <|
     .ret)
     (.skip)) <|
  .seq (.seq (.region [⟨some 33, .mv (.tmp 5), none⟩,
      ⟨some 34, .mv (.tmp 0), none⟩,
      ⟨some 35, .call (.func F.laws_toInt64S) [(.tmp 34)] [], none⟩,
      ⟨some 36, .call (.func F.laws_eqInt64S) [(.tmp 33), (.tmp 35)] [], none⟩,
      ⟨some 37, .un .not (.tmp 36), none⟩] [37] []) <|
   .cond (.tmp 37)
     (.seq (.region [⟨some 2, .mv (.const (.bool false)), none⟩] [2] []) <|
     .ret)
     (.skip)) <|
  .seq (.region [⟨some 2, .mv (.const (.bool true)), none⟩] [2] []) <|
  .ret
theorem Cd.laws_FnExactReportOf_rs : Tryd.f3.results.toList = [.tmp 2] := rfl
theorem Cd.laws_FnExactReportOf_nt : Tryd.f3.ntmps = 38 := rfl
theorem Cd.laws_FnExactReportOf_ok : CodeIsR Tryd.prog 3 Tryd.f3 Cd.laws_FnExactReportOf := ⟨Tryd.func3, by kernel_rfl, by decide +kernel⟩
/-- loop.example/g01012/laws.FnExactMissingBy DRAWS -/
def Cd.laws_FnExactMissingBy : ACode :=
  .seq (.region [⟨some 3, .box (.tmp 1), none⟩,
     ⟨some 4, .mv (.const (.bool false)), none⟩] [0, 3] []) <|
  .seq (.seq (.region [⟨some 10, .mv (.tmp 0), none⟩,
      ⟨some 11, .len (.tmp 10), none⟩,
      ⟨some 12, .bin .gtr (.tmp 11) (.const (.int .i64 (1048576))), none⟩] [0, 3, 12] []) <|
   .cond (.tmp 12)
     (.seq (.region [⟨some 4, .mv (.const (.bool true)), none⟩] [4] []) <|
     .ret)
     (.skip)) <|
  .seq (.region [⟨some 14, .mv (.tmp 0), none⟩,
     ⟨some 15, .call (.func F.laws_toInt64S) [(.tmp 14)] [], none⟩,
     ⟨some 16, .load true 3 (.tmp 3), none⟩,
     ⟨some 17, .call (.func F.laws_toReport) [(.tmp 16)] [], none⟩,
     ⟨some 18, .call (.func F.spec_MissingBy) [(.tmp 15), (.tmp 17)] [], none⟩,
     ⟨some 13, .mv (.tmp 18), none⟩,
     ⟨some 19, .extract (.tmp 13) 0, none⟩,
     ⟨some 20, .extract (.tmp 13) 1, none⟩,
     ⟨some 5, .alloc [.v (.int .i64 (0)), .v (.int .i64 (0)), .v (.int .i64 (0))], none⟩,
     ⟨none, .store 3 (.tmp 5) (.tmp 19), none⟩,
     ⟨some 6, .mv (.tmp 20), none⟩] [0, 3, 5, 6] [14, 16, 15, 17, 18, 13, 19, 20, 5]) <|
  .seq (.region [⟨some 21, .mv (.tmp 0), none⟩,
     ⟨some 22, .call (.func F.laws_toInt64S) [(.tmp 21)] [], none⟩,
     ⟨some 7, .mv (.tmp 22), none⟩] [0, 3, 5, 6, 7] []) <|
  .seq (.region [⟨some 24, .mv (.tmp 7), none⟩,
     ⟨some 25, .load true 3 (.tmp 3), none⟩,
     ⟨some 26, .call (.func F.laws_toReport) [(.tmp 25)] [], none⟩,
     ⟨some 27, .call (.func F.impl_MissingBy) [(.tmp 24), (.tmp 26)] [], none⟩,
     ⟨some 23, .mv (.tmp 27), none⟩,
     ⟨some 28, .extract (.tmp 23) 0, none⟩,
     ⟨some 29, .extract (.tmp 23) 1, none⟩,
     ⟨some 8, .alloc [.v (.int .i64 (0)), .v (.int .i64 (0)), .v (.int .i64 (0))], none⟩,
     ⟨none, .store 3 (.tmp 8) (.tmp 28), none⟩,
     ⟨some 9, .mv (.tmp 29), none⟩] [0, 5, 6, 7, 8, 9] []) <|
  .seq (.seq (.region [⟨some 30, .load true 3 (.tmp 8), none⟩,
      ⟨some 31, .load true 3 (.tmp 5), none⟩,
      ⟨some 32, .call (.func F.laws_eqReport) [(.tmp 30), (.tmp 31)] [], none⟩,
      ⟨some 33, .un .not (.tmp 32), none⟩,
      ⟨some 34, .mv (.tmp 33), none⟩,
      ⟨some 35, .mv (.tmp 9), some (34, false)⟩,
      ⟨some 36, .mv (.tmp 6), some (34, false)⟩,
      ⟨some 37, .bin .neq (.tmp 35) (.tmp 36), some (34, false)⟩,
      ⟨some 38, .pick (.tmp 34) (.const (.bool true)) (.tmp 37), none⟩] [0, 7, 38] []) <|
   .cond (.tmp 38)
     (.seq (.region [⟨some 4, .mv (.const (.bool false)), none⟩] [4] []) <|
     .ret)
     (.skip)) <|
  .seq (.seq (.region [⟨some 39, .mv (.tmp 7), none⟩,
      ⟨some 40, .mv (.tmp 0), none⟩,
      ⟨some 41, .call (.func F.laws_toInt64S) [(.tmp 40)] [], none⟩,
      ⟨some 42, .call (.func F.laws_eqInt64S) [(.tmp 39), (.tmp 41)] [], none⟩,
      ⟨some 43, .un .not (.tmp 42), none⟩] [43] []) <|
   .cond (.tmp 43)
     (.seq (.region [⟨some 4, .mv (.const (.bool false)), none⟩] [4] []) <|
     .ret)
     (.skip)) <|
  .seq (.region [⟨some 4, .mv (.const (.bool true)), none⟩] [4] []) <|
  .ret
theorem Cd.laws_FnExactMissingBy_rs : Tryd.f4.results.toList = [.tmp 4] := rfl
theorem Cd.laws_FnExactMissingBy_nt : Tryd.f4.ntmps = 44 := rfl
theorem Cd.laws_FnExactMissingBy_ok : CodeIsR Tryd.prog 4 Tryd.f4 Cd.laws_FnExactMissingBy := ⟨Tryd.func4, by kernel_rfl, by decide +kernel⟩
/-- loop.example/g01012/laws.FnExactReportAfter -/
def Cd.laws_FnExactReportAfter : ACode :=
  .seq (.region [⟨some 4, .mv (.const (.bool false)), none⟩] [0, 1] []) <|
  .seq (.seq (.region [⟨some 12, .mv (.tmp 0), none⟩,
      ⟨some 13, .len (.tmp 12), none⟩,
      ⟨some 14, .bin .gtr (.tmp 13) (.const (.int .i64 (1048576))), none⟩] [0, 1, 14] []) <|
   .cond (.tmp 14)
     (.seq (.region [⟨some 4, .mv (.const (.bool true)), none⟩] [4] []) <|
     .ret)
     (.skip)) <|
  .seq (.region [⟨some 5, .mv (.const (.int .i64 (1048576))), none⟩] [0, 1, 5] []) <|
  .seq (.region [⟨some 15, .mv (.tmp 1), none⟩,
     ⟨some 16, .mv (.tmp 5), none⟩,
     ⟨some 17, .call (.func F.laws_szFaultS) [(.tmp 15), (.tmp 16)] [], none⟩,
     ⟨some 5, .mv (.tmp 17), none⟩] [0, 1, 5] []) <|
  .seq (.seq (.region [⟨some 18, .mv (.tmp 5), none⟩,
      ⟨some 19, .bin .lss (.tmp 18) (.const (.int .i64 (0))), none⟩] [0, 1, 19] []) <|
   .cond (.tmp 19)
     (.seq (.region [⟨some 4, .mv (.const (.bool true)), none⟩] [4] []) <|
     .ret)
     (.skip)) <|
  .seq (.region [⟨some 21, .mv (.tmp 0), none⟩,
     ⟨some 22, .call (.func F.laws_toInt64S) [(.tmp 21)] [], none⟩,
     ⟨some 23, .mv (.tmp 1), none⟩,
     ⟨some 24, .call (.func F.laws_toFaultS) [(.tmp 23)] [], none⟩,
     ⟨some 25, .call (.func F.spec_ReportAfter) [(.tmp 22), (.tmp 24)] [], none⟩,
     ⟨some 20, .mv (.tmp 25), none⟩,
     ⟨some 26, .extract (.tmp 20) 0, none⟩,
     ⟨some 27, .extract (.tmp 20) 1, none⟩,
     ⟨some 6, .alloc [.v (.int .i64 (0)), .v (.int .i64 (0)), .v (.int .i64 (0))], none⟩,
     ⟨none, .store 3 (.tmp 6) (.tmp 26), none⟩,
     ⟨some 7, .mv (.tmp 27), none⟩] [0, 1, 6, 7] []) <|
  .seq (.region [⟨some 28, .mv (.tmp 0), none⟩,
     ⟨some 29, .call (.func F.laws_toInt64S) [(.tmp 28)] [], none⟩,
     ⟨some 8, .mv (.tmp 29), none⟩] [0, 1, 6, 7, 8] []) <|
  .seq (.region [⟨some 30, .mv (.tmp 1), none⟩,
     ⟨some 31, .call (.func F.laws_toFaultS) [(.tmp 30)] [], none⟩,
     ⟨some 9, .mv (.tmp 31), none⟩] [0, 1, 6, 7, 8, 9] []) <|
  .seq (.region [⟨some 33, .mv (.tmp 8), none⟩,
     ⟨some 34, .mv (.tmp 9), none⟩,
     ⟨some 35, .call (.func F.impl_ReportAfter) [(.tmp 33), (.tmp 34)] [], none⟩,
     ⟨some 32, .mv (.tmp 35), none⟩,
     ⟨some 36, .extract (.tmp 32) 0, none⟩,
     ⟨some 37, .extract (.tmp 32) 1, none⟩,
     ⟨some 10, .alloc [.v (.int .i64 (0)), .v (.int .i64 (0)), .v (.int .i64 (0))], none⟩,
     ⟨none, .store 3 (.tmp 10) (.tmp 36), none⟩,
     ⟨some 11, .mv (.tmp 37), none⟩] [0, 1, 6, 7, 8, 9, 10, 11] []) <|
  .seq (.seq (.region [⟨some 38, .load true 3 (.tmp 10), none⟩,
      ⟨some 39, .load true 3 (.tmp 6), none⟩,
      ⟨some 40, .call (.func F.laws_eqReport) [(.tmp 38), (.tmp 39)] [], none⟩,
      ⟨some 41, .un .not (.tmp 40), none⟩,
      ⟨some 42, .mv (.tmp 41), none⟩,
      ⟨some 43, .mv (.tmp 11), some (42, false)⟩,
      ⟨some 44, .mv (.tmp 7), some (42, false)⟩,
      ⟨some 45, .bin .neq (.tmp 43) (.tmp 44), some (42, false)⟩,
      ⟨some 46, .pick (.tmp 42) (.const (.bool true)) (.tmp 45), none⟩] [0, 1, 8, 9, 46] []) <|
   .cond (.tmp 46)
     (.seq (.region [⟨some 4, .mv (.const (.bool false)), none⟩] [4] []) <|
     .ret)
     (.skip)) <|
  .seq (.seq (.region [⟨some 47, .mv (.tmp 8), none⟩,
      ⟨some 48, .mv (.tmp 0), none⟩,
      ⟨some 49, .call (.func F.laws_toInt64S) [(.tmp 48)] [], none⟩,
      ⟨some 50, .call (.func F.laws_eqInt64S) [(.tmp 47), (.tmp 49)] [], none⟩,
      ⟨some 51, .un .not (.tmp 50), none⟩] [1, 9, 51] []) <|
   .cond (.tmp 51)
     (.seq (.region [⟨some 4, .mv (.const (.bool false)), none⟩] [4] []) <|
     .ret)
     (.skip)) <|
  .seq (.seq (.region [⟨some 52, .mv (.tmp 9), none⟩,
      ⟨some 53, .mv (.tmp 1), none⟩,
      ⟨some 54, .call (.func F.laws_toFaultS) [(.tmp 53)] [], none⟩,
      ⟨some 55, .call (.func F.laws_eqFaultS) [(.tmp 52), (.tmp 54)] [], none⟩,
      ⟨some 56, .un .not (.tmp 55), none⟩] [56] []) <|
   .cond (.tmp 56)
     (.seq (.region [⟨some 4, .mv (.const (.bool false)), none⟩] [4] []) <|
     .ret)
     (.skip)) <|
  .seq (.region [⟨some 4, .mv (.const (.bool true)), none⟩] [4] []) <|
  .ret
theorem Cd.laws_FnExactReportAfter_rs : Tryd.f5.results.toList = [.tmp 4] := rfl
theorem Cd.laws_FnExactReportAfter_nt : Tryd.f5.ntmps = 57 := rfl
theorem Cd.laws_FnExactReportAfter_ok : CodeIsR Tryd.prog 5 Tryd.f5 Cd.laws_FnExactReportAfter := ⟨Tryd.func5, by kernel_rfl, by decide +kernel⟩
/-- loop.example/g01012/spec.ReportOf -/
def Cd.spec_ReportOf : ACode :=
  .seq (.region [⟨some 2, .alloc [.v (.int .i64 (0)), .v (.int .i64 (0)), .v (.int .i64 (0))], none⟩,
     ⟨some 3, .mv (.const (.int .i64 (0))), none⟩] [0, 2] []) <|
  .seq (.seq (.region [⟨some 4, .mv (.tmp 0), none⟩,
      ⟨some 5, .call (.func F.spec_l19Ok) [(.tmp 4)] [], none⟩,
      ⟨some 6, .un .not (.tmp 5), none⟩] [0, 2, 6] []) <|
   .cond (.tmp 6)
     (.seq (.region [⟨some 7, .build [.v (.int .i64 (0)), .v (.int .i64 (0)), .v (.int .i64 (0))] [], none⟩,
        ⟨none, .store 3 (.tmp 2) (.tmp 7), none⟩,
        ⟨some 3, .mv (.const (.int .i64 (1))), none⟩] [2, 3] []) <|
     .ret)
     (.skip)) <|
  .seq (.region [⟨some 8, .mv (.tmp 0), none⟩,
     ⟨some 9, .call (.func F.spec_l19Report) [(.tmp 8)] [], none⟩,
     ⟨none, .store 3 (.tmp 2) (.tmp 9), none⟩,
     ⟨some 3, .mv (.const (.int .i64 (0))), none⟩] [2, 3] []) <|
  .ret
theorem Cd.spec_ReportOf_rs : Tryd.f8.results.toList = [.cell 2 24, .tmp 3] := rfl
theorem Cd.spec_ReportOf_nt : Tryd.f8.ntmps = 10 := rfl
theorem Cd.spec_ReportOf_ok : CodeIsR Tryd.prog 8 Tryd.f8 Cd.spec_ReportOf := ⟨Tryd.func8, by kernel_rfl, by decide +kernel⟩
/-- loop.example/g01012/laws.toInt64S -/
def Cd.laws_toInt64S : ACode :=
  .seq (.region [⟨some 2, .mv (.const (.slice none 0 0)), none⟩] [0] []) <|
  .seq (.region [⟨some 5, .mv (.tmp 0), none⟩,
     ⟨some 6, .len (.tmp 5), none⟩,
     ⟨some 7, .mk 1 8 [.v (.int .i64 (0))] (.tmp 6), none⟩,
     ⟨some 3, .mv (.tmp 7), none⟩] [0, 3] []) <|
  .seq (.seq (.region [⟨some 4, .mv (.const (.int .i64 (0))), none⟩] [0, 3, 4] []) <|
   .block 0 (
     .loop (
       .seq (.seq (.region [⟨some 8, .mv (.tmp 4), none⟩,
           ⟨some 9, .mv (.tmp 0), none⟩,
           ⟨some 10, .len (.tmp 9), none⟩,
           ⟨some 11, .bin .lss (.tmp 8) (.tmp 10), none⟩] [0, 3, 4, 11] []) <|
        .cond (.tmp 11)
          (.skip)
          (.exit 0)) <|
       .seq (.block 1 (
          .region [⟨some 14, .mv (.tmp 3), none⟩,
            ⟨some 15, .mv (.tmp 4), none⟩,
            ⟨some 16, .mv (.tmp 0), none⟩,
            ⟨some 17, .mv (.tmp 4), none⟩,
            ⟨some 18, .idxSl 1 (.tmp 16) (.tmp 17), none⟩,
            ⟨some 19, .load false 1 (.tmp 18), none⟩,
            ⟨some 20, .idxSl 1 (.tmp 14) (.tmp 15), none⟩,
            ⟨none, .store 1 (.tmp 20) (.tmp 19), none⟩] [0, 3, 4] [])) <|
       .region [⟨some 12, .mv (.tmp 4), none⟩,
         ⟨some 13, .bin .add (.tmp 12) (.const (.int .i64 (1))), none⟩,
         ⟨some 4, .mv (.tmp 13), none⟩] [0, 3, 4] []))) <|
  .seq (.region [⟨some 21, .mv (.tmp 3), none⟩,
     ⟨some 2, .mv (.tmp 21), none⟩] [2] []) <|
  .ret
theorem Cd.laws_toInt64S_rs : Tryd.f9.results.toList = [.tmp 2] := rfl
theorem Cd.laws_toInt64S_nt : Tryd.f9.ntmps = 22 := rfl
theorem Cd.laws_toInt64S_ok : CodeIsR Tryd.prog 9 Tryd.f9 Cd.laws_toInt64S := ⟨Tryd.func9, by kernel_rfl, by decide +kernel⟩
/-- loop.example/g01012/impl.ReportOf -/
def Cd.impl_ReportOf : ACode :=
  .seq (.region [⟨some 2, .alloc [.v (.int .i64 (0)), .v (.int .i64 (0)), .v (.int .i64 (0))], none⟩,
     ⟨some 3, .mv (.const (.int .i64 (0))), none⟩] [0, 2] []) <|
  .seq (.seq (.region [⟨some 4, .mv (.tmp 0), none⟩,
      ⟨some 5, .call (.func F.impl_ValidAmounts) [(.tmp 4)] [], none⟩,
      ⟨some 6, .un .not (.tmp 5), none⟩] [0, 2, 6] []) <|
   .cond (.tmp 6)
     (.seq (.region [⟨some 7, .build [.v (.int .i64 (0)), .v (.int .i64 (0)), .v (.int .i64 (0))] [], none⟩,
        ⟨none, .store 3 (.tmp 2) (.tmp 7), none⟩,
        ⟨some 3, .mv (.const (.int .i64 (1))), none⟩] [2, 3] []) <|
     .ret)
     (.skip)) <|
  .seq (.region [⟨some 8, .mv (.tmp 0), none⟩,
     ⟨some 9, .call (.func F.impl_reportOf) [(.tmp 8)] [], none⟩,
     ⟨none, .store 3 (.tmp 2) (.tmp 9), none⟩,
     ⟨some 3, .mv (.const (.int .i64 (0))), none⟩] [2, 3] []) <|
  .ret
theorem Cd.impl_ReportOf_rs : Tryd.f10.results.toList = [.cell 2 24, .tmp 3] := rfl
theorem Cd.impl_ReportOf_nt : Tryd.f10.ntmps = 10 := rfl
theorem Cd.impl_ReportOf_ok : CodeIsR Tryd.prog 10 Tryd.f10 Cd.impl_ReportOf := ⟨Tryd.func10, by kernel_rfl, by decide +kernel⟩
/-- loop.example/g01012/laws.eqReport -/
def Cd.laws_eqReport : ACode :=
  .seq (.region [⟨some 2, .box (.tmp 0), none⟩,
     ⟨some 3, .box (.tmp 1), none⟩,
     ⟨some 4, .mv (.const (.bool false)), none⟩] [2, 3] []) <|
  .seq (.seq (.region [⟨some 5, .fieldAddr 0 (.tmp 2), none⟩,
      ⟨some 6, .load false 1 (.tmp 5), none⟩,
      ⟨some 7, .fieldAddr 0 (.tmp 3), none⟩,
      ⟨some 8, .load false 1 (.tmp 7), none⟩,
      ⟨some 9, .bin .neq (.tmp 6) (.tmp 8), none⟩] [2, 3, 9] []) <|
   .cond (.tmp 9)
     (.seq (.region [⟨some 4, .mv (.const (.bool false)), none⟩] [4] []) <|
     .ret)
     (.skip)) <|
  .seq (.seq (.region [⟨some 10, .fieldAddr 1 (.tmp 2), none⟩,
      ⟨some 11, .load false 1 (.tmp 10), none⟩,
      ⟨some 12, .fieldAddr 1 (.tmp 3), none⟩,
      ⟨some 13, .load false 1 (.tmp 12), none⟩,
      ⟨some 14, .bin .neq (.tmp 11) (.tmp 13), none⟩] [2, 3, 14] []) <|
   .cond (.tmp 14)
     (.seq (.region [⟨some 4, .mv (.const (.bool false)), none⟩] [4] []) <|
     .ret)
     (.skip)) <|
  .seq (.seq (.region [⟨some 15, .fieldAddr 2 (.tmp 2), none⟩,
      ⟨some 16, .load false 1 (.tmp 15), none⟩,
      ⟨some 17, .fieldAddr 2 (.tmp 3), none⟩,
      ⟨some 18, .load false 1 (.tmp 17), none⟩,
      ⟨some 19, .bin .neq (.tmp 16) (.tmp 18), none⟩] [19] []) <|
   .cond (.tmp 19)
     (.seq (.region [⟨some 4, .mv (.const (.bool false)), none⟩] [4] []) <|
     .ret)
     (.skip)) <|
  .seq (.region [⟨some 4, .mv (.const (.bool true)), none⟩] [4] []) <|
  .ret
theorem Cd.laws_eqReport_rs : Tryd.f11.results.toList = [.tmp 4] := rfl
theorem Cd.laws_eqReport_nt : Tryd.f11.ntmps = 20 := rfl
theorem Cd.laws_eqReport_ok : CodeIsR Tryd.prog 11 Tryd.f11 Cd.laws_eqReport := ⟨Tryd.func11, by kernel_rfl, by decide +kernel⟩
/-- loop.example/g01012/laws.eqInt64S DRAWS -/
def Cd.laws_eqInt64S : ACode :=
  .seq (.region [⟨some 4, .mv (.const (.bool false)), none⟩] [0, 1] []) <|
  .seq (.seq (.region [⟨some 6, .mv (.tmp 0), none⟩,
      ⟨some 7, .len (.tmp 6), none⟩,
      ⟨some 8, .mv (.tmp 1), none⟩,
      ⟨some 9, .len (.tmp 8), none⟩,
      ⟨some 10, .bin .neq (.tmp 7) (.tmp 9), none⟩] [0, 1, 10] []) <|
   .cond (.tmp 10)
     (.seq (.region [⟨some 4, .mv (.const (.bool false)), none⟩] [4] []) <|
     .ret)
     (.skip)) <|
  .seq (.seq (.region [⟨some 5, .mv (.const (.int .i64 (0))), none⟩] [0, 1, 5] []) <|
   .block 0 (
     .loop (
       .seq (.seq (.region [⟨some 11, .mv (.tmp 5), none⟩,
           ⟨some 12, .mv (.tmp 0), none⟩,
           ⟨some 13, .len (.tmp 12), none⟩,
           ⟨some 14, .bin .lss (.tmp 11) (.tmp 13), none⟩] [0, 1, 5, 14] []) <|
        .cond (.tmp 14)
          (.skip)
          (.exit 0)) <|
       .seq (.block 1 (
          .seq (.region [⟨some 17, .mv (.tmp 0), none⟩,
             ⟨some 18, .mv (.tmp 5), none⟩,
             ⟨some 19, .idxSl 1 (.tmp 17) (.tmp 18), none⟩,
             ⟨some 20, .load false 1 (.tmp 19), none⟩,
             ⟨some 21, .mv (.tmp 1), none⟩,
             ⟨some 22, .mv (.tmp 5), none⟩,
             ⟨some 23, .idxSl 1 (.tmp 21) (.tmp 22), none⟩,
             ⟨some 24, .load false 1 (.tmp 23), none⟩,
             ⟨some 25, .bin .neq (.tmp 20) (.tmp 24), none⟩] [0, 1, 5, 25] [17, 18, 20, 21, 19, 22, 23, 24, 25]) <|
          .cond (.tmp 25)
            (.seq (.region [⟨some 4, .mv (.const (.bool false)), none⟩] [4] []) <|
            .ret)
            (.skip))) <|
       .region [⟨some 15, .mv (.tmp 5), none⟩,
         ⟨some 16, .bin .add (.tmp 15) (.const (.int .i64 (1))), none⟩,
         ⟨some 5, .mv (.tmp 16), none⟩] [0, 1, 5] []))) <|
  .seq (.region [⟨some 4, .mv (.const (.bool true)), none⟩] [4] []) <|
  .ret
theorem Cd.laws_eqInt64S_rs : Tryd.f12.results.toList = [.tmp 4] := rfl
theorem Cd.laws_eqInt64S_nt : Tryd.f12.ntmps = 26 := rfl
theorem Cd.laws_eqInt64S_ok : CodeIsR Tryd.prog 12 Tryd.f12 Cd.laws_eqInt64S := ⟨Tryd.func12, by kernel_rfl, by decide +kernel⟩
/-- loop.example/g01012/spec.MissingBy DRAWS -/
def Cd.spec_MissingBy : ACode :=
  .seq (.region [⟨some 3, .box (.tmp 1), none⟩,
     ⟨some 4, .alloc [.v (.int .i64 (0)), .v (.int .i64 (0)), .v (.int .i64 (0))], none⟩,
     ⟨some 5, .mv (.const (.int .i64 (0))), none⟩] [0, 3, 4] []) <|
  .seq (.seq (.region [⟨some 6, .mv (.tmp 0), none⟩,
      ⟨some 7, .call (.func F.spec_l19Ok) [(.tmp 6)] [], none⟩,
      ⟨some 8, .un .not (.tmp 7), none⟩] [0, 3, 4, 8] []) <|
   .cond (.tmp 8)
     (.seq (.region [⟨some 9, .build [.v (.int .i64 (0)), .v (.int .i64 (0)), .v (.int .i64 (0))] [], none⟩,
        ⟨none, .store 3 (.tmp 4) (.tmp 9), none⟩,
        ⟨some 5, .mv (.const (.int .i64 (1))), none⟩] [4, 5] []) <|
     .ret)
     (.skip)) <|
  .seq (.seq (.region [⟨some 10, .load true 3 (.tmp 3), none⟩,
      ⟨some 11, .call (.func F.spec_l19Small) [(.tmp 10)] [], none⟩,
      ⟨some 12, .un .not (.tmp 11), none⟩] [0, 3, 4, 12] []) <|
   .cond (.tmp 12)
     (.seq (.region [⟨some 13, .build [.v (.int .i64 (0)), .v (.int .i64 (0)), .v (.int .i64 (0))] [], none⟩,
        ⟨none, .store 3 (.tmp 4) (.tmp 13), none⟩,
        ⟨some 5, .mv (.const (.int .i64 (2))), none⟩] [4, 5] []) <|
     .ret)
     (.skip)) <|
  .seq (.region [⟨some 14, .load true 3 (.tmp 3), none⟩,
     ⟨some 15, .mv (.tmp 0), none⟩,
     ⟨some 16, .call (.func F.spec_l19Report) [(.tmp 15)] [], none⟩,
     ⟨some 17, .call (.func F.spec_l19Less) [(.tmp 14), (.tmp 16)] [], none⟩,
     ⟨none, .store 3 (.tmp 4) (.tmp 17), none⟩,
     ⟨some 5, .mv (.const (.int .i64 (0))), none⟩] [4, 5] [14, 15, 16, 17]) <|
  .ret
theorem Cd.spec_MissingBy_rs : Tryd.f13.results.toList = [.cell 4 24, .tmp 5] := rfl
theorem Cd.spec_MissingBy_nt : Tryd.f13.ntmps = 18 := rfl
theorem Cd.spec_MissingBy_ok : CodeIsR Tryd.prog 13 Tryd.f13 Cd.spec_MissingBy := ⟨Tryd.func13, by kernel_rfl, by decide +kernel⟩
/-- loop.example/g01012/laws.toReport -/
def Cd.laws_toReport : ACode :=
  .seq (.region [⟨some 1, .box (.tmp 0), none⟩,
     ⟨some 2, .alloc [.v (.int .i64 (0)), .v (.int .i64 (0)), .v (.int .i64 (0))], none⟩] [1, 2] []) <|
  .seq (.region [⟨some 3, .alloc [.v (.int .i64 (0)), .v (.int .i64 (0)), .v (.int .i64 (0))], none⟩] [1, 2, 3] []) <|
  .seq (.region [⟨some 4, .fieldAddr 0 (.tmp 1), none⟩,
     ⟨some 5, .load false 1 (.tmp 4), none⟩,
     ⟨some 6, .fieldAddr 0 (.tmp 3), none⟩,
     ⟨none, .store 1 (.tmp 6) (.tmp 5), none⟩] [1, 2, 3] []) <|
  .seq (.region [⟨some 7, .fieldAddr 1 (.tmp 1), none⟩,
     ⟨some 8, .load false 1 (.tmp 7), none⟩,
     ⟨some 9, .fieldAddr 1 (.tmp 3), none⟩,
     ⟨none, .store 1 (.tmp 9) (.tmp 8), none⟩] [1, 2, 3] []) <|
  .seq (.region [⟨some 10, .fieldAddr 2 (.tmp 1), none⟩,
     ⟨some 11, .load false 1 (.tmp 10), none⟩,
     ⟨some 12, .fieldAddr 2 (.tmp 3), none⟩,
     ⟨none, .store 1 (.tmp 12) (.tmp 11), none⟩] [2, 3] []) <|
  .seq (.region [⟨some 13, .load true 3 (.tmp 3), none⟩,
     ⟨none, .store 3 (.tmp 2) (.tmp 13), none⟩] [2] []) <|
  .ret
theorem Cd.laws_toReport_rs : Tryd.f14.results.toList = [.cell 2 24] := rfl
theorem Cd.laws_toReport_nt : Tryd.f14.ntmps = 14 := rfl
theorem Cd.laws_toReport_ok : CodeIsR Tryd.prog 14 Tryd.f14 Cd.laws_toReport := ⟨Tryd.func14, by kernel_rfl, by decide +kernel⟩
/-- loop.example/g01012/impl.MissingBy DRAWS -/
def Cd.impl_MissingBy : ACode :=
  .seq (.region [⟨some 3, .box (.tmp 1), none⟩,
     ⟨some 4, .alloc [.v (.int .i64 (0)), .v (.int .i64 (0)), .v (.int .i64 (0))], none⟩,
     ⟨some 5, .mv (.const (.int .i64 (0))), none⟩] [0, 3, 4] []) <|
  .seq (.block 0 (
     .seq (.region [⟨some 7, .mv (.tmp 0), none⟩,
        ⟨some 8, .call (.func F.impl_ValidAmounts) [(.tmp 7)] [], none⟩,
        ⟨some 9, .un .not (.tmp 8), none⟩,
        ⟨some 6, .mv (.tmp 9), none⟩] [0, 3, 4, 6] []) <|
     .cond (.tmp 6)
       (.seq (.region [⟨some 10, .build [.v (.int .i64 (0)), .v (.int .i64 (0)), .v (.int .i64 (0))] [], none⟩,
          ⟨none, .store 3 (.tmp 4) (.tmp 10), none⟩,
          ⟨some 5, .mv (.const (.int .i64 (1))), none⟩] [4, 5] []) <|
       .ret)
       (.seq (.region [⟨some 12, .load true 3 (.tmp 3), none⟩,
          ⟨some 13, .call (.func F.impl_isReport) [(.tmp 12)] [], none⟩,
          ⟨some 14, .un .not (.tmp 13), none⟩,
          ⟨some 11, .mv (.tmp 14), none⟩] [0, 3, 4, 11] []) <|
       .cond (.tmp 11)
         (.seq (.region [⟨some 15, .build [.v (.int .i64 (0)), .v (.int .i64 (0)), .v (.int .i64 (0))] [], none⟩,
            ⟨none, .store 3 (.tmp 4) (.tmp 15), none⟩,
            ⟨some 5, .mv (.const (.int .i64 (2))), none⟩] [4, 5] []) <|
         .ret)
         (.skip)))) <|
  .seq (.region [⟨some 16, .load true 3 (.tmp 3), none⟩,
     ⟨some 17, .mv (.tmp 0), none⟩,
     ⟨some 18, .call (.func F.impl_reportOf) [(.tmp 17)] [], none⟩,
     ⟨some 19, .call (.func F._impl_Report__less) [(.tmp 16), (.tmp 18)] [], none⟩,
     ⟨none, .store 3 (.tmp 4) (.tmp 19), none⟩,
     ⟨some 5, .mv (.const (.int .i64 (0))), none⟩] [4, 5] [16, 17, 18, 19]) <|
  .ret
theorem Cd.impl_MissingBy_rs : Tryd.f15.results.toList = [.cell 4 24, .tmp 5] := rfl
theorem Cd.impl_MissingBy_nt : Tryd.f15.ntmps = 20 := rfl
theorem Cd.impl_MissingBy_ok : CodeIsR Tryd.prog 15 Tryd.f15 Cd.impl_MissingBy := ⟨Tryd.func15, by kernel_rfl, by decide +kernel⟩
/-- loop.example/g01012/laws.szFaultS -/
def Cd.laws_szFaultS : ACode :=
  .seq (.region [⟨some 4, .mv (.const (.int .i64 (0))), none⟩] [0, 1] []) <|
  .seq (.region [⟨some 5, .mv (.tmp 1), none⟩,
     ⟨some 6, .mv (.tmp 0), none⟩,
     ⟨some 7, .len (.tmp 6), none⟩,
     ⟨some 8, .bin .sub (.tmp 5) (.tmp 7), none⟩,
     ⟨some 1, .mv (.tmp 8), none⟩] [1] []) <|
  .seq (.seq (.region [⟨some 9, .mv (.tmp 1), none⟩,
      ⟨some 10, .bin .lss (.tmp 9) (.const (.int .i64 (0))), none⟩] [1, 10] []) <|
   .cond (.tmp 10)
     (.seq (.region [⟨some 4, .mv (.const (.int .i64 (-1))), none⟩] [4] []) <|
     .ret)
     (.skip)) <|
  .seq (.region [⟨some 11, .mv (.tmp 1), none⟩,
     ⟨some 4, .mv (.tmp 11), none⟩] [4] []) <|
  .ret
theorem Cd.laws_szFaultS_rs : Tryd.f16.results.toList = [.tmp 4] := rfl
theorem Cd.laws_szFaultS_nt : Tryd.f16.ntmps = 12 := rfl
theorem Cd.laws_szFaultS_ok : CodeIsR Tryd.prog 16 Tryd.f16 Cd.laws_szFaultS := ⟨Tryd.func16, by kernel_rfl, by decide +kernel⟩
/-- loop.example/g01012/spec.ReportAfter -/
def Cd.spec_ReportAfter : ACode :=
  .seq (.region [⟨some 4, .alloc [.v (.int .i64 (0)), .v (.int .i64 (0)), .v (.int .i64 (0))], none⟩,
     ⟨some 5, .mv (.const (.int .i64 (0))), none⟩] [0, 1, 4] []) <|
  .seq (.region [⟨some 7, .mv (.tmp 0), none⟩,
     ⟨some 8, .mv (.tmp 1), none⟩,
     ⟨some 9, .call (.func F.spec_l19Code) [(.tmp 7), (.tmp 8)] [], none⟩,
     ⟨some 6, .mv (.tmp 9), none⟩] [0, 1, 4, 6] []) <|
  .seq (.seq (.region [⟨some 10, .mv (.tmp 6), none⟩,
      ⟨some 11, .bin .neq (.tmp 10) (.const (.int .i64 (0))), none⟩] [0, 1, 4, 6, 11] []) <|
   .cond (.tmp 11)
     (.seq (.region [⟨some 12, .build [.v (.int .i64 (0)), .v (.int .i64 (0)), .v (.int .i64 (0))] [], none⟩,
        ⟨some 13, .mv (.tmp 6), none⟩,
        ⟨none, .store 3 (.tmp 4) (.tmp 12), none⟩,
        ⟨some 5, .mv (.tmp 13), none⟩] [4, 5] []) <|
     .ret)
     (.skip)) <|
  .seq (.region [⟨some 14, .mv (.tmp 0), none⟩,
     ⟨some 15, .mv (.tmp 1), none⟩,
     ⟨some 16, .call (.func F.spec_l19After) [(.tmp 14), (.tmp 15)] [], none⟩,
     ⟨some 17, .call (.func F.spec_l19Report) [(.tmp 16)] [], none⟩,
     ⟨none, .store 3 (.tmp 4) (.tmp 17), none⟩,
     ⟨some 5, .mv (.const (.int .i64 (0))), none⟩] [4, 5] []) <|
  .ret
theorem Cd.spec_ReportAfter_rs : Tryd.f17.results.toList = [.cell 4 24, .tmp 5] := rfl
theorem Cd.spec_ReportAfter_nt : Tryd.f17.ntmps = 18 := rfl
theorem Cd.spec_ReportAfter_ok : CodeIsR Tryd.prog 17 Tryd.f17 Cd.spec_ReportAfter := ⟨Tryd.func17, by kernel_rfl, by decide +kernel⟩
/-- loop.example/g01012/laws.toFaultS -/
def Cd.laws_toFaultS : ACode :=
  .seq (.region [⟨some 2, .mv (.const (.slice none 0 0)), none⟩] [0] []) <|
  .seq (.region [⟨some 5, .mv (.tmp 0), none⟩,
     ⟨some 6, .len (.tmp 5), none⟩,
     ⟨some 7, .mk 4 32 [.v (.int .i64 (0)), .v (.int .i64 (0)), .v (.int .i64 (0)), .v (.int .i64 (0))] (.tmp 6), none⟩,
     ⟨some 3, .mv (.tmp 7), none⟩] [0, 3] []) <|
  .seq (.seq (.region [⟨some 4, .mv (.const (.int .i64 (0))), none⟩] [0, 3, 4] []) <|
   .block 0 (
     .loop (
       .seq (.seq (.region [⟨some 8, .mv (.tmp 4), none⟩,
           ⟨some 9, .mv (.tmp 0), none⟩,
           ⟨some 10, .len (.tmp 9), none⟩,
           ⟨some 11, .bin .lss (.tmp 8) (.tmp 10), none⟩] [0, 3, 4, 11] []) <|
        .cond (.tmp 11)
          (.skip)
          (.exit 0)) <|
       .seq (.block 1 (
          .region [⟨some 14, .mv (.tmp 3), none⟩,
            ⟨some 15, .mv (.tmp 4), none⟩,
            ⟨some 16, .mv (.tmp 0), none⟩,
            ⟨some 17, .mv (.tmp 4), none⟩,
            ⟨some 18, .idxSl 4 (.tmp 16) (.tmp 17), none⟩,
            ⟨some 19, .load true 4 (.tmp 18), none⟩,
            ⟨some 20, .call (.func F.laws_toFault) [(.tmp 19)] [], none⟩,
            ⟨some 21, .idxSl 4 (.tmp 14) (.tmp 15), none⟩,
            ⟨none, .store 4 (.tmp 21) (.tmp 20), none⟩] [0, 3, 4] [])) <|
       .region [⟨some 12, .mv (.tmp 4), none⟩,
         ⟨some 13, .bin .add (.tmp 12) (.const (.int .i64 (1))), none⟩,
         ⟨some 4, .mv (.tmp 13), none⟩] [0, 3, 4] []))) <|
  .seq (.region [⟨some 22, .mv (.tmp 3), none⟩,
     ⟨some 2, .mv (.tmp 22), none⟩] [2] []) <|
  .ret
theorem Cd.laws_toFaultS_rs : Tryd.f18.results.toList = [.tmp 2] := rfl
theorem Cd.laws_toFaultS_nt : Tryd.f18.ntmps = 23 := rfl
theorem Cd.laws_toFaultS_ok : CodeIsR Tryd.prog 18 Tryd.f18 Cd.laws_toFaultS := ⟨Tryd.func18, by kernel_rfl, by decide +kernel⟩
/-- loop.example/g01012/impl.ReportAfter -/
def Cd.impl_ReportAfter : ACode :=
  .seq (.region [⟨some 4, .alloc [.v (.int .i64 (0)), .v (.int .i64 (0)), .v (.int .i64 (0))], none⟩,
     ⟨some 5, .mv (.const (.int .i64 (0))), none⟩] [0, 1, 4] []) <|
  .seq (.seq (.region [⟨some 7, .mv (.tmp 0), none⟩,
      ⟨some 8, .mv (.tmp 1), none⟩,
      ⟨some 9, .call (.func F.impl_faultCode) [(.tmp 7), (.tmp 8)] [], none⟩,
      ⟨some 6, .mv (.tmp 9), none⟩] [0, 1, 4, 6] []) <|
   .seq (.region [⟨some 10, .mv (.tmp 6), none⟩,
      ⟨some 11, .bin .neq (.tmp 10) (.const (.int .i64 (0))), none⟩] [0, 1, 4, 6, 11] []) <|
   .cond (.tmp 11)
     (.seq (.region [⟨some 12, .build [.v (.int .i64 (0)), .v (.int .i64 (0)), .v (.int .i64 (0))] [], none⟩,
        ⟨some 13, .mv (.tmp 6), none⟩,
        ⟨none, .store 3 (.tmp 4) (.tmp 12), none⟩,
        ⟨some 5, .mv (.tmp 13), none⟩] [4, 5] []) <|
     .ret)
     (.skip)) <|
  .seq (.region [⟨some 14, .mv (.tmp 0), none⟩,
     ⟨some 15, .mv (.tmp 1), none⟩,
     ⟨some 16, .call (.func F.impl_amountsAfter) [(.tmp 14), (.tmp 15)] [], none⟩,
     ⟨some 17, .call (.func F.impl_reportOf) [(.tmp 16)] [], none⟩,
     ⟨none, .store 3 (.tmp 4) (.tmp 17), none⟩,
     ⟨some 5, .mv (.const (.int .i64 (0))), none⟩] [4, 5] []) <|
  .ret
theorem Cd.impl_ReportAfter_rs : Tryd.f19.results.toList = [.cell 4 24, .tmp 5] := rfl
theorem Cd.impl_ReportAfter_nt : Tryd.f19.ntmps = 18 := rfl
theorem Cd.impl_ReportAfter_ok : CodeIsR Tryd.prog 19 Tryd.f19 Cd.impl_ReportAfter := ⟨Tryd.func19, by kernel_rfl, by decide +kernel⟩
/-- loop.example/g01012/laws.eqFaultS DRAWS -/
def Cd.laws_eqFaultS : ACode :=
  .seq (.region [⟨some 4, .mv (.const (.bool false)), none⟩] [0, 1] []) <|
  .seq (.seq (.region [⟨some 6, .mv (.tmp 0), none⟩,
      ⟨some 7, .len (.tmp 6), none⟩,
      ⟨some 8, .mv (.tmp 1), none⟩,
      ⟨some 9, .len (.tmp 8), none⟩,
      ⟨some 10, .bin .neq (.tmp 7) (.tmp 9), none⟩] [0, 1, 10] []) <|
   .cond (.tmp 10)
     (.seq (.region [⟨some 4, .mv (.const (.bool false)), none⟩] [4] []) <|
     .ret)
     (.skip)) <|
  .seq (.seq (.region [⟨some 5, .mv (.const (.int .i64 (0))), none⟩] [0, 1, 5] []) <|
   .block 0 (
     .loop (
       .seq (.seq (.region [⟨some 11, .mv (.tmp 5), none⟩,
           ⟨some 12, .mv (.tmp 0), none⟩,
           ⟨some 13, .len (.tmp 12), none⟩,
           ⟨some 14, .bin .lss (.tmp 11) (.tmp 13), none⟩] [0, 1, 5, 14] []) <|
        .cond (.tmp 14)
          (.skip)
          (.exit 0)) <|
       .seq (.block 1 (
          .seq (.region [⟨some 17, .mv (.tmp 0), none⟩,
             ⟨some 18, .mv (.tmp 5), none⟩,
             ⟨some 19, .idxSl 4 (.tmp 17) (.tmp 18), none⟩,
             ⟨some 20, .load true 4 (.tmp 19), none⟩,
             ⟨some 21, .mv (.tmp 1), none⟩,
             ⟨some 22, .mv (.tmp 5), none⟩,
             ⟨some 23, .idxSl 4 (.tmp 21) (.tmp 22), none⟩,
             ⟨some 24, .load true 4 (.tmp 23), none⟩,
             ⟨some 25, .call (.func F.laws_eqFault) [(.tmp 20), (.tmp 24)] [], none⟩,
             ⟨some 26, .un .not (.tmp 25), none⟩] [0, 1, 5, 26] [17, 18, 20, 21, 19, 22, 23, 24, 25, 26]) <|
          .cond (.tmp 26)
            (.seq (.region [⟨some 4, .mv (.const (.bool false)), none⟩] [4] []) <|
            .ret)
            (.skip))) <|
       .region [⟨some 15, .mv (.tmp 5), none⟩,
         ⟨some 16, .bin .add (.tmp 15) (.const (.int .i64 (1))), none⟩,
         ⟨some 5, .mv (.tmp 16), none⟩] [0, 1, 5] []))) <|
  .seq (.region [⟨some 4, .mv (.const (.bool true)), none⟩] [4] []) <|
  .ret
theorem Cd.laws_eqFaultS_rs : Tryd.f20.results.toList = [.tmp 4] := rfl
theorem Cd.laws_eqFaultS_nt : Tryd.f20.ntmps = 27 := rfl
theorem Cd.laws_eqFaultS_ok : CodeIsR Tryd.prog 20 Tryd.f20 Cd.laws_eqFaultS := ⟨Tryd.func20, by kernel_rfl, by decide +kernel⟩
/-- loop.example/g01012/laws.szCardS -/
def Cd.laws_szCardS : ACode :=
  .seq (.region [⟨some 4, .mv (.const (.int .i64 (0))), none⟩] [0, 1] []) <|
  .seq (.region [⟨some 6, .mv (.tmp 1), none⟩,
     ⟨some 7, .mv (.tmp 0), none⟩,
     ⟨some 8, .len (.tmp 7), none⟩,
     ⟨some 9, .bin .sub (.tmp 6) (.tmp 8), none⟩,
     ⟨some 1, .mv (.tmp 9), none⟩] [0, 1] []) <|
  .seq (.seq (.region [⟨some 10, .mv (.tmp 1), none⟩,
      ⟨some 11, .bin .lss (.tmp 10) (.const (.int .i64 (0))), none⟩] [0, 1, 11] []) <|
   .cond (.tmp 11)
     (.seq (.region [⟨some 4, .mv (.const (.int .i64 (-1))), none⟩] [4] []) <|
     .ret)
     (.skip)) <|
  .seq (.seq (.region [⟨some 5, .mv (.const (.int .i64 (0))), none⟩] [0, 1, 5] []) <|
   .block 0 (
     .loop (
       .seq (.seq (.region [⟨some 12, .mv (.tmp 5), none⟩,
           ⟨some 13, .mv (.tmp 0), none⟩,
           ⟨some 14, .len (.tmp 13), none⟩,
           ⟨some 15, .bin .lss (.tmp 12) (.tmp 14), none⟩] [0, 1, 5, 15] []) <|
        .cond (.tmp 15)
          (.skip)
          (.exit 0)) <|
       .seq (.block 1 (
          .seq (.region [⟨some 18, .mv (.tmp 0), none⟩,
             ⟨some 19, .mv (.tmp 5), none⟩,
             ⟨some 20, .idxSl 1 (.tmp 18) (.tmp 19), none⟩,
             ⟨some 21, .load true 1 (.tmp 20), none⟩,
             ⟨some 22, .mv (.tmp 1), none⟩,
             ⟨some 23, .call (.func F.laws_szCard) [(.tmp 21), (.tmp 22)] [], none⟩,
             ⟨some 1, .mv (.tmp 23), none⟩] [0, 1, 5] []) <|
          .seq (.region [⟨some 24, .mv (.tmp 1), none⟩,
             ⟨some 25, .bin .lss (.tmp 24) (.const (.int .i64 (0))), none⟩] [0, 1, 5, 25] []) <|
          .cond (.tmp 25)
            (.seq (.region [⟨some 4, .mv (.const (.int .i64 (-1))), none⟩] [4] []) <|
            .ret)
            (.skip))) <|
       .region [⟨some 16, .mv (.tmp 5), none⟩,
         ⟨some 17, .bin .add (.tmp 16) (.const (.int .i64 (1))), none⟩,
         ⟨some 5, .mv (.tmp 17), none⟩] [0, 1, 5] []))) <|
  .seq (.region [⟨some 26, .mv (.tmp 1), none⟩,
     ⟨some 4, .mv (.tmp 26), none⟩] [4] []) <|
  .ret
theorem Cd.laws_szCardS_rs : Tryd.f21.results.toList = [.tmp 4] := rfl
theorem Cd.laws_szCardS_nt : Tryd.f21.ntmps = 27 := rfl
theorem Cd.laws_szCardS_ok : CodeIsR Tryd.prog 21 Tryd.f21 Cd.laws_szCardS := ⟨Tryd.func21, by kernel_rfl, by decide +kernel⟩
/-- loop.example/g01012/laws.toCardS -/
def Cd.laws_toCardS : ACode :=
  .seq (.region [⟨some 2, .mv (.const (.slice none 0 0)), none⟩] [0] []) <|
  .seq (.region [⟨some 5, .mv (.tmp 0), none⟩,
     ⟨some 6, .len (.tmp 5), none⟩,
     ⟨some 7, .mk 1 24 [.v (.slice none 0 0)] (.tmp 6), none⟩,
     ⟨some 3, .mv (.tmp 7), none⟩] [0, 3] []) <|
  .seq (.seq (.region [⟨some 4, .mv (.const (.int .i64 (0))), none⟩] [0, 3, 4] []) <|
   .block 0 (
     .loop (
       .seq (.seq (.region [⟨some 8, .mv (.tmp 4), none⟩,
           ⟨some 9, .mv (.tmp 0), none⟩,
           ⟨some 10, .len (.tmp 9), none⟩,
           ⟨some 11, .bin .lss (.tmp 8) (.tmp 10), none⟩] [0, 3, 4, 11] []) <|
        .cond (.tmp 11)
          (.skip)
          (.exit 0)) <|
       .seq (.block 1 (
          .region [⟨some 14, .mv (.tmp 3), none⟩,
            ⟨some 15, .mv (.tmp 4), none⟩,
            ⟨some 16, .mv (.tmp 0), none⟩,
            ⟨some 17, .mv (.tmp 4), none⟩,
            ⟨some 18, .idxSl 1 (.tmp 16) (.tmp 17), none⟩,
            ⟨some 19, .load true 1 (.tmp 18), none⟩,
            ⟨some 20, .call (.func F.laws_toCard) [(.tmp 19)] [], none⟩,
            ⟨some 21, .idxSl 1 (.tmp 14) (.tmp 15), none⟩,
            ⟨none, .store 1 (.tmp 21) (.tmp 20), none⟩] [0, 3, 4] [])) <|
       .region [⟨some 12, .mv (.tmp 4), none⟩,
         ⟨some 13, .bin .add (.tmp 12) (.const (.int .i64 (1))), none⟩,
         ⟨some 4, .mv (.tmp 13), none⟩] [0, 3, 4] []))) <|
  .seq (.region [⟨some 22, .mv (.tmp 3), none⟩,
     ⟨some 2, .mv (.tmp 22), none⟩] [2] []) <|
  .ret
theorem Cd.laws_toCardS_rs : Tryd.f23.results.toList = [.tmp 2] := rfl
theorem Cd.laws_toCardS_nt : Tryd.f23.ntmps = 23 := rfl
theorem Cd.laws_toCardS_ok : CodeIsR Tryd.prog 23 Tryd.f23 Cd.laws_toCardS := ⟨Tryd.func23, by kernel_rfl, by decide +kernel⟩
/-- loop.example/g01012/laws.eqControl -/
def Cd.laws_eqControl : ACode :=
  .seq (.region [⟨some 2, .box (.tmp 0), none⟩,
     ⟨some 3, .box (.tmp 1), none⟩,
     ⟨some 4, .mv (.const (.bool false)), none⟩] [2, 3] []) <|
  .seq (.seq (.region [⟨some 5, .fieldAddr 0 (.tmp 2), none⟩,
      ⟨some 6, .load false 1 (.tmp 5), none⟩,
      ⟨some 7, .fieldAddr 0 (.tmp 3), none⟩,
      ⟨some 8, .load false 1 (.tmp 7), none⟩,
      ⟨some 9, .bin .neq (.tmp 6) (.tmp 8), none⟩] [2, 3, 9] []) <|
   .cond (.tmp 9)
     (.seq (.region [⟨some 4, .mv (.const (.bool false)), none⟩] [4] []) <|
     .ret)
     (.skip)) <|
  .seq (.seq (.region [⟨some 10, .fieldAddr 1 (.tmp 2), none⟩,
      ⟨some 11, .load false 1 (.tmp 10), none⟩,
      ⟨some 12, .fieldAddr 1 (.tmp 3), none⟩,
      ⟨some 13, .load false 1 (.tmp 12), none⟩,
      ⟨some 14, .bin .neq (.tmp 11) (.tmp 13), none⟩] [2, 3, 14] []) <|
   .cond (.tmp 14)
     (.seq (.region [⟨some 4, .mv (.const (.bool false)), none⟩] [4] []) <|
     .ret)
     (.skip)) <|
  .seq (.seq (.region [⟨some 15, .fieldAddr 2 (.tmp 2), none⟩,
      ⟨some 16, .load false 1 (.tmp 15), none⟩,
      ⟨some 17, .fieldAddr 2 (.tmp 3), none⟩,
      ⟨some 18, .load false 1 (.tmp 17), none⟩,
      ⟨some 19, .bin .neq (.tmp 16) (.tmp 18), none⟩] [19] []) <|
   .cond (.tmp 19)
     (.seq (.region [⟨some 4, .mv (.const (.bool false)), none⟩] [4] []) <|
     .ret)
     (.skip)) <|
  .seq (.region [⟨some 4, .mv (.const (.bool true)), none⟩] [4] []) <|
  .ret
theorem Cd.laws_eqControl_rs : Tryd.f26.results.toList = [.tmp 4] := rfl
theorem Cd.laws_eqControl_nt : Tryd.f26.ntmps = 20 := rfl
theorem Cd.laws_eqControl_ok : CodeIsR Tryd.prog 26 Tryd.f26 Cd.laws_eqControl := ⟨Tryd.func26, by kernel_rfl, by decide +kernel⟩
/-- loop.example/g01012/laws.eqCardS DRAWS -/
def Cd.laws_eqCardS : ACode :=
  .seq (.region [⟨some 4, .mv (.const (.bool false)), none⟩] [0, 1] []) <|
  .seq (.seq (.region [⟨some 6, .mv (.tmp 0), none⟩,
      ⟨some 7, .len (.tmp 6), none⟩,
      ⟨some 8, .mv (.tmp 1), none⟩,
      ⟨some 9, .len (.tmp 8), none⟩,
      ⟨some 10, .bin .neq (.tmp 7) (.tmp 9), none⟩] [0, 1, 10] []) <|
   .cond (.tmp 10)
     (.seq (.region [⟨some 4, .mv (.const (.bool false)), none⟩] [4] []) <|
     .ret)
     (.skip)) <|
  .seq (.seq (.region [⟨some 5, .mv (.const (.int .i64 (0))), none⟩] [0, 1, 5] []) <|
   .block 0 (
     .loop (
       .seq (.seq (.region [⟨some 11, .mv (.tmp 5), none⟩,
           ⟨some 12, .mv (.tmp 0), none⟩,
           ⟨some 13, .len (.tmp 12), none⟩,
           ⟨some 14, .bin .lss (.tmp 11) (.tmp 13), none⟩] [0, 1, 5, 14] []) <|
        .cond (.tmp 14)
          (.skip)
          (.exit 0)) <|
       .seq (.block 1 (
          .seq (.region [⟨some 17, .mv (.tmp 0), none⟩,
             ⟨some 18, .mv (.tmp 5), none⟩,
             ⟨some 19, .idxSl 1 (.tmp 17) (.tmp 18), none⟩,
             ⟨some 20, .load true 1 (.tmp 19), none⟩,
             ⟨some 21, .mv (.tmp 1), none⟩,
             ⟨some 22, .mv (.tmp 5), none⟩,
             ⟨some 23, .idxSl 1 (.tmp 21) (.tmp 22), none⟩,
             ⟨some 24, .load true 1 (.tmp 23), none⟩,
             ⟨some 25, .call (.func F.laws_eqCard) [(.tmp 20), (.tmp 24)] [], none⟩,
             ⟨some 26, .un .not (.tmp 25), none⟩] [0, 1, 5, 26] [17, 18, 20, 21, 19, 22, 23, 24, 25, 26]) <|
          .cond (.tmp 26)
            (.seq (.region [⟨some 4, .mv (.const (.bool false)), none⟩] [4] []) <|
            .ret)
            (.skip))) <|
       .region [⟨some 15, .mv (.tmp 5), none⟩,
         ⟨some 16, .bin .add (.tmp 15) (.const (.int .i64 (1))), none⟩,
         ⟨some 5, .mv (.tmp 16), none⟩] [0, 1, 5] []))) <|
  .seq (.region [⟨some 4, .mv (.const (.bool true)), none⟩] [4] []) <|
  .ret
theorem Cd.laws_eqCardS_rs : Tryd.f27.results.toList = [.tmp 4] := rfl
theorem Cd.laws_eqCardS_nt : Tryd.f27.ntmps = 27 := rfl
theorem Cd.laws_eqCardS_ok : CodeIsR Tryd.prog 27 Tryd.f27 Cd.laws_eqCardS := ⟨Tryd.func27, by kernel_rfl, by decide +kernel⟩
/-- loop.example/g01012/spec.l19Ok -/
def Cd.spec_l19Ok : ACode :=
  .seq (.region [⟨some 2, .mv (.const (.bool false)), none⟩] [0] []) <|
  .seq (.seq (.region [⟨some 3, .mv (.const (.int .i64 (0))), none⟩] [0, 3] []) <|
   .block 0 (
     .loop (
       .seq (.seq (.region [⟨some 4, .mv (.tmp 3), none⟩,
           ⟨some 5, .mv (.tmp 0), none⟩,
           ⟨some 6, .len (.tmp 5), none⟩,
           ⟨some 7, .bin .lss (.tmp 4) (.tmp 6), none⟩] [0, 3, 7] []) <|
        .cond (.tmp 7)
          (.skip)
          (.exit 0)) <|
       .seq (.block 1 (
          .seq (.region [⟨some 10, .mv (.tmp 0), none⟩,
             ⟨some 11, .mv (.tmp 3), none⟩,
             ⟨some 12, .idxSl 1 (.tmp 10) (.tmp 11), none⟩,
             ⟨some 13, .load false 1 (.tmp 12), none⟩,
             ⟨some 14, .call (.func F.spec_l00In) [(.tmp 13), (.const (.int .i64 (0))), (.const (.int .i64 (9999)))] [], none⟩,
             ⟨some 15, .un .not (.tmp 14), none⟩] [0, 3, 15] []) <|
          .cond (.tmp 15)
            (.seq (.region [⟨some 2, .mv (.const (.bool false)), none⟩] [2] []) <|
            .ret)
            (.skip))) <|
       .region [⟨some 8, .mv (.tmp 3), none⟩,
         ⟨some 9, .bin .add (.tmp 8) (.const (.int .i64 (1))), none⟩,
         ⟨some 3, .mv (.tmp 9), none⟩] [0, 3] []))) <|
  .seq (.region [⟨some 16, .mv (.tmp 0), none⟩,
     ⟨some 17, .len (.tmp 16), none⟩,
     ⟨some 18, .bin .leq (.tmp 17) (.const (.int .i64 (12))), none⟩,
     ⟨some 2, .mv (.tmp 18), none⟩] [2] []) <|
  .ret
theorem Cd.spec_l19Ok_rs : Tryd.f30.results.toList = [.tmp 2] := rfl
theorem Cd.spec_l19Ok_nt : Tryd.f30.ntmps = 19 := rfl
theorem Cd.spec_l19Ok_ok : CodeIsR Tryd.prog 30 Tryd.f30 Cd.spec_l19Ok := ⟨Tryd.func30, by kernel_rfl, by decide +kernel⟩
/-- loop.example/g01012/spec.l19Report DRAWS -/
def Cd.spec_l19Report : ACode :=
  .seq (.region [⟨some 2, .alloc [.v (.int .i64 (0)), .v (.int .i64 (0)), .v (.int .i64 (0))], none⟩] [0, 2] []) <|
  .seq (.region [⟨some 5, .mv (.tmp 0), none⟩,
     ⟨some 6, .len (.tmp 5), none⟩,
     ⟨some 7, .build [.v (.int .i64 (0)), .v (.int .i64 (0)), .v (.int .i64 (0))] [(0, 1, (.tmp 6))], none⟩,
     ⟨some 3, .alloc [.v (.int .i64 (0)), .v (.int .i64 (0)), .v (.int .i64 (0))], none⟩,
     ⟨none, .store 3 (.tmp 3) (.tmp 7), none⟩] [0, 2, 3] []) <|
  .seq (.seq (.region [⟨some 4, .mv (.const (.int .i64 (0))), none⟩] [0, 2, 3, 4] []) <|
   .block 0 (
     .loop (
       .seq (.seq (.region [⟨some 8, .mv (.tmp 4), none⟩,
           ⟨some 9, .mv (.tmp 0), none⟩,
           ⟨some 10, .len (.tmp 9), none⟩,
           ⟨some 11, .bin .lss (.tmp 8) (.tmp 10), none⟩] [0, 2, 3, 4, 11] []) <|
        .cond (.tmp 11)
          (.skip)
          (.exit 0)) <|
       .seq (.block 1 (
          .seq (.region [⟨some 14, .fieldAddr 1 (.tmp 3), none⟩,
             ⟨some 15, .load false 1 (.tmp 14), none⟩,
             ⟨some 16, .mv (.tmp 0), none⟩,
             ⟨some 17, .mv (.tmp 4), none⟩,
             ⟨some 18, .idxSl 1 (.tmp 16) (.tmp 17), none⟩,
             ⟨some 19, .load false 1 (.tmp 18), none⟩,
             ⟨some 20, .bin .add (.tmp 15) (.tmp 19), none⟩,
             ⟨some 21, .fieldAddr 1 (.tmp 3), none⟩,
             ⟨none, .store 1 (.tmp 21) (.tmp 20), none⟩] [0, 2, 3, 4] [14, 16, 15, 17, 18, 19, 20]) <|
          .region [⟨some 22, .fieldAddr 2 (.tmp 3), none⟩,
            ⟨some 23, .load false 1 (.tmp 22), none⟩,
            ⟨some 24, .mv (.tmp 0), none⟩,
            ⟨some 25, .mv (.tmp 4), none⟩,
            ⟨some 26, .idxSl 1 (.tmp 24) (.tmp 25), none⟩,
            ⟨some 27, .load false 1 (.tmp 26), none⟩,
            ⟨some 28, .call (.func F.spec_l19Digits) [(.tmp 27)] [], none⟩,
            ⟨some 29, .bin .add (.tmp 23) (.tmp 28), none⟩,
            ⟨some 30, .fieldAddr 2 (.tmp 3), none⟩,
            ⟨none, .store 1 (.tmp 30) (.tmp 29), none⟩] [0, 2, 3, 4] [22, 24, 23, 25, 26, 27, 28, 29])) <|
       .region [⟨some 12, .mv (.tmp 4), none⟩,
         ⟨some 13, .bin .add (.tmp 12) (.const (.int .i64 (1))), none⟩,
         ⟨some 4, .mv (.tmp 13), none⟩] [0, 2, 3, 4] []))) <|
  .seq (.region [⟨some 31, .load true 3 (.tmp 3), none⟩,
     ⟨none, .store 3 (.tmp 2) (.tmp 31), none⟩] [2] []) <|
  .ret
theorem Cd.spec_l19Report_rs : Tryd.f31.results.toList = [.cell 2 24] := rfl
theorem Cd.spec_l19Report_nt : Tryd.f31.ntmps = 32 := rfl
theorem Cd.spec_l19Report_ok : CodeIsR Tryd.prog 31 Tryd.f31 Cd.spec_l19Report := ⟨Tryd.func31, by kernel_rfl, by decide +kernel⟩
/-- loop.example/g01012/impl.ValidAmounts -/
def Cd.impl_ValidAmounts : ACode :=
  .seq (.region [⟨some 2, .mv (.const (.bool false)), none⟩] [0] []) <|
  .seq (.region [⟨some 3, .mv (.tmp 0), none⟩,
     ⟨some 4, .len (.tmp 3), none⟩,
     ⟨some 5, .bin .leq (.tmp 4) (.const (.int .i64 (12))), none⟩,
     ⟨some 6, .mv (.tmp 5), none⟩,
     ⟨some 7, .mv (.tmp 0), some (6, true)⟩,
     ⟨some 8, .call (.func F.slices_ContainsFunc___int64_int64_) [(.tmp 7), (.func F.impl_ValidAmounts_1)] [], some (6, true)⟩,
     ⟨some 9, .un .not (.tmp 8), some (6, true)⟩,
     ⟨some 10, .pick (.tmp 6) (.tmp 9) (.const (.bool false)), none⟩,
     ⟨some 2, .mv (.tmp 10), none⟩] [2] []) <|
  .ret
theorem Cd.impl_ValidAmounts_rs : Tryd.f32.results.toList = [.tmp 2] := rfl
theorem Cd.impl_ValidAmounts_nt : Tryd.f32.ntmps = 11 := rfl
theorem Cd.impl_ValidAmounts_ok : CodeIsR Tryd.prog 32 Tryd.f32 Cd.impl_ValidAmounts := ⟨Tryd.func32, by kernel_rfl, by decide +kernel⟩
/-- loop.example/g01012/impl.reportOf DRAWS -/
def Cd.impl_reportOf : ACode :=
  .seq (.region [⟨some 2, .alloc [.v (.int .i64 (0)), .v (.int .i64 (0)), .v (.int .i64 (0))], none⟩] [0, 2] []) <|
  .seq (.region [⟨some 6, .mv (.tmp 0), none⟩,
     ⟨some 7, .call (.func F.impl_size_int64_) [(.tmp 6)] [], none⟩,
     ⟨some 8, .build [.v (.int .i64 (0)), .v (.int .i64 (0)), .v (.int .i64 (0))] [(0, 1, (.tmp 7))], none⟩,
     ⟨some 3, .alloc [.v (.int .i64 (0)), .v (.int .i64 (0)), .v (.int .i64 (0))], none⟩,
     ⟨none, .store 3 (.tmp 3) (.tmp 8), none⟩] [0, 2, 3] []) <|
  .seq (.seq (.region [⟨some 9, .mv (.tmp 0), none⟩,
      ⟨some 10, .len (.tmp 9), none⟩,
      ⟨some 11, .mv (.const (.int .i64 (0))), none⟩] [2, 3, 9, 10, 11] []) <|
   .block 0 (
     .loop (
       .seq (.region [⟨some 12, .bin .lss (.tmp 11) (.tmp 10), none⟩] [2, 3, 9, 10, 11, 12] []) <|
       .seq (.cond (.tmp 12)
          (.skip)
          (.exit 0)) <|
       .seq (.block 1 (
          .seq (.region [⟨some 13, .idxSl 1 (.tmp 9) (.tmp 11), none⟩,
             ⟨some 14, .load false 1 (.tmp 13), none⟩,
             ⟨some 5, .mv (.tmp 14), none⟩] [2, 3, 5, 9, 10, 11] []) <|
          .seq (.region [⟨some 15, .fieldAddr 1 (.tmp 3), none⟩,
             ⟨some 16, .load false 1 (.tmp 15), none⟩,
             ⟨some 17, .mv (.tmp 5), none⟩,
             ⟨some 18, .bin .add (.tmp 16) (.tmp 17), none⟩,
             ⟨some 19, .fieldAddr 1 (.tmp 3), none⟩,
             ⟨none, .store 1 (.tmp 19) (.tmp 18), none⟩] [2, 3, 5, 9, 10, 11] []) <|
          .region [⟨some 20, .fieldAddr 2 (.tmp 3), none⟩,
            ⟨some 21, .load false 1 (.tmp 20), none⟩,
            ⟨some 22, .mv (.tmp 5), none⟩,
            ⟨some 23, .call (.func F.impl_digitSum) [(.tmp 22)] [], none⟩,
            ⟨some 24, .bin .add (.tmp 21) (.tmp 23), none⟩,
            ⟨some 25, .fieldAddr 2 (.tmp 3), none⟩,
            ⟨none, .store 1 (.tmp 25) (.tmp 24), none⟩] [2, 3, 9, 10, 11] [20, 22, 21, 23, 24])) <|
       .region [⟨some 26, .bin .add (.tmp 11) (.const (.int .i64 (1))), none⟩,
         ⟨some 11, .mv (.tmp 26), none⟩] [2, 3, 9, 10, 11] []))) <|
  .seq (.region [⟨some 27, .load true 3 (.tmp 3), none⟩,
     ⟨none, .store 3 (.tmp 2) (.tmp 27), none⟩] [2] []) <|
  .ret
theorem Cd.impl_reportOf_rs : Tryd.f33.results.toList = [.cell 2 24] := rfl
theorem Cd.impl_reportOf_nt : Tryd.f33.ntmps = 28 := rfl
theorem Cd.impl_reportOf_ok : CodeIsR Tryd.prog 33 Tryd.f33 Cd.impl_reportOf := ⟨Tryd.func33, by kernel_rfl, by decide +kernel⟩
/-- loop.example/g01012/spec.l19Small -/
def Cd.spec_l19Small : ACode :=
  .seq (.region [⟨some 1, .box (.tmp 0), none⟩,
     ⟨some 2, .mv (.const (.bool false)), none⟩] [1] []) <|
  .seq (.region [⟨some 3, .fieldAddr 0 (.tmp 1), none⟩,
     ⟨some 4, .load false 1 (.tmp 3), none⟩,
     ⟨some 5, .call (.func F.spec_l00In) [(.tmp 4), (.const (.int .i64 (-1000000000))), (.const (.int .i64 (1000000000)))] [], none⟩,
     ⟨some 6, .mv (.tmp 5), none⟩,
     ⟨some 7, .fieldAddr 1 (.tmp 1), some (6, true)⟩,
     ⟨some 8, .load false 1 (.tmp 7), some (6, true)⟩,
     ⟨some 9, .call (.func F.spec_l00In) [(.tmp 8), (.const (.int .i64 (-1000000000))), (.const (.int .i64 (1000000000)))] [], some (6, true)⟩,
     ⟨some 10, .pick (.tmp 6) (.tmp 9) (.const (.bool false)), none⟩,
     ⟨some 11, .mv (.tmp 10), none⟩,
     ⟨some 12, .fieldAddr 2 (.tmp 1), some (11, true)⟩,
     ⟨some 13, .load false 1 (.tmp 12), some (11, true)⟩,
     ⟨some 14, .call (.func F.spec_l00In) [(.tmp 13), (.const (.int .i64 (-1000000000))), (.const (.int .i64 (1000000000)))] [], some (11, true)⟩,
     ⟨some 15, .pick (.tmp 11) (.tmp 14) (.const (.bool false)), none⟩,
     ⟨some 2, .mv (.tmp 15), none⟩] [2] []) <|
  .ret
theorem Cd.spec_l19Small_rs : Tryd.f34.results.toList = [.tmp 2] := rfl
theorem Cd.spec_l19Small_nt : Tryd.f34.ntmps = 16 := rfl
theorem Cd.spec_l19Small_ok : CodeIsR Tryd.prog 34 Tryd.f34 Cd.spec_l19Small := ⟨Tryd.func34, by kernel_rfl, by decide +kernel⟩
/-- loop.example/g01012/spec.l19Less -/
def Cd.spec_l19Less : ACode :=
  .seq (.region [⟨some 2, .box (.tmp 0), none⟩,
     ⟨some 3, .box (.tmp 1), none⟩,
     ⟨some 4, .alloc [.v (.int .i64 (0)), .v (.int .i64 (0)), .v (.int .i64 (0))], none⟩] [2, 3, 4] []) <|
  .seq (.region [⟨some 5, .fieldAddr 0 (.tmp 2), none⟩,
     ⟨some 6, .load false 1 (.tmp 5), none⟩,
     ⟨some 7, .fieldAddr 0 (.tmp 3), none⟩,
     ⟨some 8, .load false 1 (.tmp 7), none⟩,
     ⟨some 9, .bin .sub (.tmp 6) (.tmp 8), none⟩,
     ⟨some 10, .fieldAddr 1 (.tmp 2), none⟩,
     ⟨some 11, .load false 1 (.tmp 10), none⟩,
     ⟨some 12, .fieldAddr 1 (.tmp 3), none⟩,
     ⟨some 13, .load false 1 (.tmp 12), none⟩,
     ⟨some 14, .bin .sub (.tmp 11) (.tmp 13), none⟩,
     ⟨some 15, .fieldAddr 2 (.tmp 2), none⟩,
     ⟨some 16, .load false 1 (.tmp 15), none⟩,
     ⟨some 17, .fieldAddr 2 (.tmp 3), none⟩,
     ⟨some 18, .load false 1 (.tmp 17), none⟩,
     ⟨some 19, .bin .sub (.tmp 16) (.tmp 18), none⟩,
     ⟨some 20, .build [.v (.int .i64 (0)), .v (.int .i64 (0)), .v (.int .i64 (0))] [(0, 1, (.tmp 9)), (1, 1, (.tmp 14)), (2, 1, (.tmp 19))], none⟩,
     ⟨none, .store 3 (.tmp 4) (.tmp 20), none⟩] [4] []) <|
  .ret
theorem Cd.spec_l19Less_rs : Tryd.f35.results.toList = [.cell 4 24] := rfl
theorem Cd.spec_l19Less_nt : Tryd.f35.ntmps = 21 := rfl
theorem Cd.spec_l19Less_ok : CodeIsR Tryd.prog 35 Tryd.f35 Cd.spec_l19Less := ⟨Tryd.func35, by kernel_rfl, by decide +kernel⟩
/-- loop.example/g01012/impl.isReport -/
def Cd.impl_isReport : ACode :=
  .seq (.region [⟨some 1, .box (.tmp 0), none⟩,
     ⟨some 2, .mv (.const (.bool false)), none⟩] [1] []) <|
  .seq (.region [⟨some 3, .fieldAddr 0 (.tmp 1), none⟩,
     ⟨some 4, .load false 1 (.tmp 3), none⟩,
     ⟨some 5, .call (.func F.impl_inside) [(.tmp 4), (.const (.int .i64 (-1000000000))), (.const (.int .i64 (1000000000)))] [], none⟩,
     ⟨some 6, .mv (.tmp 5), none⟩,
     ⟨some 7, .fieldAddr 1 (.tmp 1), some (6, true)⟩,
     ⟨some 8, .load false 1 (.tmp 7), some (6, true)⟩,
     ⟨some 9, .call (.func F.impl_inside) [(.tmp 8), (.const (.int .i64 (-1000000000))), (.const (.int .i64 (1000000000)))] [], some (6, true)⟩,
     ⟨some 10, .pick (.tmp 6) (.tmp 9) (.const (.bool false)), none⟩,
     ⟨some 11, .mv (.tmp 10), none⟩,
     ⟨some 12, .fieldAddr 2 (.tmp 1), some (11, true)⟩,
     ⟨some 13, .load false 1 (.tmp 12), some (11, true)⟩,
     ⟨some 14, .call (.func F.impl_inside) [(.tmp 13), (.const (.int .i64 (-1000000000))), (.const (.int .i64 (1000000000)))] [], some (11, true)⟩,
     ⟨some 15, .pick (.tmp 11) (.tmp 14) (.const (.bool false)), none⟩,
     ⟨some 2, .mv (.tmp 15), none⟩] [2] []) <|
  .ret
theorem Cd.impl_isReport_rs : Tryd.f36.results.toList = [.tmp 2] := rfl
theorem Cd.impl_isReport_nt : Tryd.f36.ntmps = 16 := rfl
theorem Cd.impl_isReport_ok : CodeIsR Tryd.prog 36 Tryd.f36 Cd.impl_isReport := ⟨Tryd.func36, by kernel_rfl, by decide +kernel⟩
/-- (loop.example/g01012/impl.Report).less -/
def Cd._impl_Report__less : ACode :=
  .seq (.region [⟨some 2, .box (.tmp 0), none⟩,
     ⟨some 3, .box (.tmp 1), none⟩,
     ⟨some 4, .alloc [.v (.int .i64 (0)), .v (.int .i64 (0)), .v (.int .i64 (0))], none⟩] [2, 3, 4] []) <|
  .seq (.region [⟨some 5, .fieldAddr 0 (.tmp 2), none⟩,
     ⟨some 6, .load false 1 (.tmp 5), none⟩,
     ⟨some 7, .fieldAddr 0 (.tmp 3), none⟩,
     ⟨some 8, .load false 1 (.tmp 7), none⟩,
     ⟨some 9, .bin .sub (.tmp 6) (.tmp 8), none⟩,
     ⟨some 10, .fieldAddr 1 (.tmp 2), none⟩,
     ⟨some 11, .load false 1 (.tmp 10), none⟩,
     ⟨some 12, .fieldAddr 1 (.tmp 3), none⟩,
     ⟨some 13, .load false 1 (.tmp 12), none⟩,
     ⟨some 14, .bin .sub (.tmp 11) (.tmp 13), none⟩,
     ⟨some 15, .fieldAddr 2 (.tmp 2), none⟩,
     ⟨some 16, .load false 1 (.tmp 15), none⟩,
     ⟨some 17, .fieldAddr 2 (.tmp 3), none⟩,
     ⟨some 18, .load false 1 (.tmp 17), none⟩,
     ⟨some 19, .bin .sub (.tmp 16) (.tmp 18), none⟩,
     ⟨some 20, .build [.v (.int .i64 (0)), .v (.int .i64 (0)), .v (.int .i64 (0))] [(0, 1, (.tmp 9)), (1, 1, (.tmp 14)), (2, 1, (.tmp 19))], none⟩,
     ⟨none, .store 3 (.tmp 4) (.tmp 20), none⟩] [4] []) <|
  .ret
theorem Cd._impl_Report__less_rs : Tryd.f37.results.toList = [.cell 4 24] := rfl
theorem Cd._impl_Report__less_nt : Tryd.f37.ntmps = 21 := rfl
theorem Cd._impl_Report__less_ok : CodeIsR Tryd.prog 37 Tryd.f37 Cd._impl_Report__less := ⟨Tryd.func37, by kernel_rfl, by decide +kernel⟩
/-- loop.example/g01012/spec.l19Code -/
def Cd.spec_l19Code : ACode :=
  .seq (.region [⟨some 4, .mv (.const (.int .i64 (0))), none⟩] [0, 1] []) <|
  .seq (.seq (.region [⟨some 5, .mv (.tmp 0), none⟩,
      ⟨some 6, .call (.func F.spec_l19Ok) [(.tmp 5)] [], none⟩,
      ⟨some 7, .un .not (.tmp 6), none⟩] [0, 1, 7] []) <|
   .cond (.tmp 7)
     (.seq (.region [⟨some 4, .mv (.const (.int .i64 (1))), none⟩] [4] []) <|
     .ret)
     (.skip)) <|
  .seq (.seq (.region [⟨some 8, .mv (.tmp 0), none⟩,
      ⟨some 9, .mv (.tmp 1), none⟩,
      ⟨some 10, .call (.func F.spec_l19Faults) [(.tmp 8), (.tmp 9)] [], none⟩,
      ⟨some 11, .un .not (.tmp 10), none⟩] [11] []) <|
   .cond (.tmp 11)
     (.seq (.region [⟨some 4, .mv (.const (.int .i64 (2))), none⟩] [4] []) <|
     .ret)
     (.skip)) <|
  .seq (.region [⟨some 4, .mv (.const (.int .i64 (0))), none⟩] [4] []) <|
  .ret
theorem Cd.spec_l19Code_rs : Tryd.f38.results.toList = [.tmp 4] := rfl
theorem Cd.spec_l19Code_nt : Tryd.f38.ntmps = 12 := rfl
theorem Cd.spec_l19Code_ok : CodeIsR Tryd.prog 38 Tryd.f38 Cd.spec_l19Code := ⟨Tryd.func38, by kernel_rfl, by decide +kernel⟩
/-- loop.example/g01012/spec.l19After DRAWS -/
def Cd.spec_l19After : ACode :=
  .seq (.region [⟨some 4, .mv (.const (.slice none 0 0)), none⟩] [0, 1] []) <|
  .seq (.region [⟨some 8, .bslice 1 0 [.v (.int .i64 (0))] [], none⟩,
     ⟨some 5, .mv (.tmp 8), none⟩] [0, 1, 5] []) <|
  .seq (.region [⟨some 6, .mv (.const (.int .i64 (0))), none⟩] [0, 1, 5, 6] []) <|
  .seq (.seq (.region [⟨some 7, .mv (.const (.int .i64 (0))), none⟩] [0, 1, 5, 6, 7] []) <|
   .block 0 (
     .loop (
       .seq (.seq (.region [⟨some 9, .mv (.tmp 7), none⟩,
           ⟨some 10, .mv (.tmp 0), none⟩,
           ⟨some 11, .len (.tmp 10), none⟩,
           ⟨some 12, .bin .lss (.tmp 9) (.tmp 11), none⟩] [0, 1, 5, 6, 7, 12] []) <|
        .cond (.tmp 12)
          (.skip)
          (.exit 0)) <|
       .seq (.block 1 (
          .seq (.seq (.region [⟨some 15, .mv (.tmp 6), none⟩,
              ⟨some 16, .mv (.tmp 1), none⟩,
              ⟨some 17, .len (.tmp 16), none⟩,
              ⟨some 18, .bin .eql (.tmp 15) (.tmp 17), none⟩,
              ⟨some 19, .mv (.tmp 18), none⟩,
              ⟨some 20, .mv (.tmp 1), some (19, false)⟩,
              ⟨some 21, .mv (.tmp 6), some (19, false)⟩,
              ⟨some 22, .idxSl 4 (.tmp 20) (.tmp 21), some (19, false)⟩,
              ⟨some 23, .fieldAddr 1 (.tmp 22), some (19, false)⟩,
              ⟨some 24, .load false 1 (.tmp 23), some (19, false)⟩,
              ⟨some 25, .mv (.tmp 7), some (19, false)⟩,
              ⟨some 26, .bin .neq (.tmp 24) (.tmp 25), some (19, false)⟩,
              ⟨some 27, .pick (.tmp 19) (.const (.bool true)) (.tmp 26), none⟩] [0, 1, 5, 6, 7, 27] []) <|
           .cond (.tmp 27)
             (.seq (.region [⟨some 28, .mv (.tmp 5), none⟩,
                ⟨some 29, .mv (.tmp 0), none⟩,
                ⟨some 30, .mv (.tmp 7), none⟩,
                ⟨some 31, .idxSl 1 (.tmp 29) (.tmp 30), none⟩,
                ⟨some 32, .load false 1 (.tmp 31), none⟩,
                ⟨some 33, .bslice 1 1 [.v (.int .i64 (0))] [(0, (.tmp 32))], none⟩,
                ⟨some 34, .append 1 8 (.tmp 28) (.tmp 33), none⟩,
                ⟨some 5, .mv (.tmp 34), none⟩] [0, 1, 5, 6, 7] []) <|
             .exit 1)
             (.skip)) <|
          .seq (.seq (.region [⟨some 35, .mv (.tmp 1), none⟩,
              ⟨some 36, .mv (.tmp 6), none⟩,
              ⟨some 37, .idxSl 4 (.tmp 35) (.tmp 36), none⟩,
              ⟨some 38, .fieldAddr 0 (.tmp 37), none⟩,
              ⟨some 39, .load false 1 (.tmp 38), none⟩] [0, 1, 5, 6, 7, 39] []) <|
           .block 2 (
             .seq (.region [⟨some 41, .bin .eql (.tmp 39) (.const (.int .i64 (2))), none⟩,
                ⟨some 40, .mv (.tmp 41), none⟩] [0, 1, 5, 6, 7, 39, 40] []) <|
             .cond (.tmp 40)
               (.region [⟨some 42, .mv (.tmp 5), none⟩,
                 ⟨some 43, .mv (.tmp 0), none⟩,
                 ⟨some 44, .mv (.tmp 7), none⟩,
                 ⟨some 45, .idxSl 1 (.tmp 43) (.tmp 44), none⟩,
                 ⟨some 46, .load false 1 (.tmp 45), none⟩,
                 ⟨some 47, .mv (.tmp 0), none⟩,
                 ⟨some 48, .mv (.tmp 7), none⟩,
                 ⟨some 49, .idxSl 1 (.tmp 47) (.tmp 48), none⟩,
                 ⟨some 50, .load false 1 (.tmp 49), none⟩,
                 ⟨some 51, .bslice 1 2 [.v (.int .i64 (0))] [(0, (.tmp 46)), (1, (.tmp 50))], none⟩,
                 ⟨some 52, .append 1 8 (.tmp 42) (.tmp 51), none⟩,
                 ⟨some 5, .mv (.tmp 52), none⟩] [0, 1, 5, 6, 7] [42, 43, 44, 45, 46, 47, 48, 49, 50, 51, 52])
               (.seq (.region [⟨some 54, .bin .eql (.tmp 39) (.const (.int .i64 (3))), none⟩,
                  ⟨some 53, .mv (.tmp 54), none⟩] [0, 1, 5, 6, 7, 53] []) <|
               .cond (.tmp 53)
                 (.region [⟨some 55, .mv (.tmp 5), none⟩,
                   ⟨some 56, .mv (.tmp 0), none⟩,
                   ⟨some 57, .mv (.tmp 7), none⟩,
                   ⟨some 58, .idxSl 1 (.tmp 56) (.tmp 57), none⟩,
                   ⟨some 59, .load false 1 (.tmp 58), none⟩,
                   ⟨some 60, .mv (.tmp 1), none⟩,
                   ⟨some 61, .mv (.tmp 6), none⟩,
                   ⟨some 62, .idxSl 4 (.tmp 60) (.tmp 61), none⟩,
                   ⟨some 63, .load true 4 (.tmp 62), none⟩,
                   ⟨some 64, .call (.func F.spec_l19Read) [(.tmp 59), (.tmp 63)] [], none⟩,
                   ⟨some 65, .bslice 1 1 [.v (.int .i64 (0))] [(0, (.tmp 64))], none⟩,
                   ⟨some 66, .append 1 8 (.tmp 55) (.tmp 65), none⟩,
                   ⟨some 5, .mv (.tmp 66), none⟩] [0, 1, 5, 6, 7] [55, 56, 57, 58, 59, 60, 61, 62, 63, 64, 65, 66])
                 (.skip)))) <|
          .region [⟨some 67, .mv (.tmp 6), none⟩,
            ⟨some 68, .bin .add (.tmp 67) (.const (.int .i64 (1))), none⟩,
            ⟨some 6, .mv (.tmp 68), none⟩] [0, 1, 5, 6, 7] [])) <|
       .region [⟨some 13, .mv (.tmp 7), none⟩,
         ⟨some 14, .bin .add (.tmp 13) (.const (.int .i64 (1))), none⟩,
         ⟨some 7, .mv (.tmp 14), none⟩] [0, 1, 5, 6, 7] []))) <|
  .seq (.region [⟨some 69, .mv (.tmp 5), none⟩,
     ⟨some 4, .mv (.tmp 69), none⟩] [4] []) <|
  .ret
theorem Cd.spec_l19After_rs : Tryd.f39.results.toList = [.tmp 4] := rfl
theorem Cd.spec_l19After_nt : Tryd.f39.ntmps = 70 := rfl
theorem Cd.spec_l19After_ok : CodeIsR Tryd.prog 39 Tryd.f39 Cd.spec_l19After := ⟨Tryd.func39, by kernel_rfl, by decide +kernel⟩
/-- loop.example/g01012/laws.toFault -/
def Cd.laws_toFault : ACode :=
  .seq (.region [⟨some 1, .box (.tmp 0), none⟩,
     ⟨some 2, .alloc [.v (.int .i64 (0)), .v (.int .i64 (0)), .v (.int .i64 (0)), .v (.int .i64 (0))], none⟩] [1, 2] []) <|
  .seq (.region [⟨some 3, .alloc [.v (.int .i64 (0)), .v (.int .i64 (0)), .v (.int .i64 (0)), .v (.int .i64 (0))], none⟩] [1, 2, 3] []) <|
  .seq (.region [⟨some 4, .fieldAddr 0 (.tmp 1), none⟩,
     ⟨some 5, .load false 1 (.tmp 4), none⟩,
     ⟨some 6, .fieldAddr 0 (.tmp 3), none⟩,
     ⟨none, .store 1 (.tmp 6) (.tmp 5), none⟩] [1, 2, 3] []) <|
  .seq (.region [⟨some 7, .fieldAddr 1 (.tmp 1), none⟩,
     ⟨some 8, .load false 1 (.tmp 7), none⟩,
     ⟨some 9, .fieldAddr 1 (.tmp 3), none⟩,
     ⟨none, .store 1 (.tmp 9) (.tmp 8), none⟩] [1, 2, 3] []) <|
  .seq (.region [⟨some 10, .fieldAddr 2 (.tmp 1), none⟩,
     ⟨some 11, .load false 1 (.tmp 10), none⟩,
     ⟨some 12, .fieldAddr 2 (.tmp 3), none⟩,
     ⟨none, .store 1 (.tmp 12) (.tmp 11), none⟩] [1, 2, 3] []) <|
  .seq (.region [⟨some 13, .fieldAddr 3 (.tmp 1), none⟩,
     ⟨some 14, .load false 1 (.tmp 13), none⟩,
     ⟨some 15, .fieldAddr 3 (.tmp 3), none⟩,
     ⟨none, .store 1 (.tmp 15) (.tmp 14), none⟩] [2, 3] []) <|
  .seq (.region [⟨some 16, .load true 4 (.tmp 3), none⟩,
     ⟨none, .store 4 (.tmp 2) (.tmp 16), none⟩] [2] []) <|
  .ret
theorem Cd.laws_toFault_rs : Tryd.f40.results.toList = [.cell 2 67] := rfl
theorem Cd.laws_toFault_nt : Tryd.f40.ntmps = 17 := rfl
theorem Cd.laws_toFault_ok : CodeIsR Tryd.prog 40 Tryd.f40 Cd.laws_toFault := ⟨Tryd.func40, by kernel_rfl, by decide +kernel⟩
/-- loop.example/g01012/impl.faultCode -/
def Cd.impl_faultCode : ACode :=
  .seq (.region [⟨some 4, .mv (.const (.int .i64 (0))), none⟩] [0, 1] []) <|
  .seq (.block 0 (
     .seq (.region [⟨some 6, .mv (.tmp 0), none⟩,
        ⟨some 7, .call (.func F.impl_ValidAmounts) [(.tmp 6)] [], none⟩,
        ⟨some 8, .un .not (.tmp 7), none⟩,
        ⟨some 5, .mv (.tmp 8), none⟩] [0, 1, 5] []) <|
     .cond (.tmp 5)
       (.seq (.region [⟨some 4, .mv (.const (.int .i64 (1))), none⟩] [4] []) <|
       .ret)
       (.seq (.region [⟨some 10, .mv (.tmp 0), none⟩,
          ⟨some 11, .mv (.tmp 1), none⟩,
          ⟨some 12, .call (.func F.impl_areFaults) [(.tmp 10), (.tmp 11)] [], none⟩,
          ⟨some 13, .un .not (.tmp 12), none⟩,
          ⟨some 9, .mv (.tmp 13), none⟩] [9] []) <|
       .cond (.tmp 9)
         (.seq (.region [⟨some 4, .mv (.const (.int .i64 (2))), none⟩] [4] []) <|
         .ret)
         (.skip)))) <|
  .seq (.region [⟨some 4, .mv (.const (.int .i64 (0))), none⟩] [4] []) <|
  .ret
theorem Cd.impl_faultCode_rs : Tryd.f41.results.toList = [.tmp 4] := rfl
theorem Cd.impl_faultCode_nt : Tryd.f41.ntmps = 14 := rfl
theorem Cd.impl_faultCode_ok : CodeIsR Tryd.prog 41 Tryd.f41 Cd.impl_faultCode := ⟨Tryd.func41, by kernel_rfl, by decide +kernel⟩
/-- loop.example/g01012/impl.amountsAfter -/
def Cd.impl_amountsAfter : ACode :=
  .seq (.region [⟨some 4, .mv (.const (.slice none 0 0)), none⟩] [0, 1] []) <|
  .seq (.region [⟨some 11, .bslice 1 0 [.v (.int .i64 (0))] [], none⟩,
     ⟨some 5, .mv (.tmp 11), none⟩] [0, 1, 5] []) <|
  .seq (.seq (.region [⟨some 12, .mv (.tmp 0), none⟩,
      ⟨some 13, .len (.tmp 12), none⟩,
      ⟨some 14, .mv (.const (.int .i64 (0))), none⟩] [1, 5, 12, 13, 14] []) <|
   .block 0 (
     .loop (
       .seq (.region [⟨some 15, .bin .lss (.tmp 14) (.tmp 13), none⟩] [1, 5, 12, 13, 14, 15] []) <|
       .seq (.cond (.tmp 15)
          (.skip)
          (.exit 0)) <|
       .seq (.block 1 (
          .seq (.region [⟨some 16, .mv (.tmp 14), none⟩,
             ⟨some 17, .idxSl 1 (.tmp 12) (.tmp 14), none⟩,
             ⟨some 18, .load false 1 (.tmp 17), none⟩,
             ⟨some 6, .alloc [.v (.int .i64 (0))], none⟩,
             ⟨none, .store 1 (.tmp 6) (.tmp 16), none⟩,
             ⟨some 7, .mv (.tmp 18), none⟩] [1, 5, 6, 7, 12, 13, 14] []) <|
          .seq (.region [⟨some 19, .mv (.tmp 1), none⟩,
             ⟨some 20, .mkfn F.impl_amountsAfter_1 [(.tmp 6)], none⟩,
             ⟨some 21, .call (.func F.slices_IndexFunc___impl_Fault_impl_Fault_) [(.tmp 19), (.tmp 20)] [], none⟩,
             ⟨some 8, .mv (.tmp 21), none⟩] [1, 5, 7, 8, 12, 13, 14] []) <|
          .seq (.seq (.region [⟨some 22, .mv (.tmp 8), none⟩,
              ⟨some 23, .bin .lss (.tmp 22) (.const (.int .i64 (0))), none⟩] [1, 5, 7, 8, 12, 13, 14, 23] []) <|
           .cond (.tmp 23)
             (.seq (.region [⟨some 24, .mv (.tmp 5), none⟩,
                ⟨some 25, .mv (.tmp 7), none⟩,
                ⟨some 26, .bslice 1 1 [.v (.int .i64 (0))] [(0, (.tmp 25))], none⟩,
                ⟨some 27, .append 1 8 (.tmp 24) (.tmp 26), none⟩,
                ⟨some 5, .mv (.tmp 27), none⟩] [1, 5, 12, 13, 14] []) <|
             .exit 1)
             (.skip)) <|
          .seq (.region [⟨some 28, .mv (.tmp 1), none⟩,
             ⟨some 29, .mv (.tmp 8), none⟩,
             ⟨some 30, .idxSl 4 (.tmp 28) (.tmp 29), none⟩,
             ⟨some 31, .load true 4 (.tmp 30), none⟩,
             ⟨some 9, .alloc [.v (.int .i64 (0)), .v (.int .i64 (0)), .v (.int .i64 (0)), .v (.int .i64 (0))], none⟩,
             ⟨none, .store 4 (.tmp 9) (.tmp 31), none⟩] [1, 5, 7, 9, 12, 13, 14] []) <|
          .seq (.region [⟨some 32, .fieldAddr 0 (.tmp 9), none⟩,
             ⟨some 33, .load false 1 (.tmp 32), none⟩] [1, 5, 7, 9, 12, 13, 14, 33] []) <|
          .block 2 (
            .seq (.region [⟨some 35, .bin .eql (.tmp 33) (.const (.int .i64 (2))), none⟩,
               ⟨some 34, .mv (.tmp 35), none⟩] [1, 5, 7, 9, 12, 13, 14, 33, 34] []) <|
            .cond (.tmp 34)
              (.region [⟨some 36, .mv (.tmp 5), none⟩,
                ⟨some 37, .mv (.tmp 7), none⟩,
                ⟨some 38, .mv (.tmp 7), none⟩,
                ⟨some 39, .bslice 1 2 [.v (.int .i64 (0))] [(0, (.tmp 37)), (1, (.tmp 38))], none⟩,
                ⟨some 40, .append 1 8 (.tmp 36) (.tmp 39), none⟩,
                ⟨some 5, .mv (.tmp 40), none⟩] [1, 5, 12, 13, 14] [])
              (.seq (.region [⟨some 42, .bin .eql (.tmp 33) (.const (.int .i64 (3))), none⟩,
                 ⟨some 41, .mv (.tmp 42), none⟩] [1, 5, 7, 9, 12, 13, 14, 41] []) <|
              .cond (.tmp 41)
                (.seq (.region [⟨some 43, .mv (.tmp 7), none⟩,
                   ⟨some 44, .call (.func F.impl_wheelsShow) [(.const (.int .i64 (4))), (.tmp 43)] [], none⟩,
                   ⟨some 10, .alloc [.v (.slice none 0 0)], none⟩,
                   ⟨none, .store 1 (.tmp 10) (.tmp 44), none⟩] [1, 5, 9, 10, 12, 13, 14] []) <|
                .seq (.region [⟨some 45, .fieldAddr 0 (.tmp 10), none⟩,
                   ⟨some 46, .load false 1 (.tmp 45), none⟩,
                   ⟨some 47, .fieldAddr 2 (.tmp 9), none⟩,
                   ⟨some 48, .load false 1 (.tmp 47), none⟩,
                   ⟨some 49, .fieldAddr 3 (.tmp 9), none⟩,
                   ⟨some 50, .load false 1 (.tmp 49), none⟩,
                   ⟨some 51, .idxSl 1 (.tmp 46) (.tmp 48), none⟩,
                   ⟨none, .store 1 (.tmp 51) (.tmp 50), none⟩] [1, 5, 10, 12, 13, 14] []) <|
                .region [⟨some 52, .mv (.tmp 5), none⟩,
                  ⟨some 53, .load true 1 (.tmp 10), none⟩,
                  ⟨some 54, .call (.func F.impl_shown) [(.tmp 53)] [], none⟩,
                  ⟨some 55, .bslice 1 1 [.v (.int .i64 (0))] [(0, (.tmp 54))], none⟩,
                  ⟨some 56, .append 1 8 (.tmp 52) (.tmp 55), none⟩,
                  ⟨some 5, .mv (.tmp 56), none⟩] [1, 5, 12, 13, 14] [])
                (.skip))))) <|
       .region [⟨some 57, .bin .add (.tmp 14) (.const (.int .i64 (1))), none⟩,
         ⟨some 14, .mv (.tmp 57), none⟩] [1, 5, 12, 13, 14] []))) <|
  .seq (.region [⟨some 58, .mv (.tmp 5), none⟩,
     ⟨some 4, .mv (.tmp 58), none⟩] [4] []) <|
  .ret
theorem Cd.impl_amountsAfter_rs : Tryd.f42.results.toList = [.tmp 4] := rfl
theorem Cd.impl_amountsAfter_nt : Tryd.f42.ntmps = 59 := rfl
theorem Cd.impl_amountsAfter_ok : CodeIsR Tryd.prog 42 Tryd.f42 Cd.impl_amountsAfter := ⟨Tryd.func42, by kernel_rfl, by decide +kernel⟩
/-- loop.example/g01012/laws.eqFault -/
def Cd.laws_eqFault : ACode :=
  .seq (.region [⟨some 2, .box (.tmp 0), none⟩,
     ⟨some 3, .box (.tmp 1), none⟩,
     ⟨some 4, .mv (.const (.bool false)), none⟩] [2, 3] []) <|
  .seq (.seq (.region [⟨some 5, .fieldAddr 0 (.tmp 2), none⟩,
      ⟨some 6, .load false 1 (.tmp 5), none⟩,
      ⟨some 7, .fieldAddr 0 (.tmp 3), none⟩,
      ⟨some 8, .load false 1 (.tmp 7), none⟩,
      ⟨some 9, .bin .neq (.tmp 6) (.tmp 8), none⟩] [2, 3, 9] []) <|
   .cond (.tmp 9)
     (.seq (.region [⟨some 4, .mv (.const (.bool false)), none⟩] [4] []) <|
     .ret)
     (.skip)) <|
  .seq (.seq (.region [⟨some 10, .fieldAddr 1 (.tmp 2), none⟩,
      ⟨some 11, .load false 1 (.tmp 10), none⟩,
      ⟨some 12, .fieldAddr 1 (.tmp 3), none⟩,
      ⟨some 13, .load false 1 (.tmp 12), none⟩,
      ⟨some 14, .bin .neq (.tmp 11) (.tmp 13), none⟩] [2, 3, 14] []) <|
   .cond (.tmp 14)
     (.seq (.region [⟨some 4, .mv (.const (.bool false)), none⟩] [4] []) <|
     .ret)
     (.skip)) <|
  .seq (.seq (.region [⟨some 15, .fieldAddr 2 (.tmp 2), none⟩,
      ⟨some 16, .load false 1 (.tmp 15), none⟩,
      ⟨some 17, .fieldAddr 2 (.tmp 3), none⟩,
      ⟨some 18, .load false 1 (.tmp 17), none⟩,
      ⟨some 19, .bin .neq (.tmp 16) (.tmp 18), none⟩] [2, 3, 19] []) <|
   .cond (.tmp 19)
     (.seq (.region [⟨some 4, .mv (.const (.bool false)), none⟩] [4] []) <|
     .ret)
     (.skip)) <|
  .seq (.seq (.region [⟨some 20, .fieldAddr 3 (.tmp 2), none⟩,
      ⟨some 21, .load false 1 (.tmp 20), none⟩,
      ⟨some 22, .fieldAddr 3 (.tmp 3), none⟩,
      ⟨some 23, .load false 1 (.tmp 22), none⟩,
      ⟨some 24, .bin .neq (.tmp 21) (.tmp 23), none⟩] [24] []) <|
   .cond (.tmp 24)
     (.seq (.region [⟨some 4, .mv (.const (.bool false)), none⟩] [4] []) <|
     .ret)
     (.skip)) <|
  .seq (.region [⟨some 4, .mv (.const (.bool true)), none⟩] [4] []) <|
  .ret
theorem Cd.laws_eqFault_rs : Tryd.f43.results.toList = [.tmp 4] := rfl
theorem Cd.laws_eqFault_nt : Tryd.f43.ntmps = 25 := rfl
theorem Cd.laws_eqFault_ok : CodeIsR Tryd.prog 43 Tryd.f43 Cd.laws_eqFault := ⟨Tryd.func43, by kernel_rfl, by decide +kernel⟩
/-- loop.example/g01012/laws.szCard -/
def Cd.laws_szCard : ACode :=
  .seq (.region [⟨some 2, .box (.tmp 0), none⟩,
     ⟨some 4, .mv (.const (.int .i64 (0))), none⟩] [1, 2] []) <|
  .seq (.region [⟨some 5, .fieldAddr 0 (.tmp 2), none⟩,
     ⟨some 6, .load false 1 (.tmp 5), none⟩,
     ⟨some 7, .mv (.tmp 1), none⟩,
     ⟨some 8, .call (.func F.laws_szInt64S) [(.tmp 6), (.tmp 7)] [], none⟩,
     ⟨some 1, .mv (.tmp 8), none⟩] [1] []) <|
  .seq (.seq (.region [⟨some 9, .mv (.tmp 1), none⟩,
      ⟨some 10, .bin .lss (.tmp 9) (.const (.int .i64 (0))), none⟩] [1, 10] []) <|
   .cond (.tmp 10)
     (.seq (.region [⟨some 4, .mv (.const (.int .i64 (-1))), none⟩] [4] []) <|
     .ret)
     (.skip)) <|
  .seq (.region [⟨some 11, .mv (.tmp 1), none⟩,
     ⟨some 4, .mv (.tmp 11), none⟩] [4] []) <|
  .ret
theorem Cd.laws_szCard_rs : Tryd.f44.results.toList = [.tmp 4] := rfl
theorem Cd.laws_szCard_nt : Tryd.f44.ntmps = 12 := rfl
theorem Cd.laws_szCard_ok : CodeIsR Tryd.prog 44 Tryd.f44 Cd.laws_szCard := ⟨Tryd.func44, by kernel_rfl, by decide +kernel⟩
/-- loop.example/g01012/spec.l02Deck DRAWS -/
def Cd.spec_l02Deck : ACode :=
  .seq (.region [⟨some 2, .mv (.const (.bool false)), none⟩] [0] []) <|
  .seq (.seq (.region [⟨some 3, .mv (.const (.int .i64 (0))), none⟩] [0, 3] []) <|
   .block 0 (
     .loop (
       .seq (.seq (.region [⟨some 4, .mv (.tmp 3), none⟩,
           ⟨some 5, .mv (.tmp 0), none⟩,
           ⟨some 6, .len (.tmp 5), none⟩,
           ⟨some 7, .bin .lss (.tmp 4) (.tmp 6), none⟩] [0, 3, 7] []) <|
        .cond (.tmp 7)
          (.skip)
          (.exit 0)) <|
       .seq (.block 1 (
          .seq (.region [⟨some 10, .mv (.tmp 0), none⟩,
             ⟨some 11, .mv (.tmp 3), none⟩,
             ⟨some 12, .idxSl 1 (.tmp 10) (.tmp 11), none⟩,
             ⟨some 13, .call (.func F.spec_l02Ok) [(.tmp 12)] [], none⟩,
             ⟨some 14, .un .not (.tmp 13), none⟩,
             ⟨some 15, .mv (.tmp 14), none⟩,
             ⟨some 16, .mv (.tmp 0), some (15, false)⟩,
             ⟨some 17, .mv (.tmp 3), some (15, false)⟩,
             ⟨some 18, .idxSl 1 (.tmp 16) (.tmp 17), some (15, false)⟩,
             ⟨some 19, .fieldAddr 0 (.tmp 18), some (15, false)⟩,
             ⟨some 20, .load false 1 (.tmp 19), some (15, false)⟩,
             ⟨some 21, .len (.tmp 20), some (15, false)⟩,
             ⟨some 22, .mv (.tmp 0), some (15, false)⟩,
             ⟨some 23, .idxSl 1 (.tmp 22) (.const (.int .i64 (0))), some (15, false)⟩,
             ⟨some 24, .fieldAddr 0 (.tmp 23), some (15, false)⟩,
             ⟨some 25, .load false 1 (.tmp 24), some (15, false)⟩,
             ⟨some 26, .len (.tmp 25), some (15, false)⟩,
             ⟨some 27, .bin .neq (.tmp 21) (.tmp 26), some (15, false)⟩,
             ⟨some 28, .pick (.tmp 15) (.const (.bool true)) (.tmp 27), none⟩] [0, 3, 28] [10, 11, 13, 14, 12, 15, 16, 17, 18, 19, 20, 21, 22, 23, 24, 25, 26, 27, 28]) <|
          .cond (.tmp 28)
            (.seq (.region [⟨some 2, .mv (.const (.bool false)), none⟩] [2] []) <|
            .ret)
            (.skip))) <|
       .region [⟨some 8, .mv (.tmp 3), none⟩,
         ⟨some 9, .bin .add (.tmp 8) (.const (.int .i64 (1))), none⟩,
         ⟨some 3, .mv (.tmp 9), none⟩] [0, 3] []))) <|
  .seq (.region [⟨some 29, .mv (.tmp 0), none⟩,
     ⟨some 30, .len (.tmp 29), none⟩,
     ⟨some 31, .bin .leq (.tmp 30) (.const (.int .i64 (40))), none⟩,
     ⟨some 2, .mv (.tmp 31), none⟩] [2] []) <|
  .ret
theorem Cd.spec_l02Deck_rs : Tryd.f45.results.toList = [.tmp 2] := rfl
theorem Cd.spec_l02Deck_nt : Tryd.f45.ntmps = 32 := rfl
theorem Cd.spec_l02Deck_ok : CodeIsR Tryd.prog 45 Tryd.f45 Cd.spec_l02Deck := ⟨Tryd.func45, by kernel_rfl, by decide +kernel⟩
/-- loop.example/g01012/laws.toCard -/
def Cd.laws_toCard : ACode :=
  .seq (.region [⟨some 1, .box (.tmp 0), none⟩,
     ⟨some 2, .alloc [.v (.slice none 0 0)], none⟩] [1, 2] []) <|
  .seq (.region [⟨some 3, .alloc [.v (.slice none 0 0)], none⟩] [1, 2, 3] []) <|
  .seq (.region [⟨some 4, .fieldAddr 0 (.tmp 1), none⟩,
     ⟨some 5, .load false 1 (.tmp 4), none⟩,
     ⟨some 6, .call (.func F.laws_toInt64S) [(.tmp 5)] [], none⟩,
     ⟨some 7, .fieldAddr 0 (.tmp 3), none⟩,
     ⟨none, .store 1 (.tmp 7) (.tmp 6), none⟩] [2, 3] []) <|
  .seq (.region [⟨some 8, .load true 1 (.tmp 3), none⟩,
     ⟨none, .store 1 (.tmp 2) (.tmp 8), none⟩] [2] []) <|
  .ret
theorem Cd.laws_toCard_rs : Tryd.f49.results.toList = [.cell 2 79] := rfl
theorem Cd.laws_toCard_nt : Tryd.f49.ntmps = 9 := rfl
theorem Cd.laws_toCard_ok : CodeIsR Tryd.prog 49 Tryd.f49 Cd.laws_toCard := ⟨Tryd.func49, by kernel_rfl, by decide +kernel⟩
/-- loop.example/g01012/laws.eqCard -/
def Cd.laws_eqCard : ACode :=
  .seq (.region [⟨some 2, .box (.tmp 0), none⟩,
     ⟨some 3, .box (.tmp 1), none⟩,
     ⟨some 4, .mv (.const (.bool false)), none⟩] [2, 3] []) <|
  .seq (.seq (.region [⟨some 5, .fieldAddr 0 (.tmp 2), none⟩,
      ⟨some 6, .load false 1 (.tmp 5), none⟩,
      ⟨some 7, .fieldAddr 0 (.tmp 3), none⟩,
      ⟨some 8, .load false 1 (.tmp 7), none⟩,
      ⟨some 9, .call (.func F.laws_eqInt64S) [(.tmp 6), (.tmp 8)] [], none⟩,
      ⟨some 10, .un .not (.tmp 9), none⟩] [10] []) <|
   .cond (.tmp 10)
     (.seq (.region [⟨some 4, .mv (.const (.bool false)), none⟩] [4] []) <|
     .ret)
     (.skip)) <|
  .seq (.region [⟨some 4, .mv (.const (.bool true)), none⟩] [4] []) <|
  .ret
theorem Cd.laws_eqCard_rs : Tryd.f54.results.toList = [.tmp 4] := rfl
theorem Cd.laws_eqCard_nt : Tryd.f54.ntmps = 11 := rfl
theorem Cd.laws_eqCard_ok : CodeIsR Tryd.prog 54 Tryd.f54 Cd.laws_eqCard := ⟨Tryd.func54, by kernel_rfl, by decide +kernel⟩
/-- loop.example/g01012/spec.l00In -/
def Cd.spec_l00In : ACode :=
  .seq (.region [⟨some 6, .mv (.const (.bool false)), none⟩] [0, 1, 2] []) <|
  .seq (.region [⟨some 7, .mv (.tmp 0), none⟩,
     ⟨some 8, .mv (.tmp 1), none⟩,
     ⟨some 9, .bin .geq (.tmp 7) (.tmp 8), none⟩,
     ⟨some 10, .mv (.tmp 9), none⟩,
     ⟨some 11, .mv (.tmp 0), some (10, true)⟩,
     ⟨some 12, .mv (.tmp 2), some (10, true)⟩,
     ⟨some 13, .bin .leq (.tmp 11) (.tmp 12), some (10, true)⟩,
     ⟨some 14, .pick (.tmp 10) (.tmp 13) (.const (.bool false)), none⟩,
     ⟨some 6, .mv (.tmp 14), none⟩] [6] []) <|
  .ret
theorem Cd.spec_l00In_rs : Tryd.f61.results.toList = [.tmp 6] := rfl
theorem Cd.spec_l00In_nt : Tryd.f61.ntmps = 15 := rfl
theorem Cd.spec_l00In_ok : CodeIsR Tryd.prog 61 Tryd.f61 Cd.spec_l00In := ⟨Tryd.func61, by kernel_rfl, by decide +kernel⟩
/-- loop.example/g01012/spec.l19Digits -/
def Cd.spec_l19Digits : ACode :=
  .seq (.region [⟨some 2, .mv (.const (.int .i64 (0))), none⟩] [0] []) <|
  .seq (.region [⟨some 3, .mv (.const (.int .i64 (0))), none⟩] [0, 3] []) <|
  .seq (.block 0 (
     .loop (
       .seq (.seq (.region [⟨some 4, .mv (.tmp 0), none⟩,
           ⟨some 5, .bin .gtr (.tmp 4) (.const (.int .i64 (0))), none⟩] [0, 3, 5] []) <|
        .cond (.tmp 5)
          (.skip)
          (.exit 0)) <|
       .seq (.block 1 (
          .region [⟨some 8, .mv (.tmp 3), none⟩,
            ⟨some 9, .mv (.tmp 0), none⟩,
            ⟨some 10, .bin .rem (.tmp 9) (.const (.int .i64 (10))), none⟩,
            ⟨some 11, .bin .add (.tmp 8) (.tmp 10), none⟩,
            ⟨some 3, .mv (.tmp 11), none⟩] [0, 3] [])) <|
       .region [⟨some 6, .mv (.tmp 0), none⟩,
         ⟨some 7, .bin .quo (.tmp 6) (.const (.int .i64 (10))), none⟩,
         ⟨some 0, .mv (.tmp 7), none⟩] [0, 3] []))) <|
  .seq (.region [⟨some 12, .mv (.tmp 3), none⟩,
     ⟨some 2, .mv (.tmp 12), none⟩] [2] []) <|
  .ret
theorem Cd.spec_l19Digits_rs : Tryd.f62.results.toList = [.tmp 2] := rfl
theorem Cd.spec_l19Digits_nt : Tryd.f62.ntmps = 13 := rfl
theorem Cd.spec_l19Digits_ok : CodeIsR Tryd.prog 62 Tryd.f62 Cd.spec_l19Digits := ⟨Tryd.func62, by kernel_rfl, by decide +kernel⟩
/-- slices.ContainsFunc[[]int64,int64] -/
def Cd.slices_ContainsFunc___int64_int64_ : ACode :=
  .seq (.region [⟨some 4, .mv (.const (.bool false)), none⟩] [0, 1] []) <|
  .seq (.region [⟨some 5, .mv (.tmp 0), none⟩,
     ⟨some 6, .mv (.tmp 1), none⟩,
     ⟨some 7, .call (.func F.slices_IndexFunc___int64_int64_) [(.tmp 5), (.tmp 6)] [], none⟩,
     ⟨some 8, .bin .geq (.tmp 7) (.const (.int .i64 (0))), none⟩,
     ⟨some 4, .mv (.tmp 8), none⟩] [4] []) <|
  .ret
theorem Cd.slices_ContainsFunc___int64_int64__rs : Tryd.f63.results.toList = [.tmp 4] := rfl
theorem Cd.slices_ContainsFunc___int64_int64__nt : Tryd.f63.ntmps = 9 := rfl
theorem Cd.slices_ContainsFunc___int64_int64__ok : CodeIsR Tryd.prog 63 Tryd.f63 Cd.slices_ContainsFunc___int64_int64_ := ⟨Tryd.func63, by kernel_rfl, by decide +kernel⟩
/-- loop.example/g01012/impl.ValidAmounts$1 -/
def Cd.impl_ValidAmounts_1 : ACode :=
  .seq (.region [⟨some 2, .mv (.const (.bool false)), none⟩] [0] []) <|
  .seq (.region [⟨some 3, .mv (.tmp 0), none⟩,
     ⟨some 4, .call (.func F.impl_inside) [(.tmp 3), (.const (.int .i64 (0))), (.const (.int .i64 (9999)))] [], none⟩,
     ⟨some 5, .un .not (.tmp 4), none⟩,
     ⟨some 2, .mv (.tmp 5), none⟩] [2] []) <|
  .ret
theorem Cd.impl_ValidAmounts_1_rs : Tryd.f64.results.toList = [.tmp 2] := rfl
theorem Cd.impl_ValidAmounts_1_nt : Tryd.f64.ntmps = 6 := rfl
theorem Cd.impl_ValidAmounts_1_ok : CodeIsR Tryd.prog 64 Tryd.f64 Cd.impl_ValidAmounts_1 := ⟨Tryd.func64, by kernel_rfl, by decide +kernel⟩
/-- loop.example/g01012/impl.inside -/
def Cd.impl_inside : ACode :=
  .seq (.region [⟨some 6, .mv (.const (.bool false)), none⟩] [0, 1, 2] []) <|
  .seq (.region [⟨some 7, .mv (.tmp 0), none⟩,
     ⟨some 8, .mv (.tmp 1), none⟩,
     ⟨some 9, .bin .geq (.tmp 7) (.tmp 8), none⟩,
     ⟨some 10, .mv (.tmp 9), none⟩,
     ⟨some 11, .mv (.tmp 0), some (10, true)⟩,
     ⟨some 12, .mv (.tmp 2), some (10, true)⟩,
     ⟨some 13, .bin .leq (.tmp 11) (.tmp 12), some (10, true)⟩,
     ⟨some 14, .pick (.tmp 10) (.tmp 13) (.const (.bool false)), none⟩,
     ⟨some 6, .mv (.tmp 14), none⟩] [6] []) <|
  .ret
theorem Cd.impl_inside_rs : Tryd.f65.results.toList = [.tmp 6] := rfl
theorem Cd.impl_inside_nt : Tryd.f65.ntmps = 15 := rfl
theorem Cd.impl_inside_ok : CodeIsR Tryd.prog 65 Tryd.f65 Cd.impl_inside := ⟨Tryd.func65, by kernel_rfl, by decide +kernel⟩
/-- loop.example/g01012/impl.size[int64] -/
def Cd.impl_size_int64_ : ACode :=
  .seq (.region [⟨some 2, .mv (.const (.int .i64 (0))), none⟩] [0] []) <|
  .seq (.region [⟨some 3, .mv (.tmp 0), none⟩,
     ⟨some 4, .len (.tmp 3), none⟩,
     ⟨some 2, .mv (.tmp 4), none⟩] [2] []) <|
  .ret
theorem Cd.impl_size_int64__rs : Tryd.f66.results.toList = [.tmp 2] := rfl
theorem Cd.impl_size_int64__nt : Tryd.f66.ntmps = 5 := rfl
theorem Cd.impl_size_int64__ok : CodeIsR Tryd.prog 66 Tryd.f66 Cd.impl_size_int64_ := ⟨Tryd.func66, by kernel_rfl, by decide +kernel⟩
/-- loop.example/g01012/impl.digitSum -/
def Cd.impl_digitSum : ACode :=
  .seq (.region [⟨some 2, .mv (.const (.int .i64 (0))), none⟩] [0] []) <|
  .seq (.region [⟨some 3, .mv (.const (.int .i64 (0))), none⟩] [0, 3] []) <|
  .seq (.seq (.region [⟨some 6, .mv (.tmp 0), none⟩,
      ⟨some 7, .call (.func F.impl_digitList) [(.tmp 6)] [], none⟩,
      ⟨some 8, .len (.tmp 7), none⟩,
      ⟨some 9, .mv (.const (.int .i64 (0))), none⟩] [3, 7, 8, 9] []) <|
   .block 0 (
     .loop (
       .seq (.region [⟨some 10, .bin .lss (.tmp 9) (.tmp 8), none⟩] [3, 7, 8, 9, 10] []) <|
       .seq (.cond (.tmp 10)
          (.skip)
          (.exit 0)) <|
       .seq (.block 1 (
          .seq (.region [⟨some 11, .idxSl 1 (.tmp 7) (.tmp 9), none⟩,
             ⟨some 12, .load false 1 (.tmp 11), none⟩,
             ⟨some 5, .mv (.tmp 12), none⟩] [3, 5, 7, 8, 9] []) <|
          .region [⟨some 13, .mv (.tmp 3), none⟩,
            ⟨some 14, .mv (.tmp 5), none⟩,
            ⟨some 15, .bin .add (.tmp 13) (.tmp 14), none⟩,
            ⟨some 3, .mv (.tmp 15), none⟩] [3, 7, 8, 9] [])) <|
       .region [⟨some 16, .bin .add (.tmp 9) (.const (.int .i64 (1))), none⟩,
         ⟨some 9, .mv (.tmp 16), none⟩] [3, 7, 8, 9] []))) <|
  .seq (.region [⟨some 17, .mv (.tmp 3), none⟩,
     ⟨some 2, .mv (.tmp 17), none⟩] [2] []) <|
  .ret
theorem Cd.impl_digitSum_rs : Tryd.f67.results.toList = [.tmp 2] := rfl
theorem Cd.impl_digitSum_nt : Tryd.f67.ntmps = 18 := rfl
theorem Cd.impl_digitSum_ok : CodeIsR Tryd.prog 67 Tryd.f67 Cd.impl_digitSum := ⟨Tryd.func67, by kernel_rfl, by decide +kernel⟩
/-- loop.example/g01012/spec.l19Faults DRAWS -/
def Cd.spec_l19Faults : ACode :=
  .seq (.region [⟨some 4, .mv (.const (.bool false)), none⟩] [0, 1] []) <|
  .seq (.seq (.region [⟨some 5, .mv (.const (.int .i64 (0))), none⟩] [0, 1, 5] []) <|
   .block 0 (
     .loop (
       .seq (.seq (.region [⟨some 6, .mv (.tmp 5), none⟩,
           ⟨some 7, .mv (.tmp 1), none⟩,
           ⟨some 8, .len (.tmp 7), none⟩,
           ⟨some 9, .bin .lss (.tmp 6) (.tmp 8), none⟩] [0, 1, 5, 9] []) <|
        .cond (.tmp 9)
          (.skip)
          (.exit 0)) <|
       .seq (.block 1 (
          .seq (.region [⟨some 12, .mv (.tmp 0), none⟩,
             ⟨some 13, .mv (.tmp 1), none⟩,
             ⟨some 14, .mv (.tmp 5), none⟩,
             ⟨some 15, .idxSl 4 (.tmp 13) (.tmp 14), none⟩,
             ⟨some 16, .load true 4 (.tmp 15), none⟩,
             ⟨some 17, .call (.func F.spec_l19Fault) [(.tmp 12), (.tmp 16)] [], none⟩,
             ⟨some 18, .un .not (.tmp 17), none⟩,
             ⟨some 19, .mv (.tmp 18), none⟩,
             ⟨some 20, .mv (.tmp 5), some (19, false)⟩,
             ⟨some 21, .bin .gtr (.tmp 20) (.const (.int .i64 (0))), some (19, false)⟩,
             ⟨some 22, .mv (.tmp 21), some (19, false)⟩,
             ⟨some 23, .mv (.tmp 1), some (22, true)⟩,
             ⟨some 24, .mv (.tmp 5), some (22, true)⟩,
             ⟨some 25, .bin .sub (.tmp 24) (.const (.int .i64 (1))), some (22, true)⟩,
             ⟨some 26, .idxSl 4 (.tmp 23) (.tmp 25), some (22, true)⟩,
             ⟨some 27, .fieldAddr 1 (.tmp 26), some (22, true)⟩,
             ⟨some 28, .load false 1 (.tmp 27), some (22, true)⟩,
             ⟨some 29, .mv (.tmp 1), some (22, true)⟩,
             ⟨some 30, .mv (.tmp 5), some (22, true)⟩,
             ⟨some 31, .idxSl 4 (.tmp 29) (.tmp 30), some (22, true)⟩,
             ⟨some 32, .fieldAddr 1 (.tmp 31), some (22, true)⟩,
             ⟨some 33, .load false 1 (.tmp 32), some (22, true)⟩,
             ⟨some 34, .bin .geq (.tmp 28) (.tmp 33), some (22, true)⟩,
             ⟨some 35, .pick (.tmp 22) (.tmp 34) (.const (.bool false)), some (19, false)⟩,
             ⟨some 36, .pick (.tmp 19) (.const (.bool true)) (.tmp 35), none⟩] [0, 1, 5, 36] [12, 13, 14, 15, 16, 17, 18, 19, 20, 21, 22, 23, 24, 25, 26, 27, 28, 29, 30, 31, 32, 33, 34, 35, 36]) <|
          .cond (.tmp 36)
            (.seq (.region [⟨some 4, .mv (.const (.bool false)), none⟩] [4] []) <|
            .ret)
            (.skip))) <|
       .region [⟨some 10, .mv (.tmp 5), none⟩,
         ⟨some 11, .bin .add (.tmp 10) (.const (.int .i64 (1))), none⟩,
         ⟨some 5, .mv (.tmp 11), none⟩] [0, 1, 5] []))) <|
  .seq (.region [⟨some 37, .mv (.tmp 1), none⟩,
     ⟨some 38, .len (.tmp 37), none⟩,
     ⟨some 39, .bin .leq (.tmp 38) (.const (.int .i64 (2))), none⟩,
     ⟨some 4, .mv (.tmp 39), none⟩] [4] []) <|
  .ret
theorem Cd.spec_l19Faults_rs : Tryd.f68.results.toList = [.tmp 4] := rfl
theorem Cd.spec_l19Faults_nt : Tryd.f68.ntmps = 40 := rfl
theorem Cd.spec_l19Faults_ok : CodeIsR Tryd.prog 68 Tryd.f68 Cd.spec_l19Faults := ⟨Tryd.func68, by kernel_rfl, by decide +kernel⟩
/-- loop.example/g01012/spec.l19Read DRAWS -/
def Cd.spec_l19Read : ACode :=
  .seq (.region [⟨some 3, .box (.tmp 1), none⟩,
     ⟨some 4, .mv (.const (.int .i64 (0))), none⟩] [0, 3] []) <|
  .seq (.region [⟨some 6, .fieldAddr 2 (.tmp 3), none⟩,
     ⟨some 7, .load false 1 (.tmp 6), none⟩,
     ⟨some 8, .call (.func F.spec_l19Power) [(.tmp 7)] [], none⟩,
     ⟨some 5, .mv (.tmp 8), none⟩] [0, 3, 5] []) <|
  .seq (.region [⟨some 9, .mv (.tmp 0), none⟩,
     ⟨some 10, .fieldAddr 3 (.tmp 3), none⟩,
     ⟨some 11, .load false 1 (.tmp 10), none⟩,
     ⟨some 12, .mv (.tmp 0), none⟩,
     ⟨some 13, .mv (.tmp 5), none⟩,
     ⟨some 14, .bin .quo (.tmp 12) (.tmp 13), none⟩,
     ⟨some 15, .bin .rem (.tmp 14) (.const (.int .i64 (10))), none⟩,
     ⟨some 16, .bin .sub (.tmp 11) (.tmp 15), none⟩,
     ⟨some 17, .mv (.tmp 5), none⟩,
     ⟨some 18, .bin .mul (.tmp 16) (.tmp 17), none⟩,
     ⟨some 19, .bin .add (.tmp 9) (.tmp 18), none⟩,
     ⟨some 4, .mv (.tmp 19), none⟩] [4] [9, 10, 11, 12, 13, 14, 15, 16, 17, 18, 19]) <|
  .ret
theorem Cd.spec_l19Read_rs : Tryd.f69.results.toList = [.tmp 4] := rfl
theorem Cd.spec_l19Read_nt : Tryd.f69.ntmps = 20 := rfl
theorem Cd.spec_l19Read_ok : CodeIsR Tryd.prog 69 Tryd.f69 Cd.spec_l19Read := ⟨Tryd.func69, by kernel_rfl, by decide +kernel⟩
/-- loop.example/g01012/impl.areFaults DRAWS -/
def Cd.impl_areFaults : ACode :=
  .seq (.region [⟨some 4, .mv (.const (.bool false)), none⟩] [0, 1] []) <|
  .seq (.seq (.region [⟨some 7, .mv (.tmp 1), none⟩,
      ⟨some 8, .len (.tmp 7), none⟩,
      ⟨some 9, .mv (.const (.int .i64 (0))), none⟩] [0, 1, 7, 8, 9] []) <|
   .block 0 (
     .loop (
       .seq (.region [⟨some 10, .bin .lss (.tmp 9) (.tmp 8), none⟩] [0, 1, 7, 8, 9, 10] []) <|
       .seq (.cond (.tmp 10)
          (.skip)
          (.exit 0)) <|
       .seq (.block 1 (
          .seq (.region [⟨some 11, .mv (.tmp 9), none⟩,
             ⟨some 12, .idxSl 4 (.tmp 7) (.tmp 9), none⟩,
             ⟨some 13, .load true 4 (.tmp 12), none⟩,
             ⟨some 6, .alloc [.v (.int .i64 (0)), .v (.int .i64 (0)), .v (.int .i64 (0)), .v (.int .i64 (0))], none⟩,
             ⟨some 5, .mv (.tmp 11), none⟩,
             ⟨none, .store 4 (.tmp 6) (.tmp 13), none⟩] [0, 1, 5, 6, 7, 8, 9] []) <|
          .seq (.seq (.region [⟨some 14, .load true 4 (.tmp 6), none⟩,
              ⟨some 15, .call (.func F.impl_isFault) [(.tmp 14)] [], none⟩,
              ⟨some 16, .un .not (.tmp 15), none⟩,
              ⟨some 17, .mv (.tmp 16), none⟩,
              ⟨some 18, .fieldAddr 1 (.tmp 6), some (17, false)⟩,
              ⟨some 19, .load false 1 (.tmp 18), some (17, false)⟩,
              ⟨some 20, .mv (.tmp 0), some (17, false)⟩,
              ⟨some 21, .call (.func F.impl_size_int64_) [(.tmp 20)] [], some (17, false)⟩,
              ⟨some 22, .bin .sub (.tmp 21) (.const (.int .i64 (1))), some (17, false)⟩,
              ⟨some 23, .call (.func F.impl_inside) [(.tmp 19), (.const (.int .i64 (0))), (.tmp 22)] [], some (17, false)⟩,
              ⟨some 24, .un .not (.tmp 23), some (17, false)⟩,
              ⟨some 25, .pick (.tmp 17) (.const (.bool true)) (.tmp 24), none⟩,
              ⟨some 26, .mv (.tmp 25), none⟩,
              ⟨some 27, .mv (.tmp 5), some (26, false)⟩,
              ⟨some 28, .bin .gtr (.tmp 27) (.const (.int .i64 (0))), some (26, false)⟩,
              ⟨some 29, .mv (.tmp 28), some (26, false)⟩,
              ⟨some 30, .mv (.tmp 1), some (29, true)⟩,
              ⟨some 31, .mv (.tmp 5), some (29, true)⟩,
              ⟨some 32, .bin .sub (.tmp 31) (.const (.int .i64 (1))), some (29, true)⟩,
              ⟨some 33, .idxSl 4 (.tmp 30) (.tmp 32), some (29, true)⟩,
              ⟨some 34, .fieldAddr 1 (.tmp 33), some (29, true)⟩,
              ⟨some 35, .load false 1 (.tmp 34), some (29, true)⟩,
              ⟨some 36, .fieldAddr 1 (.tmp 6), some (29, true)⟩,
              ⟨some 37, .load false 1 (.tmp 36), some (29, true)⟩,
              ⟨some 38, .bin .geq (.tmp 35) (.tmp 37), some (29, true)⟩,
              ⟨some 39, .pick (.tmp 29) (.tmp 38) (.const (.bool false)), some (26, false)⟩,
              ⟨some 40, .pick (.tmp 26) (.const (.bool true)) (.tmp 39), none⟩] [0, 1, 6, 7, 8, 9, 40] [14, 16, 17, 18, 15, 19, 20, 21, 22, 23, 24, 25, 26, 27, 28, 29, 30, 31, 32, 33, 34, 35, 36, 37, 38, 39, 40]) <|
           .cond (.tmp 40)
             (.seq (.region [⟨some 4, .mv (.const (.bool false)), none⟩] [4] []) <|
             .ret)
             (.skip)) <|
          .seq (.region [⟨some 41, .fieldAddr 0 (.tmp 6), none⟩,
             ⟨some 42, .load false 1 (.tmp 41), none⟩,
             ⟨some 43, .bin .eql (.tmp 42) (.const (.int .i64 (3))), none⟩,
             ⟨some 44, .mv (.tmp 43), none⟩,
             ⟨some 45, .mv (.tmp 0), some (44, true)⟩,
             ⟨some 46, .fieldAddr 1 (.tmp 6), some (44, true)⟩,
             ⟨some 47, .load false 1 (.tmp 46), some (44, true)⟩,
             ⟨some 48, .idxSl 1 (.tmp 45) (.tmp 47), some (44, true)⟩,
             ⟨some 49, .load false 1 (.tmp 48), some (44, true)⟩,
             ⟨some 50, .fieldAddr 2 (.tmp 6), some (44, true)⟩,
             ⟨some 51, .load false 1 (.tmp 50), some (44, true)⟩,
             ⟨some 52, .call (.func F.impl_digitAt) [(.tmp 49), (.tmp 51)] [], some (44, true)⟩,
             ⟨some 53, .fieldAddr 3 (.tmp 6), some (44, true)⟩,
             ⟨some 54, .load false 1 (.tmp 53), some (44, true)⟩,
             ⟨some 55, .bin .eql (.tmp 52) (.tmp 54), some (44, true)⟩,
             ⟨some 56, .pick (.tmp 44) (.tmp 55) (.const (.bool false)), none⟩] [0, 1, 7, 8, 9, 56] [41, 43, 44, 42, 45, 46, 47, 48, 49, 50, 51, 52, 53, 54, 55, 56]) <|
          .cond (.tmp 56)
            (.seq (.region [⟨some 4, .mv (.const (.bool false)), none⟩] [4] []) <|
            .ret)
            (.skip))) <|
       .region [⟨some 57, .bin .add (.tmp 9) (.const (.int .i64 (1))), none⟩,
         ⟨some 9, .mv (.tmp 57), none⟩] [0, 1, 7, 8, 9] []))) <|
  .seq (.region [⟨some 58, .mv (.tmp 1), none⟩,
     ⟨some 59, .len (.tmp 58), none⟩,
     ⟨some 60, .bin .leq (.tmp 59) (.const (.int .i64 (2))), none⟩,
     ⟨some 4, .mv (.tmp 60), none⟩] [4] []) <|
  .ret
theorem Cd.impl_areFaults_rs : Tryd.f70.results.toList = [.tmp 4] := rfl
theorem Cd.impl_areFaults_nt : Tryd.f70.ntmps = 61 := rfl
theorem Cd.impl_areFaults_ok : CodeIsR Tryd.prog 70 Tryd.f70 Cd.impl_areFaults := ⟨Tryd.func70, by kernel_rfl, by decide +kernel⟩
/-- slices.IndexFunc[[]loop.example/g01012/impl.Fault,loop.example/g01012/impl.Fault] -/
def Cd.slices_IndexFunc___impl_Fault_impl_Fault_ : ACode :=
  .seq (.region [⟨some 4, .mv (.const (.int .i64 (0))), none⟩] [0, 1] []) <|
  .seq (.seq (.region [⟨some 6, .mv (.tmp 0), none⟩,
      ⟨some 7, .len (.tmp 6), none⟩,
      ⟨some 8, .mv (.const (.int .i64 (0))), none⟩] [0, 1, 7, 8] []) <|
   .block 0 (
     .loop (
       .seq (.region [⟨some 9, .bin .lss (.tmp 8) (.tmp 7), none⟩] [0, 1, 7, 8, 9] []) <|
       .seq (.cond (.tmp 9)
          (.skip)
          (.exit 0)) <|
       .seq (.block 1 (
          .seq (.region [⟨some 10, .mv (.tmp 8), none⟩,
             ⟨some 5, .mv (.tmp 10), none⟩] [0, 1, 5, 7, 8] []) <|
          .seq (.region [⟨some 11, .mv (.tmp 1), none⟩,
             ⟨some 12, .mv (.tmp 0), none⟩,
             ⟨some 13, .mv (.tmp 5), none⟩,
             ⟨some 14, .idxSl 4 (.tmp 12) (.tmp 13), none⟩,
             ⟨some 15, .load true 4 (.tmp 14), none⟩,
             ⟨some 16, .call (.tmp 11) [(.tmp 15)] [], none⟩] [0, 1, 5, 7, 8, 16] []) <|
          .cond (.tmp 16)
            (.seq (.region [⟨some 17, .mv (.tmp 5), none⟩,
               ⟨some 4, .mv (.tmp 17), none⟩] [4] []) <|
            .ret)
            (.skip))) <|
       .region [⟨some 18, .bin .add (.tmp 8) (.const (.int .i64 (1))), none⟩,
         ⟨some 8, .mv (.tmp 18), none⟩] [0, 1, 7, 8] []))) <|
  .seq (.region [⟨some 4, .mv (.const (.int .i64 (-1))), none⟩] [4] []) <|
  .ret
theorem Cd.slices_IndexFunc___impl_Fault_impl_Fault__rs : Tryd.f71.results.toList = [.tmp 4] := rfl
theorem Cd.slices_IndexFunc___impl_Fault_impl_Fault__nt : Tryd.f71.ntmps = 19 := rfl
theorem Cd.slices_IndexFunc___impl_Fault_impl_Fault__ok : CodeIsR Tryd.prog 71 Tryd.f71 Cd.slices_IndexFunc___impl_Fault_impl_Fault_ := ⟨Tryd.func71, by kernel_rfl, by decide +kernel⟩
/-- loop.example/g01012/impl.amountsAfter$1 -/
def Cd.impl_amountsAfter_1 : ACode :=
  .seq (.region [⟨some 2, .box (.tmp 0), none⟩,
     ⟨some 3, .mv (.const (.bool false)), none⟩] [1, 2] []) <|
  .seq (.region [⟨some 4, .fieldAddr 1 (.tmp 2), none⟩,
     ⟨some 5, .load false 1 (.tmp 4), none⟩,
     ⟨some 6, .load false 1 (.tmp 1), none⟩,
     ⟨some 7, .bin .eql (.tmp 5) (.tmp 6), none⟩,
     ⟨some 3, .mv (.tmp 7), none⟩] [3] []) <|
  .ret
theorem Cd.impl_amountsAfter_1_rs : Tryd.f72.results.toList = [.tmp 3] := rfl
theorem Cd.impl_amountsAfter_1_nt : Tryd.f72.ntmps = 8 := rfl
theorem Cd.impl_amountsAfter_1_ok : CodeIsR Tryd.prog 72 Tryd.f72 Cd.impl_amountsAfter_1 := ⟨Tryd.func72, by kernel_rfl, by decide +kernel⟩
/-- loop.example/g01012/impl.wheelsShow -/
def Cd.impl_wheelsShow : ACode :=
  .seq (.region [⟨some 4, .alloc [.v (.slice none 0 0)], none⟩] [0, 1, 4] []) <|
  .seq (.region [⟨some 6, .bslice 1 0 [.v (.int .i64 (0))] [], none⟩,
     ⟨some 7, .build [.v (.slice none 0 0)] [(0, 1, (.tmp 6))], none⟩,
     ⟨some 5, .alloc [.v (.slice none 0 0)], none⟩,
     ⟨none, .store 1 (.tmp 5) (.tmp 7), none⟩] [0, 1, 4, 5] []) <|
  .seq (.seq (.region [⟨some 8, .mv (.tmp 0), none⟩,
      ⟨some 9, .mv (.const (.int .i64 (0))), none⟩] [1, 4, 5, 8, 9] []) <|
   .block 0 (
     .loop (
       .seq (.region [⟨some 10, .bin .lss (.tmp 9) (.tmp 8), none⟩] [1, 4, 5, 8, 9, 10] []) <|
       .seq (.cond (.tmp 10)
          (.skip)
          (.exit 0)) <|
       .seq (.block 1 (
          .seq (.region [⟨some 11, .fieldAddr 0 (.tmp 5), none⟩,
             ⟨some 12, .load false 1 (.tmp 11), none⟩,
             ⟨some 13, .mv (.tmp 1), none⟩,
             ⟨some 14, .bin .rem (.tmp 13) (.const (.int .i64 (10))), none⟩,
             ⟨some 15, .bslice 1 1 [.v (.int .i64 (0))] [(0, (.tmp 14))], none⟩,
             ⟨some 16, .append 1 8 (.tmp 12) (.tmp 15), none⟩,
             ⟨some 17, .fieldAddr 0 (.tmp 5), none⟩,
             ⟨none, .store 1 (.tmp 17) (.tmp 16), none⟩] [1, 4, 5, 8, 9] []) <|
          .region [⟨some 18, .mv (.tmp 1), none⟩,
            ⟨some 19, .bin .quo (.tmp 18) (.const (.int .i64 (10))), none⟩,
            ⟨some 1, .mv (.tmp 19), none⟩] [1, 4, 5, 8, 9] [])) <|
       .region [⟨some 20, .bin .add (.tmp 9) (.const (.int .i64 (1))), none⟩,
         ⟨some 9, .mv (.tmp 20), none⟩] [1, 4, 5, 8, 9] []))) <|
  .seq (.region [⟨some 21, .load true 1 (.tmp 5), none⟩,
     ⟨none, .store 1 (.tmp 4) (.tmp 21), none⟩] [4] []) <|
  .ret
theorem Cd.impl_wheelsShow_rs : Tryd.f73.results.toList = [.cell 4 102] := rfl
theorem Cd.impl_wheelsShow_nt : Tryd.f73.ntmps = 22 := rfl
theorem Cd.impl_wheelsShow_ok : CodeIsR Tryd.prog 73 Tryd.f73 Cd.impl_wheelsShow := ⟨Tryd.func73, by kernel_rfl, by decide +kernel⟩
/-- loop.example/g01012/impl.shown -/
def Cd.impl_shown : ACode :=
  .seq (.region [⟨some 1, .box (.tmp 0), none⟩,
     ⟨some 2, .mv (.const (.int .i64 (0))), none⟩] [1] []) <|
  .seq (.region [⟨some 3, .mv (.const (.int .i64 (0))), none⟩] [1, 3] []) <|
  .seq (.seq (.region [⟨some 5, .fieldAddr 0 (.tmp 1), none⟩,
      ⟨some 6, .load false 1 (.tmp 5), none⟩,
      ⟨some 7, .len (.tmp 6), none⟩,
      ⟨some 8, .bin .sub (.tmp 7) (.const (.int .i64 (1))), none⟩,
      ⟨some 4, .mv (.tmp 8), none⟩] [1, 3, 4] []) <|
   .block 0 (
     .loop (
       .seq (.seq (.region [⟨some 9, .mv (.tmp 4), none⟩,
           ⟨some 10, .bin .geq (.tmp 9) (.const (.int .i64 (0))), none⟩] [1, 3, 4, 10] []) <|
        .cond (.tmp 10)
          (.skip)
          (.exit 0)) <|
       .seq (.block 1 (
          .region [⟨some 13, .mv (.tmp 3), none⟩,
            ⟨some 14, .bin .mul (.const (.int .i64 (10))) (.tmp 13), none⟩,
            ⟨some 15, .fieldAddr 0 (.tmp 1), none⟩,
            ⟨some 16, .load false 1 (.tmp 15), none⟩,
            ⟨some 17, .mv (.tmp 4), none⟩,
            ⟨some 18, .idxSl 1 (.tmp 16) (.tmp 17), none⟩,
            ⟨some 19, .load false 1 (.tmp 18), none⟩,
            ⟨some 20, .bin .add (.tmp 14) (.tmp 19), none⟩,
            ⟨some 3, .mv (.tmp 20), none⟩] [1, 3, 4] [])) <|
       .region [⟨some 11, .mv (.tmp 4), none⟩,
         ⟨some 12, .bin .sub (.tmp 11) (.const (.int .i64 (1))), none⟩,
         ⟨some 4, .mv (.tmp 12), none⟩] [1, 3, 4] []))) <|
  .seq (.region [⟨some 21, .mv (.tmp 3), none⟩,
     ⟨some 2, .mv (.tmp 21), none⟩] [2] []) <|
  .ret
theorem Cd.impl_shown_rs : Tryd.f74.results.toList = [.tmp 2] := rfl
theorem Cd.impl_shown_nt : Tryd.f74.ntmps = 22 := rfl
theorem Cd.impl_shown_ok : CodeIsR Tryd.prog 74 Tryd.f74 Cd.impl_shown := ⟨Tryd.func74, by kernel_rfl, by decide +kernel⟩
/-- loop.example/g01012/laws.szInt64S -/
def Cd.laws_szInt64S : ACode :=
  .seq (.region [⟨some 4, .mv (.const (.int .i64 (0))), none⟩] [0, 1] []) <|
  .seq (.region [⟨some 5, .mv (.tmp 1), none⟩,
     ⟨some 6, .mv (.tmp 0), none⟩,
     ⟨some 7, .len (.tmp 6), none⟩,
     ⟨some 8, .bin .sub (.tmp 5) (.tmp 7), none⟩,
     ⟨some 1, .mv (.tmp 8), none⟩] [1] []) <|
  .seq (.seq (.region [⟨some 9, .mv (.tmp 1), none⟩,
      ⟨some 10, .bin .lss (.tmp 9) (.const (.int .i64 (0))), none⟩] [1, 10] []) <|
   .cond (.tmp 10)
     (.seq (.region [⟨some 4, .mv (.const (.int .i64 (-1))), none⟩] [4] []) <|
     .ret)
     (.skip)) <|
  .seq (.region [⟨some 11, .mv (.tmp 1), none⟩,
     ⟨some 4, .mv (.tmp 11), none⟩] [4] []) <|
  .ret
theorem Cd.laws_szInt64S_rs : Tryd.f75.results.toList = [.tmp 4] := rfl
theorem Cd.laws_szInt64S_nt : Tryd.f75.ntmps = 12 := rfl
theorem Cd.laws_szInt64S_ok : CodeIsR Tryd.prog 75 Tryd.f75 Cd.laws_szInt64S := ⟨Tryd.func75, by kernel_rfl, by decide +kernel⟩
/-- loop.example/g01012/spec.l02Ok -/
def Cd.spec_l02Ok : ACode :=
  .seq (.region [⟨some 2, .mv (.const (.bool false)), none⟩] [0] []) <|
  .seq (.seq (.region [⟨some 3, .mv (.const (.int .i64 (0))), none⟩] [0, 3] []) <|
   .block 0 (
     .loop (
       .seq (.seq (.region [⟨some 4, .mv (.tmp 3), none⟩,
           ⟨some 5, .mv (.tmp 0), none⟩,
           ⟨some 6, .nilc (.tmp 5), none⟩,
           ⟨some 7, .fieldAddr 0 (.tmp 6), none⟩,
           ⟨some 8, .load false 1 (.tmp 7), none⟩,
           ⟨some 9, .len (.tmp 8), none⟩,
           ⟨some 10, .bin .lss (.tmp 4) (.tmp 9), none⟩] [0, 3, 10] []) <|
        .cond (.tmp 10)
          (.skip)
          (.exit 0)) <|
       .seq (.block 1 (
          .seq (.region [⟨some 13, .mv (.tmp 0), none⟩,
             ⟨some 14, .nilc (.tmp 13), none⟩,
             ⟨some 15, .fieldAddr 0 (.tmp 14), none⟩,
             ⟨some 16, .load false 1 (.tmp 15), none⟩,
             ⟨some 17, .mv (.tmp 3), none⟩,
             ⟨some 18, .idxSl 1 (.tmp 16) (.tmp 17), none⟩,
             ⟨some 19, .load false 1 (.tmp 18), none⟩,
             ⟨some 20, .call (.func F.spec_l00In) [(.tmp 19), (.const (.int .i64 (0))), (.const (.int .i64 (4095)))] [], none⟩,
             ⟨some 21, .un .not (.tmp 20), none⟩] [0, 3, 21] []) <|
          .cond (.tmp 21)
            (.seq (.region [⟨some 2, .mv (.const (.bool false)), none⟩] [2] []) <|
            .ret)
            (.skip))) <|
       .region [⟨some 11, .mv (.tmp 3), none⟩,
         ⟨some 12, .bin .add (.tmp 11) (.const (.int .i64 (1))), none⟩,
         ⟨some 3, .mv (.tmp 12), none⟩] [0, 3] []))) <|
  .seq (.region [⟨some 22, .mv (.tmp 0), none⟩,
     ⟨some 23, .nilc (.tmp 22), none⟩,
     ⟨some 24, .fieldAddr 0 (.tmp 23), none⟩,
     ⟨some 25, .load false 1 (.tmp 24), none⟩,
     ⟨some 26, .len (.tmp 25), none⟩,
     ⟨some 27, .call (.func F.spec_l00In) [(.tmp 26), (.const (.int .i64 (1))), (.const (.int .i64 (20)))] [], none⟩,
     ⟨some 2, .mv (.tmp 27), none⟩] [2] []) <|
  .ret
theorem Cd.spec_l02Ok_rs : Tryd.f76.results.toList = [.tmp 2] := rfl
theorem Cd.spec_l02Ok_nt : Tryd.f76.ntmps = 28 := rfl
theorem Cd.spec_l02Ok_ok : CodeIsR Tryd.prog 76 Tryd.f76 Cd.spec_l02Ok := ⟨Tryd.func76, by kernel_rfl, by decide +kernel⟩
/-- loop.example/g01012/spec.l18Digits -/
def Cd.spec_l18Digits : ACode :=
  .seq (.region [⟨some 2, .mv (.const (.int .i64 (0))), none⟩] [0] []) <|
  .seq (.seq (.region [⟨some 4, .mv (.tmp 0), none⟩,
      ⟨some 5, .bin .lss (.tmp 4) (.const (.int .i64 (0))), none⟩] [0, 5] []) <|
   .cond (.tmp 5)
     (.region [⟨some 6, .mv (.tmp 0), none⟩,
       ⟨some 7, .un .neg (.tmp 6), none⟩,
       ⟨some 0, .mv (.tmp 7), none⟩] [0] [])
     (.skip)) <|
  .seq (.region [⟨some 3, .mv (.const (.int .i64 (0))), none⟩] [0, 3] []) <|
  .seq (.block 0 (
     .loop (
       .seq (.seq (.region [⟨some 8, .mv (.tmp 0), none⟩,
           ⟨some 9, .bin .gtr (.tmp 8) (.const (.int .i64 (0))), none⟩] [0, 3, 9] []) <|
        .cond (.tmp 9)
          (.skip)
          (.exit 0)) <|
       .seq (.block 1 (
          .region [⟨some 12, .mv (.tmp 3), none⟩,
            ⟨some 13, .mv (.tmp 0), none⟩,
            ⟨some 14, .bin .rem (.tmp 13) (.const (.int .i64 (10))), none⟩,
            ⟨some 15, .bin .add (.tmp 12) (.tmp 14), none⟩,
            ⟨some 3, .mv (.tmp 15), none⟩] [0, 3] [])) <|
       .region [⟨some 10, .mv (.tmp 0), none⟩,
         ⟨some 11, .bin .quo (.tmp 10) (.const (.int .i64 (10))), none⟩,
         ⟨some 0, .mv (.tmp 11), none⟩] [0, 3] []))) <|
  .seq (.region [⟨some 16, .mv (.tmp 3), none⟩,
     ⟨some 2, .mv (.tmp 16), none⟩] [2] []) <|
  .ret
theorem Cd.spec_l18Digits_rs : Tryd.f80.results.toList = [.tmp 2] := rfl
theorem Cd.spec_l18Digits_nt : Tryd.f80.ntmps = 17 := rfl
theorem Cd.spec_l18Digits_ok : CodeIsR Tryd.prog 80 Tryd.f80 Cd.spec_l18Digits := ⟨Tryd.func80, by kernel_rfl, by decide +kernel⟩
/-- loop.example/g01012/impl.ValidCard -/
def Cd.impl_ValidCard : ACode :=
  .seq (.region [⟨some 1, .box (.tmp 0), none⟩,
     ⟨some 2, .mv (.const (.bool false)), none⟩] [1] []) <|
  .seq (.region [⟨some 3, .load true 1 (.tmp 1), none⟩,
     ⟨some 4, .call (.func F._impl_Card__columns) [(.tmp 3)] [], none⟩,
     ⟨some 5, .call (.func F.impl_inside) [(.tmp 4), (.const (.int .i64 (1))), (.const (.int .i64 (20)))] [], none⟩,
     ⟨some 6, .mv (.tmp 5), none⟩,
     ⟨some 7, .fieldAddr 0 (.tmp 1), some (6, true)⟩,
     ⟨some 8, .load false 1 (.tmp 7), some (6, true)⟩,
     ⟨some 9, .call (.func F.slices_ContainsFunc___int64_int64_) [(.tmp 8), (.func F.impl_ValidCard_1)] [], some (6, true)⟩,
     ⟨some 10, .un .not (.tmp 9), some (6, true)⟩,
     ⟨some 11, .pick (.tmp 6) (.tmp 10) (.const (.bool false)), none⟩,
     ⟨some 2, .mv (.tmp 11), none⟩] [2] []) <|
  .ret
theorem Cd.impl_ValidCard_rs : Tryd.f81.results.toList = [.tmp 2] := rfl
theorem Cd.impl_ValidCard_nt : Tryd.f81.ntmps = 12 := rfl
theorem Cd.impl_ValidCard_ok : CodeIsR Tryd.prog 81 Tryd.f81 Cd.impl_ValidCard := ⟨Tryd.func81, by kernel_rfl, by decide +kernel⟩
/-- (loop.example/g01012/impl.Card).columns -/
def Cd._impl_Card__columns : ACode :=
  .seq (.region [⟨some 1, .box (.tmp 0), none⟩,
     ⟨some 2, .mv (.const (.int .i64 (0))), none⟩] [1] []) <|
  .seq (.region [⟨some 3, .fieldAddr 0 (.tmp 1), none⟩,
     ⟨some 4, .load false 1 (.tmp 3), none⟩,
     ⟨some 5, .call (.func F.impl_size_int64_) [(.tmp 4)] [], none⟩,
     ⟨some 2, .mv (.tmp 5), none⟩] [2] []) <|
  .ret
theorem Cd._impl_Card__columns_rs : Tryd.f82.results.toList = [.tmp 2] := rfl
theorem Cd._impl_Card__columns_nt : Tryd.f82.ntmps = 6 := rfl
theorem Cd._impl_Card__columns_ok : CodeIsR Tryd.prog 82 Tryd.f82 Cd._impl_Card__columns := ⟨Tryd.func82, by kernel_rfl, by decide +kernel⟩
/-- slices.IndexFunc[[]int64,int64] -/
def Cd.slices_IndexFunc___int64_int64_ : ACode :=
  .seq (.region [⟨some 4, .mv (.const (.int .i64 (0))), none⟩] [0, 1] []) <|
  .seq (.seq (.region [⟨some 6, .mv (.tmp 0), none⟩,
      ⟨some 7, .len (.tmp 6), none⟩,
      ⟨some 8, .mv (.const (.int .i64 (0))), none⟩] [0, 1, 7, 8] []) <|
   .block 0 (
     .loop (
       .seq (.region [⟨some 9, .bin .lss (.tmp 8) (.tmp 7), none⟩] [0, 1, 7, 8, 9] []) <|
       .seq (.cond (.tmp 9)
          (.skip)
          (.exit 0)) <|
       .seq (.block 1 (
          .seq (.region [⟨some 10, .mv (.tmp 8), none⟩,
             ⟨some 5, .mv (.tmp 10), none⟩] [0, 1, 5, 7, 8] []) <|
          .seq (.region [⟨some 11, .mv (.tmp 1), none⟩,
             ⟨some 12, .mv (.tmp 0), none⟩,
             ⟨some 13, .mv (.tmp 5), none⟩,
             ⟨some 14, .idxSl 1 (.tmp 12) (.tmp 13), none⟩,
             ⟨some 15, .load false 1 (.tmp 14), none⟩,
             ⟨some 16, .call (.tmp 11) [(.tmp 15)] [], none⟩] [0, 1, 5, 7, 8, 16] []) <|
          .cond (.tmp 16)
            (.seq (.region [⟨some 17, .mv (.tmp 5), none⟩,
               ⟨some 4, .mv (.tmp 17), none⟩] [4] []) <|
            .ret)
            (.skip))) <|
       .region [⟨some 18, .bin .add (.tmp 8) (.const (.int .i64 (1))), none⟩,
         ⟨some 8, .mv (.tmp 18), none⟩] [0, 1, 7, 8] []))) <|
  .seq (.region [⟨some 4, .mv (.const (.int .i64 (-1))), none⟩] [4] []) <|
  .ret
theorem Cd.slices_IndexFunc___int64_int64__rs : Tryd.f93.results.toList = [.tmp 4] := rfl
theorem Cd.slices_IndexFunc___int64_int64__nt : Tryd.f93.ntmps = 19 := rfl
theorem Cd.slices_IndexFunc___int64_int64__ok : CodeIsR Tryd.prog 93 Tryd.f93 Cd.slices_IndexFunc___int64_int64_ := ⟨Tryd.func93, by kernel_rfl, by decide +kernel⟩
/-- loop.example/g01012/impl.digitList -/
def Cd.impl_digitList : ACode :=
  .seq (.region [⟨some 2, .mv (.const (.slice none 0 0)), none⟩] [0] []) <|
  .seq (.region [⟨some 3, .mv (.tmp 0), none⟩,
     ⟨some 4, .call (.func F.impl_absOf) [(.tmp 3)] [], none⟩,
     ⟨some 5, .call (.func F.impl_digitsOf) [(.tmp 4)] [], none⟩,
     ⟨some 6, .mv (.tmp 0), none⟩,
     ⟨some 7, .call (.func F.impl_absOf) [(.tmp 6)] [], none⟩,
     ⟨some 8, .call (.func F.impl_wheelsShow) [(.tmp 5), (.tmp 7)] [], none⟩,
     ⟨some 9, .field false 0 1 (.tmp 8), none⟩,
     ⟨some 2, .mv (.tmp 9), none⟩] [2] []) <|
  .ret
theorem Cd.impl_digitList_rs : Tryd.f94.results.toList = [.tmp 2] := rfl
theorem Cd.impl_digitList_nt : Tryd.f94.ntmps = 10 := rfl
theorem Cd.impl_digitList_ok : CodeIsR Tryd.prog 94 Tryd.f94 Cd.impl_digitList := ⟨Tryd.func94, by kernel_rfl, by decide +kernel⟩
/-- loop.example/g01012/spec.l19Fault DRAWS -/
def Cd.spec_l19Fault : ACode :=
  .seq (.region [⟨some 3, .box (.tmp 1), none⟩,
     ⟨some 4, .mv (.const (.bool false)), none⟩] [0, 3] []) <|
  .seq (.seq (.region [⟨some 5, .load true 4 (.tmp 3), none⟩,
      ⟨some 6, .call (.func F.spec_l19Form) [(.tmp 5)] [], none⟩,
      ⟨some 7, .un .not (.tmp 6), none⟩,
      ⟨some 8, .mv (.tmp 7), none⟩,
      ⟨some 9, .fieldAddr 1 (.tmp 3), some (8, false)⟩,
      ⟨some 10, .load false 1 (.tmp 9), some (8, false)⟩,
      ⟨some 11, .mv (.tmp 0), some (8, false)⟩,
      ⟨some 12, .len (.tmp 11), some (8, false)⟩,
      ⟨some 13, .bin .geq (.tmp 10) (.tmp 12), some (8, false)⟩,
      ⟨some 14, .pick (.tmp 8) (.const (.bool true)) (.tmp 13), none⟩] [0, 3, 14] []) <|
   .cond (.tmp 14)
     (.seq (.region [⟨some 4, .mv (.const (.bool false)), none⟩] [4] []) <|
     .ret)
     (.skip)) <|
  .seq (.region [⟨some 15, .fieldAddr 0 (.tmp 3), none⟩,
     ⟨some 16, .load false 1 (.tmp 15), none⟩,
     ⟨some 17, .bin .neq (.tmp 16) (.const (.int .i64 (3))), none⟩,
     ⟨some 18, .mv (.tmp 17), none⟩,
     ⟨some 19, .mv (.tmp 0), some (18, false)⟩,
     ⟨some 20, .fieldAddr 1 (.tmp 3), some (18, false)⟩,
     ⟨some 21, .load false 1 (.tmp 20), some (18, false)⟩,
     ⟨some 22, .idxSl 1 (.tmp 19) (.tmp 21), some (18, false)⟩,
     ⟨some 23, .load false 1 (.tmp 22), some (18, false)⟩,
     ⟨some 24, .fieldAddr 2 (.tmp 3), some (18, false)⟩,
     ⟨some 25, .load false 1 (.tmp 24), some (18, false)⟩,
     ⟨some 26, .call (.func F.spec_l19Power) [(.tmp 25)] [], some (18, false)⟩,
     ⟨some 27, .bin .quo (.tmp 23) (.tmp 26), some (18, false)⟩,
     ⟨some 28, .bin .rem (.tmp 27) (.const (.int .i64 (10))), some (18, false)⟩,
     ⟨some 29, .fieldAddr 3 (.tmp 3), some (18, false)⟩,
     ⟨some 30, .load false 1 (.tmp 29), some (18, false)⟩,
     ⟨some 31, .bin .neq (.tmp 28) (.tmp 30), some (18, false)⟩,
     ⟨some 32, .pick (.tmp 18) (.const (.bool true)) (.tmp 31), none⟩,
     ⟨some 4, .mv (.tmp 32), none⟩] [4] [15, 17, 18, 16, 19, 20, 21, 22, 23, 24, 25, 26, 27, 28, 29, 30, 31, 32]) <|
  .ret
theorem Cd.spec_l19Fault_rs : Tryd.f95.results.toList = [.tmp 4] := rfl
theorem Cd.spec_l19Fault_nt : Tryd.f95.ntmps = 33 := rfl
theorem Cd.spec_l19Fault_ok : CodeIsR Tryd.prog 95 Tryd.f95 Cd.spec_l19Fault := ⟨Tryd.func95, by kernel_rfl, by decide +kernel⟩
/-- loop.example/g01012/spec.l19Power -/
def Cd.spec_l19Power : ACode :=
  .seq (.region [⟨some 2, .mv (.const (.int .i64 (0))), none⟩] [0] []) <|
  .seq (.region [⟨some 3, .mv (.const (.int .i64 (1))), none⟩] [0, 3] []) <|
  .seq (.block 0 (
     .loop (
       .seq (.seq (.region [⟨some 4, .mv (.tmp 0), none⟩,
           ⟨some 5, .bin .gtr (.tmp 4) (.const (.int .i64 (0))), none⟩] [0, 3, 5] []) <|
        .cond (.tmp 5)
          (.skip)
          (.exit 0)) <|
       .seq (.block 1 (
          .region [⟨some 8, .mv (.tmp 3), none⟩,
            ⟨some 9, .bin .mul (.tmp 8) (.const (.int .i64 (10))), none⟩,
            ⟨some 3, .mv (.tmp 9), none⟩] [0, 3] [])) <|
       .region [⟨some 6, .mv (.tmp 0), none⟩,
         ⟨some 7, .bin .sub (.tmp 6) (.const (.int .i64 (1))), none⟩,
         ⟨some 0, .mv (.tmp 7), none⟩] [0, 3] []))) <|
  .seq (.region [⟨some 10, .mv (.tmp 3), none⟩,
     ⟨some 2, .mv (.tmp 10), none⟩] [2] []) <|
  .ret
theorem Cd.spec_l19Power_rs : Tryd.f96.results.toList = [.tmp 2] := rfl
theorem Cd.spec_l19Power_nt : Tryd.f96.ntmps = 11 := rfl
theorem Cd.spec_l19Power_ok : CodeIsR Tryd.prog 96 Tryd.f96 Cd.spec_l19Power := ⟨Tryd.func96, by kernel_rfl, by decide +kernel⟩
/-- loop.example/g01012/impl.isFault -/
def Cd.impl_isFault : ACode :=
  .seq (.region [⟨some 1, .box (.tmp 0), none⟩,
     ⟨some 2, .mv (.const (.bool false)), none⟩] [1] []) <|
  .seq (.seq (.region [⟨some 3, .fieldAddr 0 (.tmp 1), none⟩,
      ⟨some 4, .load false 1 (.tmp 3), none⟩,
      ⟨some 5, .bin .eql (.tmp 4) (.const (.int .i64 (3))), none⟩] [1, 5] []) <|
   .cond (.tmp 5)
     (.seq (.region [⟨some 6, .fieldAddr 2 (.tmp 1), none⟩,
        ⟨some 7, .load false 1 (.tmp 6), none⟩,
        ⟨some 8, .call (.func F.impl_inside) [(.tmp 7), (.const (.int .i64 (0))), (.const (.int .i64 (3)))] [], none⟩,
        ⟨some 9, .mv (.tmp 8), none⟩,
        ⟨some 10, .fieldAddr 3 (.tmp 1), some (9, true)⟩,
        ⟨some 11, .load false 1 (.tmp 10), some (9, true)⟩,
        ⟨some 12, .call (.func F.impl_inside) [(.tmp 11), (.const (.int .i64 (0))), (.const (.int .i64 (9)))] [], some (9, true)⟩,
        ⟨some 13, .pick (.tmp 9) (.tmp 12) (.const (.bool false)), none⟩,
        ⟨some 2, .mv (.tmp 13), none⟩] [2] []) <|
     .ret)
     (.skip)) <|
  .seq (.region [⟨some 14, .fieldAddr 0 (.tmp 1), none⟩,
     ⟨some 15, .load false 1 (.tmp 14), none⟩,
     ⟨some 16, .call (.func F.impl_inside) [(.tmp 15), (.const (.int .i64 (1))), (.const (.int .i64 (2)))] [], none⟩,
     ⟨some 17, .mv (.tmp 16), none⟩,
     ⟨some 18, .fieldAddr 2 (.tmp 1), some (17, true)⟩,
     ⟨some 19, .load false 1 (.tmp 18), some (17, true)⟩,
     ⟨some 20, .bin .eql (.tmp 19) (.const (.int .i64 (0))), some (17, true)⟩,
     ⟨some 21, .pick (.tmp 17) (.tmp 20) (.const (.bool false)), none⟩,
     ⟨some 22, .mv (.tmp 21), none⟩,
     ⟨some 23, .fieldAddr 3 (.tmp 1), some (22, true)⟩,
     ⟨some 24, .load false 1 (.tmp 23), some (22, true)⟩,
     ⟨some 25, .bin .eql (.tmp 24) (.const (.int .i64 (0))), some (22, true)⟩,
     ⟨some 26, .pick (.tmp 22) (.tmp 25) (.const (.bool false)), none⟩,
     ⟨some 2, .mv (.tmp 26), none⟩] [2] []) <|
  .ret
theorem Cd.impl_isFault_rs : Tryd.f97.results.toList = [.tmp 2] := rfl
theorem Cd.impl_isFault_nt : Tryd.f97.ntmps = 27 := rfl
theorem Cd.impl_isFault_ok : CodeIsR Tryd.prog 97 Tryd.f97 Cd.impl_isFault := ⟨Tryd.func97, by kernel_rfl, by decide +kernel⟩
/-- loop.example/g01012/impl.digitAt -/
def Cd.impl_digitAt : ACode :=
  .seq (.region [⟨some 4, .mv (.const (.int .i64 (0))), none⟩] [0, 1] []) <|
  .seq (.region [⟨some 5, .mv (.tmp 0), none⟩,
     ⟨some 6, .call (.func F.impl_wheelsShow) [(.const (.int .i64 (4))), (.tmp 5)] [], none⟩,
     ⟨some 7, .field false 0 1 (.tmp 6), none⟩,
     ⟨some 8, .mv (.tmp 1), none⟩,
     ⟨some 9, .idxSl 1 (.tmp 7) (.tmp 8), none⟩,
     ⟨some 10, .load false 1 (.tmp 9), none⟩,
     ⟨some 4, .mv (.tmp 10), none⟩] [4] []) <|
  .ret
theorem Cd.impl_digitAt_rs : Tryd.f98.results.toList = [.tmp 4] := rfl
theorem Cd.impl_digitAt_nt : Tryd.f98.ntmps = 11 := rfl
theorem Cd.impl_digitAt_ok : CodeIsR Tryd.prog 98 Tryd.f98 Cd.impl_digitAt := ⟨Tryd.func98, by kernel_rfl, by decide +kernel⟩
/-- loop.example/g01012/impl.ValidCard$1 -/
def Cd.impl_ValidCard_1 : ACode :=
  .seq (.region [⟨some 2, .mv (.const (.bool false)), none⟩] [0] []) <|
  .seq (.region [⟨some 3, .mv (.tmp 0), none⟩,
     ⟨some 4, .call (.func F.impl_inside) [(.tmp 3), (.const (.int .i64 (0))), (.const (.int .i64 (4095)))] [], none⟩,
     ⟨some 5, .un .not (.tmp 4), none⟩,
     ⟨some 2, .mv (.tmp 5), none⟩] [2] []) <|
  .ret
theorem Cd.impl_ValidCard_1_rs : Tryd.f100.results.toList = [.tmp 2] := rfl
theorem Cd.impl_ValidCard_1_nt : Tryd.f100.ntmps = 6 := rfl
theorem Cd.impl_ValidCard_1_ok : CodeIsR Tryd.prog 100 Tryd.f100 Cd.impl_ValidCard_1 := ⟨Tryd.func100, by kernel_rfl, by decide +kernel⟩
/-- loop.example/g01012/impl.digitsOf -/
def Cd.impl_digitsOf : ACode :=
  .seq (.region [⟨some 2, .mv (.const (.int .i64 (0))), none⟩] [0] []) <|
  .seq (.region [⟨some 3, .mv (.tmp 0), none⟩,
     ⟨some 4, .call (.func F.impl_Decimal) [(.tmp 3)] [], none⟩,
     ⟨some 5, .lenS (.tmp 4), none⟩,
     ⟨some 2, .mv (.tmp 5), none⟩] [2] []) <|
  .ret
theorem Cd.impl_digitsOf_rs : Tryd.f113.results.toList = [.tmp 2] := rfl
theorem Cd.impl_digitsOf_nt : Tryd.f113.ntmps = 6 := rfl
theorem Cd.impl_digitsOf_ok : CodeIsR Tryd.prog 113 Tryd.f113 Cd.impl_digitsOf := ⟨Tryd.func113, by kernel_rfl, by decide +kernel⟩
/-- loop.example/g01012/impl.absOf -/
def Cd.impl_absOf : ACode :=
  .seq (.region [⟨some 2, .mv (.const (.int .i64 (0))), none⟩] [0] []) <|
  .seq (.region [⟨some 3, .mv (.tmp 0), none⟩,
     ⟨some 4, .mv (.tmp 0), none⟩,
     ⟨some 5, .un .neg (.tmp 4), none⟩,
     ⟨some 6, .mm true (.tmp 3) (.tmp 5), none⟩,
     ⟨some 2, .mv (.tmp 6), none⟩] [2] []) <|
  .ret
theorem Cd.impl_absOf_rs : Tryd.f114.results.toList = [.tmp 2] := rfl
theorem Cd.impl_absOf_nt : Tryd.f114.ntmps = 7 := rfl
theorem Cd.impl_absOf_ok : CodeIsR Tryd.prog 114 Tryd.f114 Cd.impl_absOf := ⟨Tryd.func114, by kernel_rfl, by decide +kernel⟩
/-- loop.example/g01012/spec.l19Form -/
def Cd.spec_l19Form : ACode :=
  .seq (.region [⟨some 1, .box (.tmp 0), none⟩,
     ⟨some 2, .mv (.const (.bool false)), none⟩] [1] []) <|
  .seq (.seq (.region [⟨some 3, .fieldAddr 0 (.tmp 1), none⟩,
      ⟨some 4, .load false 1 (.tmp 3), none⟩,
      ⟨some 5, .call (.func F.spec_l00In) [(.tmp 4), (.const (.int .i64 (1))), (.const (.int .i64 (3)))] [], none⟩,
      ⟨some 6, .un .not (.tmp 5), none⟩,
      ⟨some 7, .mv (.tmp 6), none⟩,
      ⟨some 8, .fieldAddr 1 (.tmp 1), some (7, false)⟩,
      ⟨some 9, .load false 1 (.tmp 8), some (7, false)⟩,
      ⟨some 10, .call (.func F.spec_l00In) [(.tmp 9), (.const (.int .i64 (0))), (.const (.int .i64 (11)))] [], some (7, false)⟩,
      ⟨some 11, .un .not (.tmp 10), some (7, false)⟩,
      ⟨some 12, .pick (.tmp 7) (.const (.bool true)) (.tmp 11), none⟩] [1, 12] []) <|
   .cond (.tmp 12)
     (.seq (.region [⟨some 2, .mv (.const (.bool false)), none⟩] [2] []) <|
     .ret)
     (.skip)) <|
  .seq (.seq (.region [⟨some 13, .fieldAddr 0 (.tmp 1), none⟩,
      ⟨some 14, .load false 1 (.tmp 13), none⟩,
      ⟨some 15, .bin .eql (.tmp 14) (.const (.int .i64 (3))), none⟩] [1, 15] []) <|
   .cond (.tmp 15)
     (.seq (.region [⟨some 16, .fieldAddr 2 (.tmp 1), none⟩,
        ⟨some 17, .load false 1 (.tmp 16), none⟩,
        ⟨some 18, .call (.func F.spec_l00In) [(.tmp 17), (.const (.int .i64 (0))), (.const (.int .i64 (3)))] [], none⟩,
        ⟨some 19, .mv (.tmp 18), none⟩,
        ⟨some 20, .fieldAddr 3 (.tmp 1), some (19, true)⟩,
        ⟨some 21, .load false 1 (.tmp 20), some (19, true)⟩,
        ⟨some 22, .call (.func F.spec_l00In) [(.tmp 21), (.const (.int .i64 (0))), (.const (.int .i64 (9)))] [], some (19, true)⟩,
        ⟨some 23, .pick (.tmp 19) (.tmp 22) (.const (.bool false)), none⟩,
        ⟨some 2, .mv (.tmp 23), none⟩] [2] []) <|
     .ret)
     (.skip)) <|
  .seq (.region [⟨some 24, .fieldAddr 2 (.tmp 1), none⟩,
     ⟨some 25, .load false 1 (.tmp 24), none⟩,
     ⟨some 26, .bin .eql (.tmp 25) (.const (.int .i64 (0))), none⟩,
     ⟨some 27, .mv (.tmp 26), none⟩,
     ⟨some 28, .fieldAddr 3 (.tmp 1), some (27, true)⟩,
     ⟨some 29, .load false 1 (.tmp 28), some (27, true)⟩,
     ⟨some 30, .bin .eql (.tmp 29) (.const (.int .i64 (0))), some (27, true)⟩,
     ⟨some 31, .pick (.tmp 27) (.tmp 30) (.const (.bool false)), none⟩,
     ⟨some 2, .mv (.tmp 31), none⟩] [2] []) <|
  .ret
theorem Cd.spec_l19Form_rs : Tryd.f115.results.toList = [.tmp 2] := rfl
theorem Cd.spec_l19Form_nt : Tryd.f115.ntmps = 32 := rfl
theorem Cd.spec_l19Form_ok : CodeIsR Tryd.prog 115 Tryd.f115 Cd.spec_l19Form := ⟨Tryd.func115, by kernel_rfl, by decide +kernel⟩
/-- loop.example/g01012/impl.Decimal -/
def Cd.impl_Decimal : ACode :=
  .seq (.region [⟨some 2, .mv (.const (.string ⟨#[]⟩)), none⟩] [0] []) <|
  .seq (.region [⟨some 3, .mv (.tmp 0), none⟩,
     ⟨some 4, .call (.func F.strconv_FormatInt) [(.tmp 3), (.const (.int .i64 (10)))] [], none⟩,
     ⟨some 2, .mv (.tmp 4), none⟩] [2] []) <|
  .ret
theorem Cd.impl_Decimal_rs : Tryd.f120.results.toList = [.tmp 2] := rfl
theorem Cd.impl_Decimal_nt : Tryd.f120.ntmps = 5 := rfl
theorem Cd.impl_Decimal_ok : CodeIsR Tryd.prog 120 Tryd.f120 Cd.impl_Decimal := ⟨Tryd.func120, by kernel_rfl, by decide +kernel⟩
/-- strconv.FormatInt -/
def Cd.strconv_FormatInt : ACode :=
  .seq (.region [⟨some 4, .mv (.const (.string ⟨#[]⟩)), none⟩] [0, 1] []) <|
  .seq (.region [⟨some 5, .mv (.tmp 0), none⟩,
     ⟨some 6, .mv (.tmp 1), none⟩,
     ⟨some 7, .call (.func F.internal_strconv_FormatInt) [(.tmp 5), (.tmp 6)] [], none⟩,
     ⟨some 4, .mv (.tmp 7), none⟩] [4] []) <|
  .ret
theorem Cd.strconv_FormatInt_rs : Tryd.f121.results.toList = [.tmp 4] := rfl
theorem Cd.strconv_FormatInt_nt : Tryd.f121.ntmps = 8 := rfl
theorem Cd.strconv_FormatInt_ok : CodeIsR Tryd.prog 121 Tryd.f121 Cd.strconv_FormatInt := ⟨Tryd.func121, by kernel_rfl, by decide +kernel⟩
-- NOT COVERED internal/strconv.FormatInt: [region 9 op 2, region 12 op 2, region 13 op 2]
end Go.Proofs.YtclfhgcngodljaaDoor
