/- The code of each function, resolved. -/
import Derived.Test.YtaegnbfboeeijaaVtC
import Derived.Test.YtaegnbfboeeijaaRows
namespace Go.Proofs.Ytaegnbfboeeijaa
open Go.Vs
set_option maxRecDepth 100000
theorem Try.own : ownKnob Try.prog.godebug = none := by kernel_rfl
theorem Try.laidOut : laidOutB Try.prog = true := by kernel_rfl
theorem Try.mixed : Try.prog.follows .mixedOrders = true := Try.checked.mixed
namespace F
abbrev main_main : FuncId := 0
abbrev gosem_cut : FuncId := 1
abbrev gosem_cut_init : FuncId := 2
abbrev laws_FnExactAddControls : FuncId := 3
abbrev laws_FnExactTakeControls : FuncId := 4
abbrev laws_FnExactSameTotals : FuncId := 5
abbrev laws_FnExactValidSpec : FuncId := 6
abbrev laws_FnExactSameFlow : FuncId := 7
abbrev laws_FnExactValidStep : FuncId := 8
abbrev laws_FnExactValidFaults : FuncId := 9
abbrev laws_FnExactCountDecks : FuncId := 10
abbrev laws_FnExactValidFlow : FuncId := 11
abbrev laws_FnExactDeckAt : FuncId := 12
abbrev laws_FnExactFlowFor : FuncId := 13
abbrev laws_FnExactAmountsAfter : FuncId := 14
abbrev spec_AddControls : FuncId := 15
abbrev laws_toControl : FuncId := 16
abbrev impl_AddControls : FuncId := 17
abbrev laws_eqControl : FuncId := 18
abbrev spec_TakeControls : FuncId := 19
abbrev impl_TakeControls : FuncId := 20
abbrev laws_szTotalS : FuncId := 21
abbrev spec_SameTotals : FuncId := 22
abbrev laws_toTotalS : FuncId := 23
abbrev impl_SameTotals : FuncId := 24
abbrev laws_eqTotalS : FuncId := 25
abbrev laws_szSpec : FuncId := 26
abbrev spec_ValidSpec : FuncId := 27
abbrev laws_toSpec : FuncId := 28
abbrev impl_ValidSpec : FuncId := 29
abbrev laws_szStepS : FuncId := 30
abbrev spec_SameFlow : FuncId := 31
abbrev laws_toStepS : FuncId := 32
abbrev impl_SameFlow : FuncId := 33
abbrev laws_eqStepS : FuncId := 34
abbrev laws_szStep : FuncId := 35
abbrev spec_ValidStep : FuncId := 36
abbrev laws_toStep : FuncId := 37
abbrev impl_ValidStep : FuncId := 38
abbrev laws_szFaultS : FuncId := 39
abbrev spec_ValidFaults : FuncId := 40
abbrev laws_toInt64S : FuncId := 41
abbrev laws_toFaultS : FuncId := 42
abbrev impl_ValidFaults : FuncId := 43
abbrev laws_eqInt64S : FuncId := 44
abbrev laws_eqFaultS : FuncId := 45
abbrev laws_szCardS : FuncId := 46
abbrev spec_CountDecks : FuncId := 47
abbrev laws_toCardS : FuncId := 48
abbrev impl_CountDecks : FuncId := 49
abbrev laws_eqCardS : FuncId := 50
abbrev spec_ValidFlow : FuncId := 51
abbrev impl_ValidFlow : FuncId := 52
abbrev spec_DeckAt : FuncId := 53
abbrev impl_DeckAt : FuncId := 54
abbrev laws_markCardS : FuncId := 55
abbrev laws_heldCardS : FuncId := 56
abbrev spec_FlowFor : FuncId := 57
abbrev impl_FlowFor : FuncId := 58
abbrev laws_markStepS : FuncId := 59
abbrev laws_heldStepS : FuncId := 60
abbrev spec_AmountsAfter : FuncId := 61
abbrev impl_AmountsAfter : FuncId := 62
abbrev laws_markInt64S : FuncId := 63
abbrev laws_markFaultS : FuncId := 64
abbrev laws_heldInt64S : FuncId := 65
abbrev spec_l18Two : FuncId := 66
abbrev spec_l18Ok : FuncId := 67
abbrev impl_joinedControls : FuncId := 68
abbrev laws_szTotal : FuncId := 69
abbrev spec_l15Totals : FuncId := 70
abbrev laws_toTotal : FuncId := 71
abbrev slices_Equal___impl_Total_impl_Total_ : FuncId := 72
abbrev laws_eqTotal : FuncId := 73
abbrev spec_l00In : FuncId := 74
abbrev spec_l16Ok : FuncId := 75
abbrev laws_toField : FuncId := 76
abbrev impl_inside : FuncId := 77
abbrev impl_isField : FuncId := 78
abbrev impl_isNumberField : FuncId := 79
abbrev impl_areCharacters : FuncId := 80
abbrev slices_Equal___impl_Step_impl_Step_ : FuncId := 81
abbrev laws_eqStep : FuncId := 82
abbrev spec_l15Step : FuncId := 83
abbrev impl_isTray : FuncId := 84
abbrev impl_takesTwo : FuncId := 85
abbrev spec_l19Ok : FuncId := 86
abbrev spec_l19Faults : FuncId := 87
abbrev laws_toFault : FuncId := 88
abbrev impl_ValidAmounts : FuncId := 89
abbrev impl_areFaults : FuncId := 90
abbrev laws_eqFault : FuncId := 91
abbrev laws_szCard : FuncId := 92
abbrev spec_l17Code : FuncId := 93
abbrev spec_l17Count : FuncId := 94
abbrev laws_toCard : FuncId := 95
abbrev impl_sampleCode : FuncId := 96
abbrev impl_size___impl_Card_ : FuncId := 97
abbrev impl_decksOf : FuncId := 98
abbrev laws_eqCard : FuncId := 99
abbrev spec_l15Flow : FuncId := 100
abbrev slices_ContainsFunc___impl_Step_impl_Step_ : FuncId := 101
abbrev impl_ValidFlow_1 : FuncId := 102
abbrev spec_l17At : FuncId := 103
abbrev spec_l16Flow : FuncId := 104
abbrev laws_markText : FuncId := 105
abbrev spec_l19Code : FuncId := 106
abbrev spec_l19After : FuncId := 107
abbrev impl_faultCode : FuncId := 108
abbrev impl_amountsAfter : FuncId := 109
abbrev impl_isPlainControl : FuncId := 110
abbrev _impl_Control__plus : FuncId := 111
abbrev spec_l02Field : FuncId := 112
abbrev spec_l09Text : FuncId := 113
abbrev impl_isCharacter : FuncId := 114
abbrev laws_eqField : FuncId := 115
abbrev spec_l15Tray : FuncId := 116
abbrev spec_l15Both : FuncId := 117
abbrev spec_l19Fault : FuncId := 118
abbrev slices_ContainsFunc___int64_int64_ : FuncId := 119
abbrev impl_ValidAmounts_1 : FuncId := 120
abbrev impl_isFault : FuncId := 121
abbrev impl_size_int64_ : FuncId := 122
abbrev impl_digitAt : FuncId := 123
abbrev laws_szInt64S : FuncId := 124
abbrev spec_l17Sample : FuncId := 125
abbrev impl_ValidDeck : FuncId := 126
abbrev impl_size_impl_Card_ : FuncId := 127
abbrev impl_newDeck : FuncId := 128
abbrev impl_newCard : FuncId := 129
abbrev slices_IndexFunc___impl_Step_impl_Step_ : FuncId := 130
abbrev spec_l02Own : FuncId := 131
abbrev spec_l19Read : FuncId := 132
abbrev slices_IndexFunc___impl_Fault_impl_Fault_ : FuncId := 133
abbrev impl_amountsAfter_1 : FuncId := 134
abbrev impl_wheelsShow : FuncId := 135
abbrev impl_shown : FuncId := 136
abbrev spec_l03Code : FuncId := 137
abbrev strings_IndexByte : FuncId := 138
abbrev spec_l19Form : FuncId := 139
abbrev spec_l19Power : FuncId := 140
abbrev slices_IndexFunc___int64_int64_ : FuncId := 141
abbrev spec_l02Deck : FuncId := 142
abbrev impl_ValidCard : FuncId := 143
abbrev _impl_Card__columns : FuncId := 144
abbrev impl_copyInts : FuncId := 145
abbrev spec_l00Own : FuncId := 146
abbrev spec_l02Bit : FuncId := 147
abbrev spec_l01Digit : FuncId := 148
abbrev internal_stringslite_IndexByte : FuncId := 149
abbrev spec_l02Ok : FuncId := 150
abbrev impl_ValidCard_1 : FuncId := 151
abbrev internal_bytealg_IndexByteString : FuncId := 152
abbrev _runtime_boundsError__Error : FuncId := 153
abbrev _runtime_boundsError__RuntimeError : FuncId := 154
abbrev _runtime_errorString__Error : FuncId := 155
abbrev _runtime_errorString__RuntimeError : FuncId := 156
abbrev _runtime_plainError__Error : FuncId := 157
abbrev _runtime_plainError__RuntimeError : FuncId := 158
abbrev _runtime_errorAddressString__Error : FuncId := 159
abbrev _runtime_errorAddressString__RuntimeError : FuncId := 160
abbrev __runtime_TypeAssertionError__Error : FuncId := 161
abbrev __runtime_TypeAssertionError__RuntimeError : FuncId := 162
abbrev __runtime_PanicNilError__Error : FuncId := 163
abbrev __runtime_PanicNilError__RuntimeError : FuncId := 164
abbrev __internal_abi_Type__Align : FuncId := 165
abbrev _internal_runtime_maps_unhashableTypeError__Error : FuncId := 166
abbrev _internal_runtime_maps_unhashableTypeError__RuntimeError : FuncId := 167
abbrev _internal_abi_Kind__String : FuncId := 168
end F
theorem Ld.t24 : ldOf Try.prog 24 = some (true, 3) := by kernel_rfl
theorem Ld.t44 : ldOf Try.prog 44 = some (true, 7) := by kernel_rfl
theorem Ld.t58 : ldOf Try.prog 58 = some (true, 9) := by kernel_rfl
theorem Ld.t99 : ldOf Try.prog 99 = some (true, 2) := by kernel_rfl
theorem Ld.t42 : ldOf Try.prog 42 = some (true, 2) := by kernel_rfl
theorem Ld.t114 : ldOf Try.prog 114 = some (true, 4) := by kernel_rfl
theorem Ld.t123 : ldOf Try.prog 123 = some (true, 1) := by kernel_rfl
theorem Ld.t157 : ldOf Try.prog 157 = some (true, 1) := by kernel_rfl
/-- loop.example/g01012/laws.FnExactSameTotals -/
def Cd.laws_FnExactSameTotals : ACode :=
  .seq (.region [⟨some 4, .mv (.const (.bool false)), none⟩] [0, 1] []) <|
  .seq (.region [⟨some 5, .mv (.const (.int .i64 (1048576))), none⟩] [0, 1, 5] []) <|
  .seq (.region [⟨some 10, .mv (.tmp 0), none⟩,
     ⟨some 11, .mv (.tmp 5), none⟩,
     ⟨some 12, .call (.func F.laws_szTotalS) [(.tmp 10), (.tmp 11)] [], none⟩,
     ⟨some 5, .mv (.tmp 12), none⟩] [0, 1, 5] []) <|
  .seq (.seq (.region [⟨some 13, .mv (.tmp 5), none⟩,
      ⟨some 14, .bin .lss (.tmp 13) (.const (.int .i64 (0))), none⟩] [0, 1, 5, 14] []) <|
   .cond (.tmp 14)
     (.seq (.region [⟨some 4, .mv (.const (.bool true)), none⟩] [4] []) <|
     .ret)
     (.skip)) <|
  .seq (.region [⟨some 15, .mv (.tmp 1), none⟩,
     ⟨some 16, .mv (.tmp 5), none⟩,
     ⟨some 17, .call (.func F.laws_szTotalS) [(.tmp 15), (.tmp 16)] [], none⟩,
     ⟨some 5, .mv (.tmp 17), none⟩] [0, 1, 5] []) <|
  .seq (.seq (.region [⟨some 18, .mv (.tmp 5), none⟩,
      ⟨some 19, .bin .lss (.tmp 18) (.const (.int .i64 (0))), none⟩] [0, 1, 19] []) <|
   .cond (.tmp 19)
     (.seq (.region [⟨some 4, .mv (.const (.bool true)), none⟩] [4] []) <|
     .ret)
     (.skip)) <|
  .seq (.region [⟨some 20, .mv (.tmp 0), none⟩,
     ⟨some 21, .call (.func F.laws_toTotalS) [(.tmp 20)] [], none⟩,
     ⟨some 22, .mv (.tmp 1), none⟩,
     ⟨some 23, .call (.func F.laws_toTotalS) [(.tmp 22)] [], none⟩,
     ⟨some 24, .call (.func F.spec_SameTotals) [(.tmp 21), (.tmp 23)] [], none⟩,
     ⟨some 6, .mv (.tmp 24), none⟩] [0, 1, 6] []) <|
  .seq (.region [⟨some 25, .mv (.tmp 0), none⟩,
     ⟨some 26, .call (.func F.laws_toTotalS) [(.tmp 25)] [], none⟩,
     ⟨some 7, .mv (.tmp 26), none⟩] [0, 1, 6, 7] []) <|
  .seq (.region [⟨some 27, .mv (.tmp 1), none⟩,
     ⟨some 28, .call (.func F.laws_toTotalS) [(.tmp 27)] [], none⟩,
     ⟨some 8, .mv (.tmp 28), none⟩] [0, 1, 6, 7, 8] []) <|
  .seq (.region [⟨some 29, .mv (.tmp 7), none⟩,
     ⟨some 30, .mv (.tmp 8), none⟩,
     ⟨some 31, .call (.func F.impl_SameTotals) [(.tmp 29), (.tmp 30)] [], none⟩,
     ⟨some 9, .mv (.tmp 31), none⟩] [0, 1, 6, 7, 8, 9] []) <|
  .seq (.seq (.region [⟨some 32, .mv (.tmp 9), none⟩,
      ⟨some 33, .mv (.tmp 6), none⟩,
      ⟨some 34, .binB .neq (.tmp 32) (.tmp 33), none⟩] [0, 1, 7, 8, 34] []) <|
   .cond (.tmp 34)
     (.seq (.region [⟨some 4, .mv (.const (.bool false)), none⟩] [4] []) <|
     .ret)
     (.skip)) <|
  .seq (.seq (.region [⟨some 35, .mv (.tmp 7), none⟩,
      ⟨some 36, .mv (.tmp 0), none⟩,
      ⟨some 37, .call (.func F.laws_toTotalS) [(.tmp 36)] [], none⟩,
      ⟨some 38, .call (.func F.laws_eqTotalS) [(.tmp 35), (.tmp 37)] [], none⟩,
      ⟨some 39, .un .not (.tmp 38), none⟩] [1, 8, 39] []) <|
   .cond (.tmp 39)
     (.seq (.region [⟨some 4, .mv (.const (.bool false)), none⟩] [4] []) <|
     .ret)
     (.skip)) <|
  .seq (.seq (.region [⟨some 40, .mv (.tmp 8), none⟩,
      ⟨some 41, .mv (.tmp 1), none⟩,
      ⟨some 42, .call (.func F.laws_toTotalS) [(.tmp 41)] [], none⟩,
      ⟨some 43, .call (.func F.laws_eqTotalS) [(.tmp 40), (.tmp 42)] [], none⟩,
      ⟨some 44, .un .not (.tmp 43), none⟩] [44] []) <|
   .cond (.tmp 44)
     (.seq (.region [⟨some 4, .mv (.const (.bool false)), none⟩] [4] []) <|
     .ret)
     (.skip)) <|
  .seq (.region [⟨some 4, .mv (.const (.bool true)), none⟩] [4] []) <|
  .ret
theorem Cd.laws_FnExactSameTotals_rs : Try.f5.results.toList = [.tmp 4] := rfl
theorem Cd.laws_FnExactSameTotals_nt : Try.f5.ntmps = 45 := rfl
theorem Cd.laws_FnExactSameTotals_ok : CodeIsR Try.prog 5 Try.f5 Cd.laws_FnExactSameTotals := ⟨Try.func5, by kernel_rfl, by decide +kernel⟩
/-- loop.example/g01012/laws.FnExactValidSpec -/
def Cd.laws_FnExactValidSpec : ACode :=
  .seq (.region [⟨some 2, .box (.tmp 0), none⟩,
     ⟨some 4, .mv (.const (.bool false)), none⟩] [1, 2] []) <|
  .seq (.region [⟨some 5, .mv (.const (.int .i64 (1048576))), none⟩] [1, 2, 5] []) <|
  .seq (.region [⟨some 8, .load true 7 (.tmp 2), none⟩,
     ⟨some 9, .mv (.tmp 5), none⟩,
     ⟨some 10, .call (.func F.laws_szSpec) [(.tmp 8), (.tmp 9)] [], none⟩,
     ⟨some 5, .mv (.tmp 10), none⟩] [1, 2, 5] []) <|
  .seq (.seq (.region [⟨some 11, .mv (.tmp 5), none⟩,
      ⟨some 12, .bin .lss (.tmp 11) (.const (.int .i64 (0))), none⟩] [1, 2, 12] []) <|
   .cond (.tmp 12)
     (.seq (.region [⟨some 4, .mv (.const (.bool true)), none⟩] [4] []) <|
     .ret)
     (.skip)) <|
  .seq (.region [⟨some 13, .load true 7 (.tmp 2), none⟩,
     ⟨some 14, .call (.func F.laws_toSpec) [(.tmp 13)] [], none⟩,
     ⟨some 15, .mv (.tmp 1), none⟩,
     ⟨some 16, .call (.func F.spec_ValidSpec) [(.tmp 14), (.tmp 15)] [], none⟩,
     ⟨some 6, .mv (.tmp 16), none⟩] [1, 2, 6] []) <|
  .seq (.region [⟨some 17, .load true 7 (.tmp 2), none⟩,
     ⟨some 18, .call (.func F.laws_toSpec) [(.tmp 17)] [], none⟩,
     ⟨some 19, .mv (.tmp 1), none⟩,
     ⟨some 20, .call (.func F.impl_ValidSpec) [(.tmp 18), (.tmp 19)] [], none⟩,
     ⟨some 7, .mv (.tmp 20), none⟩] [6, 7] []) <|
  .seq (.seq (.region [⟨some 21, .mv (.tmp 7), none⟩,
      ⟨some 22, .mv (.tmp 6), none⟩,
      ⟨some 23, .binB .neq (.tmp 21) (.tmp 22), none⟩] [23] []) <|
   .cond (.tmp 23)
     (.seq (.region [⟨some 4, .mv (.const (.bool false)), none⟩] [4] []) <|
     .ret)
     (.skip)) <|
  .seq (.region [⟨some 4, .mv (.const (.bool true)), none⟩] [4] []) <|
  .ret
theorem Cd.laws_FnExactValidSpec_rs : Try.f6.results.toList = [.tmp 4] := rfl
theorem Cd.laws_FnExactValidSpec_nt : Try.f6.ntmps = 24 := rfl
theorem Cd.laws_FnExactValidSpec_ok : CodeIsR Try.prog 6 Try.f6 Cd.laws_FnExactValidSpec := ⟨Try.func6, by kernel_rfl, by decide +kernel⟩
/-- loop.example/g01012/laws.FnExactSameFlow -/
def Cd.laws_FnExactSameFlow : ACode :=
  .seq (.region [⟨some 4, .mv (.const (.bool false)), none⟩] [0, 1] []) <|
  .seq (.region [⟨some 5, .mv (.const (.int .i64 (1048576))), none⟩] [0, 1, 5] []) <|
  .seq (.region [⟨some 10, .mv (.tmp 0), none⟩,
     ⟨some 11, .mv (.tmp 5), none⟩,
     ⟨some 12, .call (.func F.laws_szStepS) [(.tmp 10), (.tmp 11)] [], none⟩,
     ⟨some 5, .mv (.tmp 12), none⟩] [0, 1, 5] []) <|
  .seq (.seq (.region [⟨some 13, .mv (.tmp 5), none⟩,
      ⟨some 14, .bin .lss (.tmp 13) (.const (.int .i64 (0))), none⟩] [0, 1, 5, 14] []) <|
   .cond (.tmp 14)
     (.seq (.region [⟨some 4, .mv (.const (.bool true)), none⟩] [4] []) <|
     .ret)
     (.skip)) <|
  .seq (.region [⟨some 15, .mv (.tmp 1), none⟩,
     ⟨some 16, .mv (.tmp 5), none⟩,
     ⟨some 17, .call (.func F.laws_szStepS) [(.tmp 15), (.tmp 16)] [], none⟩,
     ⟨some 5, .mv (.tmp 17), none⟩] [0, 1, 5] []) <|
  .seq (.seq (.region [⟨some 18, .mv (.tmp 5), none⟩,
      ⟨some 19, .bin .lss (.tmp 18) (.const (.int .i64 (0))), none⟩] [0, 1, 19] []) <|
   .cond (.tmp 19)
     (.seq (.region [⟨some 4, .mv (.const (.bool true)), none⟩] [4] []) <|
     .ret)
     (.skip)) <|
  .seq (.region [⟨some 20, .mv (.tmp 0), none⟩,
     ⟨some 21, .call (.func F.laws_toStepS) [(.tmp 20)] [], none⟩,
     ⟨some 22, .mv (.tmp 1), none⟩,
     ⟨some 23, .call (.func F.laws_toStepS) [(.tmp 22)] [], none⟩,
     ⟨some 24, .call (.func F.spec_SameFlow) [(.tmp 21), (.tmp 23)] [], none⟩,
     ⟨some 6, .mv (.tmp 24), none⟩] [0, 1, 6] []) <|
  .seq (.region [⟨some 25, .mv (.tmp 0), none⟩,
     ⟨some 26, .call (.func F.laws_toStepS) [(.tmp 25)] [], none⟩,
     ⟨some 7, .mv (.tmp 26), none⟩] [0, 1, 6, 7] []) <|
  .seq (.region [⟨some 27, .mv (.tmp 1), none⟩,
     ⟨some 28, .call (.func F.laws_toStepS) [(.tmp 27)] [], none⟩,
     ⟨some 8, .mv (.tmp 28), none⟩] [0, 1, 6, 7, 8] []) <|
  .seq (.region [⟨some 29, .mv (.tmp 7), none⟩,
     ⟨some 30, .mv (.tmp 8), none⟩,
     ⟨some 31, .call (.func F.impl_SameFlow) [(.tmp 29), (.tmp 30)] [], none⟩,
     ⟨some 9, .mv (.tmp 31), none⟩] [0, 1, 6, 7, 8, 9] []) <|
  .seq (.seq (.region [⟨some 32, .mv (.tmp 9), none⟩,
      ⟨some 33, .mv (.tmp 6), none⟩,
      ⟨some 34, .binB .neq (.tmp 32) (.tmp 33), none⟩] [0, 1, 7, 8, 34] []) <|
   .cond (.tmp 34)
     (.seq (.region [⟨some 4, .mv (.const (.bool false)), none⟩] [4] []) <|
     .ret)
     (.skip)) <|
  .seq (.seq (.region [⟨some 35, .mv (.tmp 7), none⟩,
      ⟨some 36, .mv (.tmp 0), none⟩,
      ⟨some 37, .call (.func F.laws_toStepS) [(.tmp 36)] [], none⟩,
      ⟨some 38, .call (.func F.laws_eqStepS) [(.tmp 35), (.tmp 37)] [], none⟩,
      ⟨some 39, .un .not (.tmp 38), none⟩] [1, 8, 39] []) <|
   .cond (.tmp 39)
     (.seq (.region [⟨some 4, .mv (.const (.bool false)), none⟩] [4] []) <|
     .ret)
     (.skip)) <|
  .seq (.seq (.region [⟨some 40, .mv (.tmp 8), none⟩,
      ⟨some 41, .mv (.tmp 1), none⟩,
      ⟨some 42, .call (.func F.laws_toStepS) [(.tmp 41)] [], none⟩,
      ⟨some 43, .call (.func F.laws_eqStepS) [(.tmp 40), (.tmp 42)] [], none⟩,
      ⟨some 44, .un .not (.tmp 43), none⟩] [44] []) <|
   .cond (.tmp 44)
     (.seq (.region [⟨some 4, .mv (.const (.bool false)), none⟩] [4] []) <|
     .ret)
     (.skip)) <|
  .seq (.region [⟨some 4, .mv (.const (.bool true)), none⟩] [4] []) <|
  .ret
theorem Cd.laws_FnExactSameFlow_rs : Try.f7.results.toList = [.tmp 4] := rfl
theorem Cd.laws_FnExactSameFlow_nt : Try.f7.ntmps = 45 := rfl
theorem Cd.laws_FnExactSameFlow_ok : CodeIsR Try.prog 7 Try.f7 Cd.laws_FnExactSameFlow := ⟨Try.func7, by kernel_rfl, by decide +kernel⟩
/-- loop.example/g01012/laws.FnExactValidStep -/
def Cd.laws_FnExactValidStep : ACode :=
  .seq (.region [⟨some 2, .box (.tmp 0), none⟩,
     ⟨some 4, .mv (.const (.bool false)), none⟩] [1, 2] []) <|
  .seq (.region [⟨some 5, .mv (.const (.int .i64 (1048576))), none⟩] [1, 2, 5] []) <|
  .seq (.region [⟨some 8, .load true 9 (.tmp 2), none⟩,
     ⟨some 9, .mv (.tmp 5), none⟩,
     ⟨some 10, .call (.func F.laws_szStep) [(.tmp 8), (.tmp 9)] [], none⟩,
     ⟨some 5, .mv (.tmp 10), none⟩] [1, 2, 5] []) <|
  .seq (.seq (.region [⟨some 11, .mv (.tmp 5), none⟩,
      ⟨some 12, .bin .lss (.tmp 11) (.const (.int .i64 (0))), none⟩] [1, 2, 12] []) <|
   .cond (.tmp 12)
     (.seq (.region [⟨some 4, .mv (.const (.bool true)), none⟩] [4] []) <|
     .ret)
     (.skip)) <|
  .seq (.region [⟨some 13, .load true 9 (.tmp 2), none⟩,
     ⟨some 14, .call (.func F.laws_toStep) [(.tmp 13)] [], none⟩,
     ⟨some 15, .mv (.tmp 1), none⟩,
     ⟨some 16, .call (.func F.spec_ValidStep) [(.tmp 14), (.tmp 15)] [], none⟩,
     ⟨some 6, .mv (.tmp 16), none⟩] [1, 2, 6] []) <|
  .seq (.region [⟨some 17, .load true 9 (.tmp 2), none⟩,
     ⟨some 18, .call (.func F.laws_toStep) [(.tmp 17)] [], none⟩,
     ⟨some 19, .mv (.tmp 1), none⟩,
     ⟨some 20, .call (.func F.impl_ValidStep) [(.tmp 18), (.tmp 19)] [], none⟩,
     ⟨some 7, .mv (.tmp 20), none⟩] [6, 7] []) <|
  .seq (.seq (.region [⟨some 21, .mv (.tmp 7), none⟩,
      ⟨some 22, .mv (.tmp 6), none⟩,
      ⟨some 23, .binB .neq (.tmp 21) (.tmp 22), none⟩] [23] []) <|
   .cond (.tmp 23)
     (.seq (.region [⟨some 4, .mv (.const (.bool false)), none⟩] [4] []) <|
     .ret)
     (.skip)) <|
  .seq (.region [⟨some 4, .mv (.const (.bool true)), none⟩] [4] []) <|
  .ret
theorem Cd.laws_FnExactValidStep_rs : Try.f8.results.toList = [.tmp 4] := rfl
theorem Cd.laws_FnExactValidStep_nt : Try.f8.ntmps = 24 := rfl
theorem Cd.laws_FnExactValidStep_ok : CodeIsR Try.prog 8 Try.f8 Cd.laws_FnExactValidStep := ⟨Try.func8, by kernel_rfl, by decide +kernel⟩
/-- loop.example/g01012/laws.FnExactValidFlow -/
def Cd.laws_FnExactValidFlow : ACode :=
  .seq (.region [⟨some 4, .mv (.const (.bool false)), none⟩] [0, 1] []) <|
  .seq (.region [⟨some 5, .mv (.const (.int .i64 (1048576))), none⟩] [0, 1, 5] []) <|
  .seq (.region [⟨some 9, .mv (.tmp 0), none⟩,
     ⟨some 10, .mv (.tmp 5), none⟩,
     ⟨some 11, .call (.func F.laws_szStepS) [(.tmp 9), (.tmp 10)] [], none⟩,
     ⟨some 5, .mv (.tmp 11), none⟩] [0, 1, 5] []) <|
  .seq (.seq (.region [⟨some 12, .mv (.tmp 5), none⟩,
      ⟨some 13, .bin .lss (.tmp 12) (.const (.int .i64 (0))), none⟩] [0, 1, 13] []) <|
   .cond (.tmp 13)
     (.seq (.region [⟨some 4, .mv (.const (.bool true)), none⟩] [4] []) <|
     .ret)
     (.skip)) <|
  .seq (.region [⟨some 14, .mv (.tmp 0), none⟩,
     ⟨some 15, .call (.func F.laws_toStepS) [(.tmp 14)] [], none⟩,
     ⟨some 16, .mv (.tmp 1), none⟩,
     ⟨some 17, .call (.func F.spec_ValidFlow) [(.tmp 15), (.tmp 16)] [], none⟩,
     ⟨some 6, .mv (.tmp 17), none⟩] [0, 1, 6] []) <|
  .seq (.region [⟨some 18, .mv (.tmp 0), none⟩,
     ⟨some 19, .call (.func F.laws_toStepS) [(.tmp 18)] [], none⟩,
     ⟨some 7, .mv (.tmp 19), none⟩] [0, 1, 6, 7] []) <|
  .seq (.region [⟨some 20, .mv (.tmp 7), none⟩,
     ⟨some 21, .mv (.tmp 1), none⟩,
     ⟨some 22, .call (.func F.impl_ValidFlow) [(.tmp 20), (.tmp 21)] [], none⟩,
     ⟨some 8, .mv (.tmp 22), none⟩] [0, 6, 7, 8] []) <|
  .seq (.seq (.region [⟨some 23, .mv (.tmp 8), none⟩,
      ⟨some 24, .mv (.tmp 6), none⟩,
      ⟨some 25, .binB .neq (.tmp 23) (.tmp 24), none⟩] [0, 7, 25] []) <|
   .cond (.tmp 25)
     (.seq (.region [⟨some 4, .mv (.const (.bool false)), none⟩] [4] []) <|
     .ret)
     (.skip)) <|
  .seq (.seq (.region [⟨some 26, .mv (.tmp 7), none⟩,
      ⟨some 27, .mv (.tmp 0), none⟩,
      ⟨some 28, .call (.func F.laws_toStepS) [(.tmp 27)] [], none⟩,
      ⟨some 29, .call (.func F.laws_eqStepS) [(.tmp 26), (.tmp 28)] [], none⟩,
      ⟨some 30, .un .not (.tmp 29), none⟩] [30] []) <|
   .cond (.tmp 30)
     (.seq (.region [⟨some 4, .mv (.const (.bool false)), none⟩] [4] []) <|
     .ret)
     (.skip)) <|
  .seq (.region [⟨some 4, .mv (.const (.bool true)), none⟩] [4] []) <|
  .ret
theorem Cd.laws_FnExactValidFlow_rs : Try.f11.results.toList = [.tmp 4] := rfl
theorem Cd.laws_FnExactValidFlow_nt : Try.f11.ntmps = 31 := rfl
theorem Cd.laws_FnExactValidFlow_ok : CodeIsR Try.prog 11 Try.f11 Cd.laws_FnExactValidFlow := ⟨Try.func11, by kernel_rfl, by decide +kernel⟩
/-- loop.example/g01012/spec.AddControls -/
def Cd.spec_AddControls : ACode :=
  .seq (.region [⟨some 2, .box (.tmp 0), none⟩,
     ⟨some 3, .box (.tmp 1), none⟩,
     ⟨some 4, .alloc [.v (.int .i64 (0)), .v (.int .i64 (0)), .v (.int .i64 (0))], none⟩,
     ⟨some 5, .mv (.const (.int .i64 (0))), none⟩] [2, 3, 4] []) <|
  .seq (.region [⟨some 8, .load true 3 (.tmp 2), none⟩,
     ⟨some 9, .load true 3 (.tmp 3), none⟩,
     ⟨some 10, .call (.func F.spec_l18Two) [(.tmp 8), (.tmp 9)] [], none⟩,
     ⟨some 6, .mv (.tmp 10), none⟩] [2, 3, 4, 6] []) <|
  .seq (.seq (.region [⟨some 11, .mv (.tmp 6), none⟩,
      ⟨some 12, .bin .neq (.tmp 11) (.const (.int .i64 (0))), none⟩] [2, 3, 4, 6, 12] []) <|
   .cond (.tmp 12)
     (.seq (.region [⟨some 13, .build [.v (.int .i64 (0)), .v (.int .i64 (0)), .v (.int .i64 (0))] [], none⟩,
        ⟨some 14, .mv (.tmp 6), none⟩,
        ⟨none, .store 3 (.tmp 4) (.tmp 13), none⟩,
        ⟨some 5, .mv (.tmp 14), none⟩] [4, 5] []) <|
     .ret)
     (.skip)) <|
  .seq (.region [⟨some 15, .fieldAddr 0 (.tmp 2), none⟩,
     ⟨some 16, .load false 1 (.tmp 15), none⟩,
     ⟨some 17, .fieldAddr 0 (.tmp 3), none⟩,
     ⟨some 18, .load false 1 (.tmp 17), none⟩,
     ⟨some 19, .bin .add (.tmp 16) (.tmp 18), none⟩,
     ⟨some 20, .fieldAddr 1 (.tmp 2), none⟩,
     ⟨some 21, .load false 1 (.tmp 20), none⟩,
     ⟨some 22, .fieldAddr 1 (.tmp 3), none⟩,
     ⟨some 23, .load false 1 (.tmp 22), none⟩,
     ⟨some 24, .bin .add (.tmp 21) (.tmp 23), none⟩,
     ⟨some 25, .fieldAddr 2 (.tmp 2), none⟩,
     ⟨some 26, .load false 1 (.tmp 25), none⟩,
     ⟨some 27, .fieldAddr 2 (.tmp 3), none⟩,
     ⟨some 28, .load false 1 (.tmp 27), none⟩,
     ⟨some 29, .bin .add (.tmp 26) (.tmp 28), none⟩,
     ⟨some 30, .build [.v (.int .i64 (0)), .v (.int .i64 (0)), .v (.int .i64 (0))] [(0, 1, (.tmp 19)), (1, 1, (.tmp 24)), (2, 1, (.tmp 29))], none⟩,
     ⟨some 7, .alloc [.v (.int .i64 (0)), .v (.int .i64 (0)), .v (.int .i64 (0))], none⟩,
     ⟨none, .store 3 (.tmp 7) (.tmp 30), none⟩] [4, 7] []) <|
  .seq (.seq (.region [⟨some 31, .load true 3 (.tmp 7), none⟩,
      ⟨some 32, .call (.func F.spec_l18Ok) [(.tmp 31)] [], none⟩,
      ⟨some 33, .un .not (.tmp 32), none⟩] [4, 7, 33] []) <|
   .cond (.tmp 33)
     (.seq (.region [⟨some 34, .build [.v (.int .i64 (0)), .v (.int .i64 (0)), .v (.int .i64 (0))] [], none⟩,
        ⟨none, .store 3 (.tmp 4) (.tmp 34), none⟩,
        ⟨some 5, .mv (.const (.int .i64 (5))), none⟩] [4, 5] []) <|
     .ret)
     (.skip)) <|
  .seq (.region [⟨some 35, .load true 3 (.tmp 7), none⟩,
     ⟨none, .store 3 (.tmp 4) (.tmp 35), none⟩,
     ⟨some 5, .mv (.const (.int .i64 (0))), none⟩] [4, 5] []) <|
  .ret
theorem Cd.spec_AddControls_rs : Try.f15.results.toList = [.cell 4 24, .tmp 5] := rfl
theorem Cd.spec_AddControls_nt : Try.f15.ntmps = 36 := rfl
theorem Cd.spec_AddControls_ok : CodeIsR Try.prog 15 Try.f15 Cd.spec_AddControls := ⟨Try.func15, by kernel_rfl, by decide +kernel⟩
/-- loop.example/g01012/laws.toControl -/
def Cd.laws_toControl : ACode :=
  .seq (.region [⟨some 1, .box (.tmp 0), none⟩,
     ⟨some 2, .alloc [.v (.int .i64 (0)), .v (.int .i64 (0)), .v (.int .i64 (0))], none⟩] [1, 2] []) <|
  .seq (.region [⟨some 3, .alloc [.v (.int .i64 (0)), .v (.int .i64 (0)), .v (.int .i64 (0))], none⟩] [1, 2, 3] []) <|
  .seq (.region [⟨some 4, .fieldAddr 0 (.tmp 1), none⟩,
     ⟨some 5, .load false 1 (.tmp 4), none⟩,
     ⟨some 6, .fieldAddr 0 (.tmp 3), none⟩,
     ⟨none, .store 1 (.tmp 6) (.tmp 5), none⟩] [1, 2, 3] []) <|
  .seq (.region [⟨some 7, .fieldAddr 1 (.tmp 1), none⟩,
     ⟨some 8, .load false 1 (.tmp 7), none⟩,
     ⟨some 9, .fieldAddr 1 (.tmp 3), none⟩,
     ⟨none, .store 1 (.tmp 9) (.tmp 8), none⟩] [1, 2, 3] []) <|
  .seq (.region [⟨some 10, .fieldAddr 2 (.tmp 1), none⟩,
     ⟨some 11, .load false 1 (.tmp 10), none⟩,
     ⟨some 12, .fieldAddr 2 (.tmp 3), none⟩,
     ⟨none, .store 1 (.tmp 12) (.tmp 11), none⟩] [2, 3] []) <|
  .seq (.region [⟨some 13, .load true 3 (.tmp 3), none⟩,
     ⟨none, .store 3 (.tmp 2) (.tmp 13), none⟩] [2] []) <|
  .ret
theorem Cd.laws_toControl_rs : Try.f16.results.toList = [.cell 2 24] := rfl
theorem Cd.laws_toControl_nt : Try.f16.ntmps = 14 := rfl
theorem Cd.laws_toControl_ok : CodeIsR Try.prog 16 Try.f16 Cd.laws_toControl := ⟨Try.func16, by kernel_rfl, by decide +kernel⟩
/-- loop.example/g01012/impl.AddControls -/
def Cd.impl_AddControls : ACode :=
  .seq (.region [⟨some 2, .box (.tmp 0), none⟩,
     ⟨some 3, .box (.tmp 1), none⟩,
     ⟨some 4, .alloc [.v (.int .i64 (0)), .v (.int .i64 (0)), .v (.int .i64 (0))], none⟩,
     ⟨some 5, .mv (.const (.int .i64 (0))), none⟩] [2, 3, 4] []) <|
  .seq (.region [⟨some 6, .load true 3 (.tmp 2), none⟩,
     ⟨some 7, .load true 3 (.tmp 3), none⟩,
     ⟨some 8, .call (.func F.impl_joinedControls) [(.tmp 6), (.tmp 7), (.const (.int .i64 (1)))] [], none⟩,
     ⟨some 9, .extract (.tmp 8) 0, none⟩,
     ⟨some 10, .extract (.tmp 8) 1, none⟩,
     ⟨none, .store 3 (.tmp 4) (.tmp 9), none⟩,
     ⟨some 5, .mv (.tmp 10), none⟩] [4, 5] []) <|
  .ret
theorem Cd.impl_AddControls_rs : Try.f17.results.toList = [.cell 4 24, .tmp 5] := rfl
theorem Cd.impl_AddControls_nt : Try.f17.ntmps = 11 := rfl
theorem Cd.impl_AddControls_ok : CodeIsR Try.prog 17 Try.f17 Cd.impl_AddControls := ⟨Try.func17, by kernel_rfl, by decide +kernel⟩
/-- loop.example/g01012/laws.eqControl -/
def Cd.laws_eqControl : ACode :=
  .seq (.region [⟨some 2, .box (.tmp 0), none⟩,
     ⟨some 3, .box (.tmp 1), none⟩,
     ⟨some 4, .mv (.const (.bool false)), none⟩] [2, 3] []) <|
  .seq (.seq (.region [⟨some 5, .fieldAddr 0 (.tmp 2), none⟩,
      ⟨some 6, .load false 1 (.tmp 5), none⟩,
      ⟨some 7, .fieldAddr 0 (.tmp 3), none⟩,
      ⟨some 8, .load false 1 (.tmp 7), none⟩,
      ⟨some 9, .bin .neq (.tmp 6) (.tmp 8), none⟩] [2, 3, 9] []) <|
   .cond (.tmp 9)
     (.seq (.region [⟨some 4, .mv (.const (.bool false)), none⟩] [4] []) <|
     .ret)
     (.skip)) <|
  .seq (.seq (.region [⟨some 10, .fieldAddr 1 (.tmp 2), none⟩,
      ⟨some 11, .load false 1 (.tmp 10), none⟩,
      ⟨some 12, .fieldAddr 1 (.tmp 3), none⟩,
      ⟨some 13, .load false 1 (.tmp 12), none⟩,
      ⟨some 14, .bin .neq (.tmp 11) (.tmp 13), none⟩] [2, 3, 14] []) <|
   .cond (.tmp 14)
     (.seq (.region [⟨some 4, .mv (.const (.bool false)), none⟩] [4] []) <|
     .ret)
     (.skip)) <|
  .seq (.seq (.region [⟨some 15, .fieldAddr 2 (.tmp 2), none⟩,
      ⟨some 16, .load false 1 (.tmp 15), none⟩,
      ⟨some 17, .fieldAddr 2 (.tmp 3), none⟩,
      ⟨some 18, .load false 1 (.tmp 17), none⟩,
      ⟨some 19, .bin .neq (.tmp 16) (.tmp 18), none⟩] [19] []) <|
   .cond (.tmp 19)
     (.seq (.region [⟨some 4, .mv (.const (.bool false)), none⟩] [4] []) <|
     .ret)
     (.skip)) <|
  .seq (.region [⟨some 4, .mv (.const (.bool true)), none⟩] [4] []) <|
  .ret
theorem Cd.laws_eqControl_rs : Try.f18.results.toList = [.tmp 4] := rfl
theorem Cd.laws_eqControl_nt : Try.f18.ntmps = 20 := rfl
theorem Cd.laws_eqControl_ok : CodeIsR Try.prog 18 Try.f18 Cd.laws_eqControl := ⟨Try.func18, by kernel_rfl, by decide +kernel⟩
/-- loop.example/g01012/spec.TakeControls -/
def Cd.spec_TakeControls : ACode :=
  .seq (.region [⟨some 2, .box (.tmp 0), none⟩,
     ⟨some 3, .box (.tmp 1), none⟩,
     ⟨some 4, .alloc [.v (.int .i64 (0)), .v (.int .i64 (0)), .v (.int .i64 (0))], none⟩,
     ⟨some 5, .mv (.const (.int .i64 (0))), none⟩] [2, 3, 4] []) <|
  .seq (.region [⟨some 8, .load true 3 (.tmp 2), none⟩,
     ⟨some 9, .load true 3 (.tmp 3), none⟩,
     ⟨some 10, .call (.func F.spec_l18Two) [(.tmp 8), (.tmp 9)] [], none⟩,
     ⟨some 6, .mv (.tmp 10), none⟩] [2, 3, 4, 6] []) <|
  .seq (.seq (.region [⟨some 11, .mv (.tmp 6), none⟩,
      ⟨some 12, .bin .neq (.tmp 11) (.const (.int .i64 (0))), none⟩] [2, 3, 4, 6, 12] []) <|
   .cond (.tmp 12)
     (.seq (.region [⟨some 13, .build [.v (.int .i64 (0)), .v (.int .i64 (0)), .v (.int .i64 (0))] [], none⟩,
        ⟨some 14, .mv (.tmp 6), none⟩,
        ⟨none, .store 3 (.tmp 4) (.tmp 13), none⟩,
        ⟨some 5, .mv (.tmp 14), none⟩] [4, 5] []) <|
     .ret)
     (.skip)) <|
  .seq (.region [⟨some 15, .fieldAddr 0 (.tmp 2), none⟩,
     ⟨some 16, .load false 1 (.tmp 15), none⟩,
     ⟨some 17, .fieldAddr 0 (.tmp 3), none⟩,
     ⟨some 18, .load false 1 (.tmp 17), none⟩,
     ⟨some 19, .bin .sub (.tmp 16) (.tmp 18), none⟩,
     ⟨some 20, .fieldAddr 1 (.tmp 2), none⟩,
     ⟨some 21, .load false 1 (.tmp 20), none⟩,
     ⟨some 22, .fieldAddr 1 (.tmp 3), none⟩,
     ⟨some 23, .load false 1 (.tmp 22), none⟩,
     ⟨some 24, .bin .sub (.tmp 21) (.tmp 23), none⟩,
     ⟨some 25, .fieldAddr 2 (.tmp 2), none⟩,
     ⟨some 26, .load false 1 (.tmp 25), none⟩,
     ⟨some 27, .fieldAddr 2 (.tmp 3), none⟩,
     ⟨some 28, .load false 1 (.tmp 27), none⟩,
     ⟨some 29, .bin .sub (.tmp 26) (.tmp 28), none⟩,
     ⟨some 30, .build [.v (.int .i64 (0)), .v (.int .i64 (0)), .v (.int .i64 (0))] [(0, 1, (.tmp 19)), (1, 1, (.tmp 24)), (2, 1, (.tmp 29))], none⟩,
     ⟨some 7, .alloc [.v (.int .i64 (0)), .v (.int .i64 (0)), .v (.int .i64 (0))], none⟩,
     ⟨none, .store 3 (.tmp 7) (.tmp 30), none⟩] [4, 7] []) <|
  .seq (.seq (.region [⟨some 31, .load true 3 (.tmp 7), none⟩,
      ⟨some 32, .call (.func F.spec_l18Ok) [(.tmp 31)] [], none⟩,
      ⟨some 33, .un .not (.tmp 32), none⟩] [4, 7, 33] []) <|
   .cond (.tmp 33)
     (.seq (.region [⟨some 34, .build [.v (.int .i64 (0)), .v (.int .i64 (0)), .v (.int .i64 (0))] [], none⟩,
        ⟨none, .store 3 (.tmp 4) (.tmp 34), none⟩,
        ⟨some 5, .mv (.const (.int .i64 (5))), none⟩] [4, 5] []) <|
     .ret)
     (.skip)) <|
  .seq (.region [⟨some 35, .load true 3 (.tmp 7), none⟩,
     ⟨none, .store 3 (.tmp 4) (.tmp 35), none⟩,
     ⟨some 5, .mv (.const (.int .i64 (0))), none⟩] [4, 5] []) <|
  .ret
theorem Cd.spec_TakeControls_rs : Try.f19.results.toList = [.cell 4 24, .tmp 5] := rfl
theorem Cd.spec_TakeControls_nt : Try.f19.ntmps = 36 := rfl
theorem Cd.spec_TakeControls_ok : CodeIsR Try.prog 19 Try.f19 Cd.spec_TakeControls := ⟨Try.func19, by kernel_rfl, by decide +kernel⟩
/-- loop.example/g01012/impl.TakeControls -/
def Cd.impl_TakeControls : ACode :=
  .seq (.region [⟨some 2, .box (.tmp 0), none⟩,
     ⟨some 3, .box (.tmp 1), none⟩,
     ⟨some 4, .alloc [.v (.int .i64 (0)), .v (.int .i64 (0)), .v (.int .i64 (0))], none⟩,
     ⟨some 5, .mv (.const (.int .i64 (0))), none⟩] [2, 3, 4] []) <|
  .seq (.region [⟨some 6, .load true 3 (.tmp 2), none⟩,
     ⟨some 7, .load true 3 (.tmp 3), none⟩,
     ⟨some 8, .call (.func F.impl_joinedControls) [(.tmp 6), (.tmp 7), (.const (.int .i64 (-1)))] [], none⟩,
     ⟨some 9, .extract (.tmp 8) 0, none⟩,
     ⟨some 10, .extract (.tmp 8) 1, none⟩,
     ⟨none, .store 3 (.tmp 4) (.tmp 9), none⟩,
     ⟨some 5, .mv (.tmp 10), none⟩] [4, 5] []) <|
  .ret
theorem Cd.impl_TakeControls_rs : Try.f20.results.toList = [.cell 4 24, .tmp 5] := rfl
theorem Cd.impl_TakeControls_nt : Try.f20.ntmps = 11 := rfl
theorem Cd.impl_TakeControls_ok : CodeIsR Try.prog 20 Try.f20 Cd.impl_TakeControls := ⟨Try.func20, by kernel_rfl, by decide +kernel⟩
/-- loop.example/g01012/laws.szTotalS -/
def Cd.laws_szTotalS : ACode :=
  .seq (.region [⟨some 4, .mv (.const (.int .i64 (0))), none⟩] [0, 1] []) <|
  .seq (.region [⟨some 6, .mv (.tmp 1), none⟩,
     ⟨some 7, .mv (.tmp 0), none⟩,
     ⟨some 8, .len (.tmp 7), none⟩,
     ⟨some 9, .bin .sub (.tmp 6) (.tmp 8), none⟩,
     ⟨some 1, .mv (.tmp 9), none⟩] [0, 1] []) <|
  .seq (.seq (.region [⟨some 10, .mv (.tmp 1), none⟩,
      ⟨some 11, .bin .lss (.tmp 10) (.const (.int .i64 (0))), none⟩] [0, 1, 11] []) <|
   .cond (.tmp 11)
     (.seq (.region [⟨some 4, .mv (.const (.int .i64 (-1))), none⟩] [4] []) <|
     .ret)
     (.skip)) <|
  .seq (.seq (.region [⟨some 5, .mv (.const (.int .i64 (0))), none⟩] [0, 1, 5] []) <|
   .block 0 (
     .loop (
       .seq (.seq (.region [⟨some 12, .mv (.tmp 5), none⟩,
           ⟨some 13, .mv (.tmp 0), none⟩,
           ⟨some 14, .len (.tmp 13), none⟩,
           ⟨some 15, .bin .lss (.tmp 12) (.tmp 14), none⟩] [0, 1, 5, 15] []) <|
        .cond (.tmp 15)
          (.skip)
          (.exit 0)) <|
       .seq (.block 1 (
          .seq (.region [⟨some 18, .mv (.tmp 0), none⟩,
             ⟨some 19, .mv (.tmp 5), none⟩,
             ⟨some 20, .idxSl 2 (.tmp 18) (.tmp 19), none⟩,
             ⟨some 21, .load true 2 (.tmp 20), none⟩,
             ⟨some 22, .mv (.tmp 1), none⟩,
             ⟨some 23, .call (.func F.laws_szTotal) [(.tmp 21), (.tmp 22)] [], none⟩,
             ⟨some 1, .mv (.tmp 23), none⟩] [0, 1, 5] []) <|
          .seq (.region [⟨some 24, .mv (.tmp 1), none⟩,
             ⟨some 25, .bin .lss (.tmp 24) (.const (.int .i64 (0))), none⟩] [0, 1, 5, 25] []) <|
          .cond (.tmp 25)
            (.seq (.region [⟨some 4, .mv (.const (.int .i64 (-1))), none⟩] [4] []) <|
            .ret)
            (.skip))) <|
       .region [⟨some 16, .mv (.tmp 5), none⟩,
         ⟨some 17, .bin .add (.tmp 16) (.const (.int .i64 (1))), none⟩,
         ⟨some 5, .mv (.tmp 17), none⟩] [0, 1, 5] []))) <|
  .seq (.region [⟨some 26, .mv (.tmp 1), none⟩,
     ⟨some 4, .mv (.tmp 26), none⟩] [4] []) <|
  .ret
theorem Cd.laws_szTotalS_rs : Try.f21.results.toList = [.tmp 4] := rfl
theorem Cd.laws_szTotalS_nt : Try.f21.ntmps = 27 := rfl
theorem Cd.laws_szTotalS_ok : CodeIsR Try.prog 21 Try.f21 Cd.laws_szTotalS := ⟨Try.func21, by kernel_rfl, by decide +kernel⟩
/-- loop.example/g01012/spec.SameTotals -/
def Cd.spec_SameTotals : ACode :=
  .seq (.region [⟨some 4, .mv (.const (.bool false)), none⟩] [0, 1] []) <|
  .seq (.region [⟨some 5, .mv (.tmp 0), none⟩,
     ⟨some 6, .mv (.tmp 1), none⟩,
     ⟨some 7, .call (.func F.spec_l15Totals) [(.tmp 5), (.tmp 6)] [], none⟩,
     ⟨some 4, .mv (.tmp 7), none⟩] [4] []) <|
  .ret
theorem Cd.spec_SameTotals_rs : Try.f22.results.toList = [.tmp 4] := rfl
theorem Cd.spec_SameTotals_nt : Try.f22.ntmps = 8 := rfl
theorem Cd.spec_SameTotals_ok : CodeIsR Try.prog 22 Try.f22 Cd.spec_SameTotals := ⟨Try.func22, by kernel_rfl, by decide +kernel⟩
/-- loop.example/g01012/laws.toTotalS -/
def Cd.laws_toTotalS : ACode :=
  .seq (.region [⟨some 2, .mv (.const (.slice none 0 0)), none⟩] [0] []) <|
  .seq (.region [⟨some 5, .mv (.tmp 0), none⟩,
     ⟨some 6, .len (.tmp 5), none⟩,
     ⟨some 7, .mk 2 24 [.v (.string ⟨#[]⟩), .v (.int .i64 (0))] (.tmp 6), none⟩,
     ⟨some 3, .mv (.tmp 7), none⟩] [0, 3] []) <|
  .seq (.seq (.region [⟨some 4, .mv (.const (.int .i64 (0))), none⟩] [0, 3, 4] []) <|
   .block 0 (
     .loop (
       .seq (.seq (.region [⟨some 8, .mv (.tmp 4), none⟩,
           ⟨some 9, .mv (.tmp 0), none⟩,
           ⟨some 10, .len (.tmp 9), none⟩,
           ⟨some 11, .bin .lss (.tmp 8) (.tmp 10), none⟩] [0, 3, 4, 11] []) <|
        .cond (.tmp 11)
          (.skip)
          (.exit 0)) <|
       .seq (.block 1 (
          .region [⟨some 14, .mv (.tmp 3), none⟩,
            ⟨some 15, .mv (.tmp 4), none⟩,
            ⟨some 16, .mv (.tmp 0), none⟩,
            ⟨some 17, .mv (.tmp 4), none⟩,
            ⟨some 18, .idxSl 2 (.tmp 16) (.tmp 17), none⟩,
            ⟨some 19, .load true 2 (.tmp 18), none⟩,
            ⟨some 20, .call (.func F.laws_toTotal) [(.tmp 19)] [], none⟩,
            ⟨some 21, .idxSl 2 (.tmp 14) (.tmp 15), none⟩,
            ⟨none, .store 2 (.tmp 21) (.tmp 20), none⟩] [0, 3, 4] [])) <|
       .region [⟨some 12, .mv (.tmp 4), none⟩,
         ⟨some 13, .bin .add (.tmp 12) (.const (.int .i64 (1))), none⟩,
         ⟨some 4, .mv (.tmp 13), none⟩] [0, 3, 4] []))) <|
  .seq (.region [⟨some 22, .mv (.tmp 3), none⟩,
     ⟨some 2, .mv (.tmp 22), none⟩] [2] []) <|
  .ret
theorem Cd.laws_toTotalS_rs : Try.f23.results.toList = [.tmp 2] := rfl
theorem Cd.laws_toTotalS_nt : Try.f23.ntmps = 23 := rfl
theorem Cd.laws_toTotalS_ok : CodeIsR Try.prog 23 Try.f23 Cd.laws_toTotalS := ⟨Try.func23, by kernel_rfl, by decide +kernel⟩
/-- loop.example/g01012/impl.SameTotals -/
def Cd.impl_SameTotals : ACode :=
  .seq (.region [⟨some 4, .mv (.const (.bool false)), none⟩] [0, 1] []) <|
  .seq (.region [⟨some 5, .mv (.tmp 0), none⟩,
     ⟨some 6, .mv (.tmp 1), none⟩,
     ⟨some 7, .call (.func F.slices_Equal___impl_Total_impl_Total_) [(.tmp 5), (.tmp 6)] [], none⟩,
     ⟨some 4, .mv (.tmp 7), none⟩] [4] []) <|
  .ret
theorem Cd.impl_SameTotals_rs : Try.f24.results.toList = [.tmp 4] := rfl
theorem Cd.impl_SameTotals_nt : Try.f24.ntmps = 8 := rfl
theorem Cd.impl_SameTotals_ok : CodeIsR Try.prog 24 Try.f24 Cd.impl_SameTotals := ⟨Try.func24, by kernel_rfl, by decide +kernel⟩
/-- loop.example/g01012/laws.eqTotalS DRAWS -/
def Cd.laws_eqTotalS : ACode :=
  .seq (.region [⟨some 4, .mv (.const (.bool false)), none⟩] [0, 1] []) <|
  .seq (.seq (.region [⟨some 6, .mv (.tmp 0), none⟩,
      ⟨some 7, .len (.tmp 6), none⟩,
      ⟨some 8, .mv (.tmp 1), none⟩,
      ⟨some 9, .len (.tmp 8), none⟩,
      ⟨some 10, .bin .neq (.tmp 7) (.tmp 9), none⟩] [0, 1, 10] []) <|
   .cond (.tmp 10)
     (.seq (.region [⟨some 4, .mv (.const (.bool false)), none⟩] [4] []) <|
     .ret)
     (.skip)) <|
  .seq (.seq (.region [⟨some 5, .mv (.const (.int .i64 (0))), none⟩] [0, 1, 5] []) <|
   .block 0 (
     .loop (
       .seq (.seq (.region [⟨some 11, .mv (.tmp 5), none⟩,
           ⟨some 12, .mv (.tmp 0), none⟩,
           ⟨some 13, .len (.tmp 12), none⟩,
           ⟨some 14, .bin .lss (.tmp 11) (.tmp 13), none⟩] [0, 1, 5, 14] []) <|
        .cond (.tmp 14)
          (.skip)
          (.exit 0)) <|
       .seq (.block 1 (
          .seq (.region [⟨some 17, .mv (.tmp 0), none⟩,
             ⟨some 18, .mv (.tmp 5), none⟩,
             ⟨some 19, .idxSl 2 (.tmp 17) (.tmp 18), none⟩,
             ⟨some 20, .load true 2 (.tmp 19), none⟩,
             ⟨some 21, .mv (.tmp 1), none⟩,
             ⟨some 22, .mv (.tmp 5), none⟩,
             ⟨some 23, .idxSl 2 (.tmp 21) (.tmp 22), none⟩,
             ⟨some 24, .load true 2 (.tmp 23), none⟩,
             ⟨some 25, .call (.func F.laws_eqTotal) [(.tmp 20), (.tmp 24)] [], none⟩,
             ⟨some 26, .un .not (.tmp 25), none⟩] [0, 1, 5, 26] [17, 18, 20, 21, 19, 22, 23, 24, 25, 26]) <|
          .cond (.tmp 26)
            (.seq (.region [⟨some 4, .mv (.const (.bool false)), none⟩] [4] []) <|
            .ret)
            (.skip))) <|
       .region [⟨some 15, .mv (.tmp 5), none⟩,
         ⟨some 16, .bin .add (.tmp 15) (.const (.int .i64 (1))), none⟩,
         ⟨some 5, .mv (.tmp 16), none⟩] [0, 1, 5] []))) <|
  .seq (.region [⟨some 4, .mv (.const (.bool true)), none⟩] [4] []) <|
  .ret
theorem Cd.laws_eqTotalS_rs : Try.f25.results.toList = [.tmp 4] := rfl
theorem Cd.laws_eqTotalS_nt : Try.f25.ntmps = 27 := rfl
theorem Cd.laws_eqTotalS_ok : CodeIsR Try.prog 25 Try.f25 Cd.laws_eqTotalS := ⟨Try.func25, by kernel_rfl, by decide +kernel⟩
/-- loop.example/g01012/laws.szSpec -/
def Cd.laws_szSpec : ACode :=
  .seq (.region [⟨some 2, .box (.tmp 0), none⟩,
     ⟨some 4, .mv (.const (.int .i64 (0))), none⟩] [1, 2] []) <|
  .seq (.region [⟨some 5, .mv (.tmp 1), none⟩,
     ⟨some 6, .fieldAddr 2 (.tmp 2), none⟩,
     ⟨some 7, .load false 1 (.tmp 6), none⟩,
     ⟨some 8, .lenS (.tmp 7), none⟩,
     ⟨some 9, .bin .sub (.tmp 5) (.tmp 8), none⟩,
     ⟨some 1, .mv (.tmp 9), none⟩] [1] []) <|
  .seq (.seq (.region [⟨some 10, .mv (.tmp 1), none⟩,
      ⟨some 11, .bin .lss (.tmp 10) (.const (.int .i64 (0))), none⟩] [1, 11] []) <|
   .cond (.tmp 11)
     (.seq (.region [⟨some 4, .mv (.const (.int .i64 (-1))), none⟩] [4] []) <|
     .ret)
     (.skip)) <|
  .seq (.region [⟨some 12, .mv (.tmp 1), none⟩,
     ⟨some 4, .mv (.tmp 12), none⟩] [4] []) <|
  .ret
theorem Cd.laws_szSpec_rs : Try.f26.results.toList = [.tmp 4] := rfl
theorem Cd.laws_szSpec_nt : Try.f26.ntmps = 13 := rfl
theorem Cd.laws_szSpec_ok : CodeIsR Try.prog 26 Try.f26 Cd.laws_szSpec := ⟨Try.func26, by kernel_rfl, by decide +kernel⟩
/-- loop.example/g01012/spec.ValidSpec -/
def Cd.spec_ValidSpec : ACode :=
  .seq (.region [⟨some 2, .box (.tmp 0), none⟩,
     ⟨some 4, .mv (.const (.bool false)), none⟩] [1, 2] []) <|
  .seq (.region [⟨some 5, .mv (.tmp 1), none⟩,
     ⟨some 6, .call (.func F.spec_l00In) [(.tmp 5), (.const (.int .i64 (1))), (.const (.int .i64 (20)))] [], none⟩,
     ⟨some 7, .mv (.tmp 6), none⟩,
     ⟨some 8, .mv (.tmp 1), some (7, true)⟩,
     ⟨some 9, .call (.func F.spec_l16Ok) [(.tmp 2), (.tmp 8)] [], some (7, true)⟩,
     ⟨some 10, .pick (.tmp 7) (.tmp 9) (.const (.bool false)), none⟩,
     ⟨some 4, .mv (.tmp 10), none⟩] [4] []) <|
  .ret
theorem Cd.spec_ValidSpec_rs : Try.f27.results.toList = [.tmp 4] := rfl
theorem Cd.spec_ValidSpec_nt : Try.f27.ntmps = 11 := rfl
theorem Cd.spec_ValidSpec_ok : CodeIsR Try.prog 27 Try.f27 Cd.spec_ValidSpec := ⟨Try.func27, by kernel_rfl, by decide +kernel⟩
/-- loop.example/g01012/laws.toSpec -/
def Cd.laws_toSpec : ACode :=
  .seq (.region [⟨some 1, .box (.tmp 0), none⟩,
     ⟨some 2, .alloc [.v (.int .i64 (0)), .v (.int .i64 (0)), .v (.string ⟨#[]⟩), .v (.int .i64 (0)), .v (.int .i64 (0)), .v (.int .i64 (0)), .v (.int .i64 (0))], none⟩] [1, 2] []) <|
  .seq (.region [⟨some 3, .alloc [.v (.int .i64 (0)), .v (.int .i64 (0)), .v (.string ⟨#[]⟩), .v (.int .i64 (0)), .v (.int .i64 (0)), .v (.int .i64 (0)), .v (.int .i64 (0))], none⟩] [1, 2, 3] []) <|
  .seq (.region [⟨some 4, .fieldAddr 0 (.tmp 1), none⟩,
     ⟨some 5, .load true 2 (.tmp 4), none⟩,
     ⟨some 6, .call (.func F.laws_toField) [(.tmp 5)] [], none⟩,
     ⟨some 7, .fieldAddr 0 (.tmp 3), none⟩,
     ⟨none, .store 2 (.tmp 7) (.tmp 6), none⟩] [1, 2, 3] []) <|
  .seq (.region [⟨some 8, .fieldAddr 2 (.tmp 1), none⟩,
     ⟨some 9, .load false 1 (.tmp 8), none⟩,
     ⟨some 10, .fieldAddr 2 (.tmp 3), none⟩,
     ⟨none, .store 1 (.tmp 10) (.tmp 9), none⟩] [1, 2, 3] []) <|
  .seq (.region [⟨some 11, .fieldAddr 3 (.tmp 1), none⟩,
     ⟨some 12, .load true 2 (.tmp 11), none⟩,
     ⟨some 13, .call (.func F.laws_toField) [(.tmp 12)] [], none⟩,
     ⟨some 14, .fieldAddr 3 (.tmp 3), none⟩,
     ⟨none, .store 2 (.tmp 14) (.tmp 13), none⟩] [1, 2, 3] []) <|
  .seq (.region [⟨some 15, .fieldAddr 5 (.tmp 1), none⟩,
     ⟨some 16, .load true 2 (.tmp 15), none⟩,
     ⟨some 17, .call (.func F.laws_toField) [(.tmp 16)] [], none⟩,
     ⟨some 18, .fieldAddr 5 (.tmp 3), none⟩,
     ⟨none, .store 2 (.tmp 18) (.tmp 17), none⟩] [2, 3] []) <|
  .seq (.region [⟨some 19, .load true 7 (.tmp 3), none⟩,
     ⟨none, .store 7 (.tmp 2) (.tmp 19), none⟩] [2] []) <|
  .ret
theorem Cd.laws_toSpec_rs : Try.f28.results.toList = [.cell 2 44] := rfl
theorem Cd.laws_toSpec_nt : Try.f28.ntmps = 20 := rfl
theorem Cd.laws_toSpec_ok : CodeIsR Try.prog 28 Try.f28 Cd.laws_toSpec := ⟨Try.func28, by kernel_rfl, by decide +kernel⟩
/-- loop.example/g01012/impl.ValidSpec -/
def Cd.impl_ValidSpec : ACode :=
  .seq (.region [⟨some 2, .box (.tmp 0), none⟩,
     ⟨some 4, .mv (.const (.bool false)), none⟩] [1, 2] []) <|
  .seq (.seq (.region [⟨some 5, .mv (.tmp 1), none⟩,
      ⟨some 6, .call (.func F.impl_inside) [(.tmp 5), (.const (.int .i64 (1))), (.const (.int .i64 (20)))] [], none⟩,
      ⟨some 7, .un .not (.tmp 6), none⟩,
      ⟨some 8, .mv (.tmp 7), none⟩,
      ⟨some 9, .fieldAddr 3 (.tmp 2), some (8, false)⟩,
      ⟨some 10, .load true 2 (.tmp 9), some (8, false)⟩,
      ⟨some 11, .mv (.tmp 1), some (8, false)⟩,
      ⟨some 12, .call (.func F.impl_isField) [(.tmp 10), (.tmp 11)] [], some (8, false)⟩,
      ⟨some 13, .un .not (.tmp 12), some (8, false)⟩,
      ⟨some 14, .pick (.tmp 8) (.const (.bool true)) (.tmp 13), none⟩,
      ⟨some 15, .mv (.tmp 14), none⟩,
      ⟨some 16, .fieldAddr 5 (.tmp 2), some (15, false)⟩,
      ⟨some 17, .load true 2 (.tmp 16), some (15, false)⟩,
      ⟨some 18, .mv (.tmp 1), some (15, false)⟩,
      ⟨some 19, .call (.func F.impl_isNumberField) [(.tmp 17), (.tmp 18)] [], some (15, false)⟩,
      ⟨some 20, .un .not (.tmp 19), some (15, false)⟩,
      ⟨some 21, .pick (.tmp 15) (.const (.bool true)) (.tmp 20), none⟩] [1, 2, 21] []) <|
   .cond (.tmp 21)
     (.seq (.region [⟨some 4, .mv (.const (.bool false)), none⟩] [4] []) <|
     .ret)
     (.skip)) <|
  .seq (.seq (.region [⟨some 22, .fieldAddr 2 (.tmp 2), none⟩,
      ⟨some 23, .load false 1 (.tmp 22), none⟩,
      ⟨some 24, .binS .eql (.tmp 23) (.const (.string ⟨#[]⟩)), none⟩] [1, 2, 24] []) <|
   .cond (.tmp 24)
     (.seq (.region [⟨some 25, .fieldAddr 0 (.tmp 2), none⟩,
        ⟨some 26, .load true 2 (.tmp 25), none⟩,
        ⟨some 27, .build [.v (.int .i64 (0)), .v (.int .i64 (0))] [], none⟩,
        ⟨some 28, .eqA false [0, 0] (.tmp 26) (.tmp 27), none⟩,
        ⟨some 4, .mv (.tmp 28), none⟩] [4] []) <|
     .ret)
     (.skip)) <|
  .seq (.region [⟨some 29, .fieldAddr 0 (.tmp 2), none⟩,
     ⟨some 30, .load true 2 (.tmp 29), none⟩,
     ⟨some 31, .mv (.tmp 1), none⟩,
     ⟨some 32, .call (.func F.impl_isField) [(.tmp 30), (.tmp 31)] [], none⟩,
     ⟨some 33, .mv (.tmp 32), none⟩,
     ⟨some 34, .fieldAddr 2 (.tmp 2), some (33, true)⟩,
     ⟨some 35, .load false 1 (.tmp 34), some (33, true)⟩,
     ⟨some 36, .call (.func F.impl_areCharacters) [(.tmp 35)] [], some (33, true)⟩,
     ⟨some 37, .pick (.tmp 33) (.tmp 36) (.const (.bool false)), none⟩,
     ⟨some 38, .mv (.tmp 37), none⟩,
     ⟨some 39, .fieldAddr 2 (.tmp 2), some (38, true)⟩,
     ⟨some 40, .load false 1 (.tmp 39), some (38, true)⟩,
     ⟨some 41, .lenS (.tmp 40), some (38, true)⟩,
     ⟨some 42, .fieldAddr 0 (.tmp 2), some (38, true)⟩,
     ⟨some 43, .fieldAddr 1 (.tmp 42), some (38, true)⟩,
     ⟨some 44, .load false 1 (.tmp 43), some (38, true)⟩,
     ⟨some 45, .fieldAddr 0 (.tmp 2), some (38, true)⟩,
     ⟨some 46, .fieldAddr 0 (.tmp 45), some (38, true)⟩,
     ⟨some 47, .load false 1 (.tmp 46), some (38, true)⟩,
     ⟨some 48, .bin .sub (.tmp 44) (.tmp 47), some (38, true)⟩,
     ⟨some 49, .bin .eql (.tmp 41) (.tmp 48), some (38, true)⟩,
     ⟨some 50, .pick (.tmp 38) (.tmp 49) (.const (.bool false)), none⟩,
     ⟨some 4, .mv (.tmp 50), none⟩] [4] []) <|
  .ret
theorem Cd.impl_ValidSpec_rs : Try.f29.results.toList = [.tmp 4] := rfl
theorem Cd.impl_ValidSpec_nt : Try.f29.ntmps = 51 := rfl
theorem Cd.impl_ValidSpec_ok : CodeIsR Try.prog 29 Try.f29 Cd.impl_ValidSpec := ⟨Try.func29, by kernel_rfl, by decide +kernel⟩
/-- loop.example/g01012/laws.szStepS -/
def Cd.laws_szStepS : ACode :=
  .seq (.region [⟨some 4, .mv (.const (.int .i64 (0))), none⟩] [0, 1] []) <|
  .seq (.region [⟨some 6, .mv (.tmp 1), none⟩,
     ⟨some 7, .mv (.tmp 0), none⟩,
     ⟨some 8, .len (.tmp 7), none⟩,
     ⟨some 9, .bin .sub (.tmp 6) (.tmp 8), none⟩,
     ⟨some 1, .mv (.tmp 9), none⟩] [0, 1] []) <|
  .seq (.seq (.region [⟨some 10, .mv (.tmp 1), none⟩,
      ⟨some 11, .bin .lss (.tmp 10) (.const (.int .i64 (0))), none⟩] [0, 1, 11] []) <|
   .cond (.tmp 11)
     (.seq (.region [⟨some 4, .mv (.const (.int .i64 (-1))), none⟩] [4] []) <|
     .ret)
     (.skip)) <|
  .seq (.seq (.region [⟨some 5, .mv (.const (.int .i64 (0))), none⟩] [0, 1, 5] []) <|
   .block 0 (
     .loop (
       .seq (.seq (.region [⟨some 12, .mv (.tmp 5), none⟩,
           ⟨some 13, .mv (.tmp 0), none⟩,
           ⟨some 14, .len (.tmp 13), none⟩,
           ⟨some 15, .bin .lss (.tmp 12) (.tmp 14), none⟩] [0, 1, 5, 15] []) <|
        .cond (.tmp 15)
          (.skip)
          (.exit 0)) <|
       .seq (.block 1 (
          .seq (.region [⟨some 18, .mv (.tmp 0), none⟩,
             ⟨some 19, .mv (.tmp 5), none⟩,
             ⟨some 20, .idxSl 9 (.tmp 18) (.tmp 19), none⟩,
             ⟨some 21, .load true 9 (.tmp 20), none⟩,
             ⟨some 22, .mv (.tmp 1), none⟩,
             ⟨some 23, .call (.func F.laws_szStep) [(.tmp 21), (.tmp 22)] [], none⟩,
             ⟨some 1, .mv (.tmp 23), none⟩] [0, 1, 5] []) <|
          .seq (.region [⟨some 24, .mv (.tmp 1), none⟩,
             ⟨some 25, .bin .lss (.tmp 24) (.const (.int .i64 (0))), none⟩] [0, 1, 5, 25] []) <|
          .cond (.tmp 25)
            (.seq (.region [⟨some 4, .mv (.const (.int .i64 (-1))), none⟩] [4] []) <|
            .ret)
            (.skip))) <|
       .region [⟨some 16, .mv (.tmp 5), none⟩,
         ⟨some 17, .bin .add (.tmp 16) (.const (.int .i64 (1))), none⟩,
         ⟨some 5, .mv (.tmp 17), none⟩] [0, 1, 5] []))) <|
  .seq (.region [⟨some 26, .mv (.tmp 1), none⟩,
     ⟨some 4, .mv (.tmp 26), none⟩] [4] []) <|
  .ret
theorem Cd.laws_szStepS_rs : Try.f30.results.toList = [.tmp 4] := rfl
theorem Cd.laws_szStepS_nt : Try.f30.ntmps = 27 := rfl
theorem Cd.laws_szStepS_ok : CodeIsR Try.prog 30 Try.f30 Cd.laws_szStepS := ⟨Try.func30, by kernel_rfl, by decide +kernel⟩
/-- loop.example/g01012/spec.SameFlow DRAWS -/
def Cd.spec_SameFlow : ACode :=
  .seq (.region [⟨some 4, .mv (.const (.bool false)), none⟩] [0, 1] []) <|
  .seq (.seq (.region [⟨some 6, .mv (.tmp 0), none⟩,
      ⟨some 7, .len (.tmp 6), none⟩,
      ⟨some 8, .mv (.tmp 1), none⟩,
      ⟨some 9, .len (.tmp 8), none⟩,
      ⟨some 10, .bin .neq (.tmp 7) (.tmp 9), none⟩] [0, 1, 10] []) <|
   .cond (.tmp 10)
     (.seq (.region [⟨some 4, .mv (.const (.bool false)), none⟩] [4] []) <|
     .ret)
     (.skip)) <|
  .seq (.seq (.region [⟨some 5, .mv (.const (.int .i64 (0))), none⟩] [0, 1, 5] []) <|
   .block 0 (
     .loop (
       .seq (.seq (.region [⟨some 11, .mv (.tmp 5), none⟩,
           ⟨some 12, .mv (.tmp 0), none⟩,
           ⟨some 13, .len (.tmp 12), none⟩,
           ⟨some 14, .bin .lss (.tmp 11) (.tmp 13), none⟩] [0, 1, 5, 14] []) <|
        .cond (.tmp 14)
          (.skip)
          (.exit 0)) <|
       .seq (.block 1 (
          .seq (.region [⟨some 17, .mv (.tmp 0), none⟩,
             ⟨some 18, .mv (.tmp 5), none⟩,
             ⟨some 19, .idxSl 9 (.tmp 17) (.tmp 18), none⟩,
             ⟨some 20, .load true 9 (.tmp 19), none⟩,
             ⟨some 21, .mv (.tmp 1), none⟩,
             ⟨some 22, .mv (.tmp 5), none⟩,
             ⟨some 23, .idxSl 9 (.tmp 21) (.tmp 22), none⟩,
             ⟨some 24, .load true 9 (.tmp 23), none⟩,
             ⟨some 25, .eqA true [0, 0, 0, 0, 0, 0, 0, 0, 2] (.tmp 20) (.tmp 24), none⟩] [0, 1, 5, 25] [17, 18, 20, 21, 19, 22, 23, 24, 25]) <|
          .cond (.tmp 25)
            (.seq (.region [⟨some 4, .mv (.const (.bool false)), none⟩] [4] []) <|
            .ret)
            (.skip))) <|
       .region [⟨some 15, .mv (.tmp 5), none⟩,
         ⟨some 16, .bin .add (.tmp 15) (.const (.int .i64 (1))), none⟩,
         ⟨some 5, .mv (.tmp 16), none⟩] [0, 1, 5] []))) <|
  .seq (.region [⟨some 4, .mv (.const (.bool true)), none⟩] [4] []) <|
  .ret
theorem Cd.spec_SameFlow_rs : Try.f31.results.toList = [.tmp 4] := rfl
theorem Cd.spec_SameFlow_nt : Try.f31.ntmps = 26 := rfl
theorem Cd.spec_SameFlow_ok : CodeIsR Try.prog 31 Try.f31 Cd.spec_SameFlow := ⟨Try.func31, by kernel_rfl, by decide +kernel⟩
/-- loop.example/g01012/laws.toStepS -/
def Cd.laws_toStepS : ACode :=
  .seq (.region [⟨some 2, .mv (.const (.slice none 0 0)), none⟩] [0] []) <|
  .seq (.region [⟨some 5, .mv (.tmp 0), none⟩,
     ⟨some 6, .len (.tmp 5), none⟩,
     ⟨some 7, .mk 9 80 [.v (.int .i64 (0)), .v (.int .i64 (0)), .v (.int .i64 (0)), .v (.int .i64 (0)), .v (.int .i64 (0)), .v (.int .i64 (0)), .v (.int .i64 (0)), .v (.int .i64 (0)), .v (.string ⟨#[]⟩)] (.tmp 6), none⟩,
     ⟨some 3, .mv (.tmp 7), none⟩] [0, 3] []) <|
  .seq (.seq (.region [⟨some 4, .mv (.const (.int .i64 (0))), none⟩] [0, 3, 4] []) <|
   .block 0 (
     .loop (
       .seq (.seq (.region [⟨some 8, .mv (.tmp 4), none⟩,
           ⟨some 9, .mv (.tmp 0), none⟩,
           ⟨some 10, .len (.tmp 9), none⟩,
           ⟨some 11, .bin .lss (.tmp 8) (.tmp 10), none⟩] [0, 3, 4, 11] []) <|
        .cond (.tmp 11)
          (.skip)
          (.exit 0)) <|
       .seq (.block 1 (
          .region [⟨some 14, .mv (.tmp 3), none⟩,
            ⟨some 15, .mv (.tmp 4), none⟩,
            ⟨some 16, .mv (.tmp 0), none⟩,
            ⟨some 17, .mv (.tmp 4), none⟩,
            ⟨some 18, .idxSl 9 (.tmp 16) (.tmp 17), none⟩,
            ⟨some 19, .load true 9 (.tmp 18), none⟩,
            ⟨some 20, .call (.func F.laws_toStep) [(.tmp 19)] [], none⟩,
            ⟨some 21, .idxSl 9 (.tmp 14) (.tmp 15), none⟩,
            ⟨none, .store 9 (.tmp 21) (.tmp 20), none⟩] [0, 3, 4] [])) <|
       .region [⟨some 12, .mv (.tmp 4), none⟩,
         ⟨some 13, .bin .add (.tmp 12) (.const (.int .i64 (1))), none⟩,
         ⟨some 4, .mv (.tmp 13), none⟩] [0, 3, 4] []))) <|
  .seq (.region [⟨some 22, .mv (.tmp 3), none⟩,
     ⟨some 2, .mv (.tmp 22), none⟩] [2] []) <|
  .ret
theorem Cd.laws_toStepS_rs : Try.f32.results.toList = [.tmp 2] := rfl
theorem Cd.laws_toStepS_nt : Try.f32.ntmps = 23 := rfl
theorem Cd.laws_toStepS_ok : CodeIsR Try.prog 32 Try.f32 Cd.laws_toStepS := ⟨Try.func32, by kernel_rfl, by decide +kernel⟩
/-- loop.example/g01012/impl.SameFlow -/
def Cd.impl_SameFlow : ACode :=
  .seq (.region [⟨some 4, .mv (.const (.bool false)), none⟩] [0, 1] []) <|
  .seq (.region [⟨some 5, .mv (.tmp 0), none⟩,
     ⟨some 6, .mv (.tmp 1), none⟩,
     ⟨some 7, .call (.func F.slices_Equal___impl_Step_impl_Step_) [(.tmp 5), (.tmp 6)] [], none⟩,
     ⟨some 4, .mv (.tmp 7), none⟩] [4] []) <|
  .ret
theorem Cd.impl_SameFlow_rs : Try.f33.results.toList = [.tmp 4] := rfl
theorem Cd.impl_SameFlow_nt : Try.f33.ntmps = 8 := rfl
theorem Cd.impl_SameFlow_ok : CodeIsR Try.prog 33 Try.f33 Cd.impl_SameFlow := ⟨Try.func33, by kernel_rfl, by decide +kernel⟩
/-- loop.example/g01012/laws.eqStepS DRAWS -/
def Cd.laws_eqStepS : ACode :=
  .seq (.region [⟨some 4, .mv (.const (.bool false)), none⟩] [0, 1] []) <|
  .seq (.seq (.region [⟨some 6, .mv (.tmp 0), none⟩,
      ⟨some 7, .len (.tmp 6), none⟩,
      ⟨some 8, .mv (.tmp 1), none⟩,
      ⟨some 9, .len (.tmp 8), none⟩,
      ⟨some 10, .bin .neq (.tmp 7) (.tmp 9), none⟩] [0, 1, 10] []) <|
   .cond (.tmp 10)
     (.seq (.region [⟨some 4, .mv (.const (.bool false)), none⟩] [4] []) <|
     .ret)
     (.skip)) <|
  .seq (.seq (.region [⟨some 5, .mv (.const (.int .i64 (0))), none⟩] [0, 1, 5] []) <|
   .block 0 (
     .loop (
       .seq (.seq (.region [⟨some 11, .mv (.tmp 5), none⟩,
           ⟨some 12, .mv (.tmp 0), none⟩,
           ⟨some 13, .len (.tmp 12), none⟩,
           ⟨some 14, .bin .lss (.tmp 11) (.tmp 13), none⟩] [0, 1, 5, 14] []) <|
        .cond (.tmp 14)
          (.skip)
          (.exit 0)) <|
       .seq (.block 1 (
          .seq (.region [⟨some 17, .mv (.tmp 0), none⟩,
             ⟨some 18, .mv (.tmp 5), none⟩,
             ⟨some 19, .idxSl 9 (.tmp 17) (.tmp 18), none⟩,
             ⟨some 20, .load true 9 (.tmp 19), none⟩,
             ⟨some 21, .mv (.tmp 1), none⟩,
             ⟨some 22, .mv (.tmp 5), none⟩,
             ⟨some 23, .idxSl 9 (.tmp 21) (.tmp 22), none⟩,
             ⟨some 24, .load true 9 (.tmp 23), none⟩,
             ⟨some 25, .call (.func F.laws_eqStep) [(.tmp 20), (.tmp 24)] [], none⟩,
             ⟨some 26, .un .not (.tmp 25), none⟩] [0, 1, 5, 26] [17, 18, 20, 21, 19, 22, 23, 24, 25, 26]) <|
          .cond (.tmp 26)
            (.seq (.region [⟨some 4, .mv (.const (.bool false)), none⟩] [4] []) <|
            .ret)
            (.skip))) <|
       .region [⟨some 15, .mv (.tmp 5), none⟩,
         ⟨some 16, .bin .add (.tmp 15) (.const (.int .i64 (1))), none⟩,
         ⟨some 5, .mv (.tmp 16), none⟩] [0, 1, 5] []))) <|
  .seq (.region [⟨some 4, .mv (.const (.bool true)), none⟩] [4] []) <|
  .ret
theorem Cd.laws_eqStepS_rs : Try.f34.results.toList = [.tmp 4] := rfl
theorem Cd.laws_eqStepS_nt : Try.f34.ntmps = 27 := rfl
theorem Cd.laws_eqStepS_ok : CodeIsR Try.prog 34 Try.f34 Cd.laws_eqStepS := ⟨Try.func34, by kernel_rfl, by decide +kernel⟩
/-- loop.example/g01012/laws.szStep -/
def Cd.laws_szStep : ACode :=
  .seq (.region [⟨some 2, .box (.tmp 0), none⟩,
     ⟨some 4, .mv (.const (.int .i64 (0))), none⟩] [1, 2] []) <|
  .seq (.region [⟨some 5, .mv (.tmp 1), none⟩,
     ⟨some 6, .fieldAddr 8 (.tmp 2), none⟩,
     ⟨some 7, .load false 1 (.tmp 6), none⟩,
     ⟨some 8, .lenS (.tmp 7), none⟩,
     ⟨some 9, .bin .sub (.tmp 5) (.tmp 8), none⟩,
     ⟨some 1, .mv (.tmp 9), none⟩] [1] []) <|
  .seq (.seq (.region [⟨some 10, .mv (.tmp 1), none⟩,
      ⟨some 11, .bin .lss (.tmp 10) (.const (.int .i64 (0))), none⟩] [1, 11] []) <|
   .cond (.tmp 11)
     (.seq (.region [⟨some 4, .mv (.const (.int .i64 (-1))), none⟩] [4] []) <|
     .ret)
     (.skip)) <|
  .seq (.region [⟨some 12, .mv (.tmp 1), none⟩,
     ⟨some 4, .mv (.tmp 12), none⟩] [4] []) <|
  .ret
theorem Cd.laws_szStep_rs : Try.f35.results.toList = [.tmp 4] := rfl
theorem Cd.laws_szStep_nt : Try.f35.ntmps = 13 := rfl
theorem Cd.laws_szStep_ok : CodeIsR Try.prog 35 Try.f35 Cd.laws_szStep := ⟨Try.func35, by kernel_rfl, by decide +kernel⟩
/-- loop.example/g01012/spec.ValidStep -/
def Cd.spec_ValidStep : ACode :=
  .seq (.region [⟨some 2, .box (.tmp 0), none⟩,
     ⟨some 4, .mv (.const (.bool false)), none⟩] [1, 2] []) <|
  .seq (.region [⟨some 5, .mv (.tmp 1), none⟩,
     ⟨some 6, .call (.func F.spec_l00In) [(.tmp 5), (.const (.int .i64 (1))), (.const (.int .i64 (20)))] [], none⟩,
     ⟨some 7, .mv (.tmp 6), none⟩,
     ⟨some 8, .mv (.tmp 1), some (7, true)⟩,
     ⟨some 9, .call (.func F.spec_l15Step) [(.tmp 2), (.tmp 8)] [], some (7, true)⟩,
     ⟨some 10, .pick (.tmp 7) (.tmp 9) (.const (.bool false)), none⟩,
     ⟨some 4, .mv (.tmp 10), none⟩] [4] []) <|
  .ret
theorem Cd.spec_ValidStep_rs : Try.f36.results.toList = [.tmp 4] := rfl
theorem Cd.spec_ValidStep_nt : Try.f36.ntmps = 11 := rfl
theorem Cd.spec_ValidStep_ok : CodeIsR Try.prog 36 Try.f36 Cd.spec_ValidStep := ⟨Try.func36, by kernel_rfl, by decide +kernel⟩
/-- loop.example/g01012/laws.toStep -/
def Cd.laws_toStep : ACode :=
  .seq (.region [⟨some 1, .box (.tmp 0), none⟩,
     ⟨some 2, .alloc [.v (.int .i64 (0)), .v (.int .i64 (0)), .v (.int .i64 (0)), .v (.int .i64 (0)), .v (.int .i64 (0)), .v (.int .i64 (0)), .v (.int .i64 (0)), .v (.int .i64 (0)), .v (.string ⟨#[]⟩)], none⟩] [1, 2] []) <|
  .seq (.region [⟨some 3, .alloc [.v (.int .i64 (0)), .v (.int .i64 (0)), .v (.int .i64 (0)), .v (.int .i64 (0)), .v (.int .i64 (0)), .v (.int .i64 (0)), .v (.int .i64 (0)), .v (.int .i64 (0)), .v (.string ⟨#[]⟩)], none⟩] [1, 2, 3] []) <|
  .seq (.region [⟨some 4, .fieldAddr 0 (.tmp 1), none⟩,
     ⟨some 5, .load false 1 (.tmp 4), none⟩,
     ⟨some 6, .fieldAddr 0 (.tmp 3), none⟩,
     ⟨none, .store 1 (.tmp 6) (.tmp 5), none⟩] [1, 2, 3] []) <|
  .seq (.region [⟨some 7, .fieldAddr 1 (.tmp 1), none⟩,
     ⟨some 8, .load false 1 (.tmp 7), none⟩,
     ⟨some 9, .fieldAddr 1 (.tmp 3), none⟩,
     ⟨none, .store 1 (.tmp 9) (.tmp 8), none⟩] [1, 2, 3] []) <|
  .seq (.region [⟨some 10, .fieldAddr 2 (.tmp 1), none⟩,
     ⟨some 11, .load false 1 (.tmp 10), none⟩,
     ⟨some 12, .fieldAddr 2 (.tmp 3), none⟩,
     ⟨none, .store 1 (.tmp 12) (.tmp 11), none⟩] [1, 2, 3] []) <|
  .seq (.region [⟨some 13, .fieldAddr 3 (.tmp 1), none⟩,
     ⟨some 14, .load false 1 (.tmp 13), none⟩,
     ⟨some 15, .fieldAddr 3 (.tmp 3), none⟩,
     ⟨none, .store 1 (.tmp 15) (.tmp 14), none⟩] [1, 2, 3] []) <|
  .seq (.region [⟨some 16, .fieldAddr 4 (.tmp 1), none⟩,
     ⟨some 17, .load true 2 (.tmp 16), none⟩,
     ⟨some 18, .call (.func F.laws_toField) [(.tmp 17)] [], none⟩,
     ⟨some 19, .fieldAddr 4 (.tmp 3), none⟩,
     ⟨none, .store 2 (.tmp 19) (.tmp 18), none⟩] [1, 2, 3] []) <|
  .seq (.region [⟨some 20, .fieldAddr 6 (.tmp 1), none⟩,
     ⟨some 21, .load true 2 (.tmp 20), none⟩,
     ⟨some 22, .call (.func F.laws_toField) [(.tmp 21)] [], none⟩,
     ⟨some 23, .fieldAddr 6 (.tmp 3), none⟩,
     ⟨none, .store 2 (.tmp 23) (.tmp 22), none⟩] [1, 2, 3] []) <|
  .seq (.region [⟨some 24, .fieldAddr 8 (.tmp 1), none⟩,
     ⟨some 25, .load false 1 (.tmp 24), none⟩,
     ⟨some 26, .fieldAddr 8 (.tmp 3), none⟩,
     ⟨none, .store 1 (.tmp 26) (.tmp 25), none⟩] [2, 3] []) <|
  .seq (.region [⟨some 27, .load true 9 (.tmp 3), none⟩,
     ⟨none, .store 9 (.tmp 2) (.tmp 27), none⟩] [2] []) <|
  .ret
theorem Cd.laws_toStep_rs : Try.f37.results.toList = [.cell 2 58] := rfl
theorem Cd.laws_toStep_nt : Try.f37.ntmps = 28 := rfl
theorem Cd.laws_toStep_ok : CodeIsR Try.prog 37 Try.f37 Cd.laws_toStep := ⟨Try.func37, by kernel_rfl, by decide +kernel⟩
/-- loop.example/g01012/impl.ValidStep -/
def Cd.impl_ValidStep : ACode :=
  .seq (.region [⟨some 2, .box (.tmp 0), none⟩,
     ⟨some 4, .mv (.const (.bool false)), none⟩] [1, 2] []) <|
  .seq (.block 0 (
     .seq (.region [⟨some 6, .mv (.tmp 1), none⟩,
        ⟨some 7, .call (.func F.impl_inside) [(.tmp 6), (.const (.int .i64 (1))), (.const (.int .i64 (20)))] [], none⟩,
        ⟨some 8, .un .not (.tmp 7), none⟩,
        ⟨some 9, .mv (.tmp 8), none⟩,
        ⟨some 10, .fieldAddr 0 (.tmp 2), some (9, false)⟩,
        ⟨some 11, .load false 1 (.tmp 10), some (9, false)⟩,
        ⟨some 12, .call (.func F.impl_inside) [(.tmp 11), (.const (.int .i64 (1))), (.const (.int .i64 (7)))] [], some (9, false)⟩,
        ⟨some 13, .un .not (.tmp 12), some (9, false)⟩,
        ⟨some 14, .pick (.tmp 9) (.const (.bool true)) (.tmp 13), none⟩,
        ⟨some 15, .mv (.tmp 14), none⟩,
        ⟨some 16, .fieldAddr 1 (.tmp 2), some (15, false)⟩,
        ⟨some 17, .load false 1 (.tmp 16), some (15, false)⟩,
        ⟨some 18, .call (.func F.impl_isTray) [(.tmp 17)] [], some (15, false)⟩,
        ⟨some 19, .un .not (.tmp 18), some (15, false)⟩,
        ⟨some 20, .pick (.tmp 15) (.const (.bool true)) (.tmp 19), none⟩,
        ⟨some 21, .mv (.tmp 20), none⟩,
        ⟨some 22, .fieldAddr 2 (.tmp 2), some (21, false)⟩,
        ⟨some 23, .load false 1 (.tmp 22), some (21, false)⟩,
        ⟨some 24, .call (.func F.impl_isTray) [(.tmp 23)] [], some (21, false)⟩,
        ⟨some 25, .un .not (.tmp 24), some (21, false)⟩,
        ⟨some 26, .pick (.tmp 21) (.const (.bool true)) (.tmp 25), none⟩,
        ⟨some 27, .mv (.tmp 26), none⟩,
        ⟨some 28, .fieldAddr 3 (.tmp 2), some (27, false)⟩,
        ⟨some 29, .load false 1 (.tmp 28), some (27, false)⟩,
        ⟨some 30, .call (.func F.impl_isTray) [(.tmp 29)] [], some (27, false)⟩,
        ⟨some 31, .un .not (.tmp 30), some (27, false)⟩,
        ⟨some 32, .pick (.tmp 27) (.const (.bool true)) (.tmp 31), none⟩,
        ⟨some 5, .mv (.tmp 32), none⟩] [1, 2, 5] []) <|
     .cond (.tmp 5)
       (.seq (.region [⟨some 4, .mv (.const (.bool false)), none⟩] [4] []) <|
       .ret)
       (.seq (.region [⟨some 34, .fieldAddr 2 (.tmp 2), none⟩,
          ⟨some 35, .load false 1 (.tmp 34), none⟩,
          ⟨some 36, .bin .neq (.tmp 35) (.const (.int .i64 (0))), none⟩,
          ⟨some 37, .mv (.tmp 36), none⟩,
          ⟨some 38, .fieldAddr 0 (.tmp 2), some (37, true)⟩,
          ⟨some 39, .load false 1 (.tmp 38), some (37, true)⟩,
          ⟨some 40, .call (.func F.impl_takesTwo) [(.tmp 39)] [], some (37, true)⟩,
          ⟨some 41, .un .not (.tmp 40), some (37, true)⟩,
          ⟨some 42, .pick (.tmp 37) (.tmp 41) (.const (.bool false)), none⟩,
          ⟨some 43, .mv (.tmp 42), none⟩,
          ⟨some 44, .fieldAddr 3 (.tmp 2), some (43, false)⟩,
          ⟨some 45, .load false 1 (.tmp 44), some (43, false)⟩,
          ⟨some 46, .bin .neq (.tmp 45) (.const (.int .i64 (0))), some (43, false)⟩,
          ⟨some 47, .mv (.tmp 46), some (43, false)⟩,
          ⟨some 48, .fieldAddr 0 (.tmp 2), some (47, true)⟩,
          ⟨some 49, .load false 1 (.tmp 48), some (47, true)⟩,
          ⟨some 50, .bin .eql (.tmp 49) (.const (.int .i64 (7))), some (47, true)⟩,
          ⟨some 51, .pick (.tmp 47) (.tmp 50) (.const (.bool false)), some (43, false)⟩,
          ⟨some 52, .pick (.tmp 43) (.const (.bool true)) (.tmp 51), none⟩,
          ⟨some 53, .mv (.tmp 52), none⟩,
          ⟨some 54, .fieldAddr 4 (.tmp 2), some (53, false)⟩,
          ⟨some 55, .load true 2 (.tmp 54), some (53, false)⟩,
          ⟨some 56, .mv (.tmp 1), some (53, false)⟩,
          ⟨some 57, .call (.func F.impl_isField) [(.tmp 55), (.tmp 56)] [], some (53, false)⟩,
          ⟨some 58, .un .not (.tmp 57), some (53, false)⟩,
          ⟨some 59, .pick (.tmp 53) (.const (.bool true)) (.tmp 58), none⟩,
          ⟨some 33, .mv (.tmp 59), none⟩] [1, 2, 33] []) <|
       .cond (.tmp 33)
         (.seq (.region [⟨some 4, .mv (.const (.bool false)), none⟩] [4] []) <|
         .ret)
         (.seq (.region [⟨some 61, .fieldAddr 0 (.tmp 2), none⟩,
            ⟨some 62, .load false 1 (.tmp 61), none⟩,
            ⟨some 63, .bin .eql (.tmp 62) (.const (.int .i64 (7))), none⟩,
            ⟨some 64, .mv (.tmp 63), none⟩,
            ⟨some 65, .fieldAddr 6 (.tmp 2), some (64, true)⟩,
            ⟨some 66, .load true 2 (.tmp 65), some (64, true)⟩,
            ⟨some 67, .mv (.tmp 1), some (64, true)⟩,
            ⟨some 68, .call (.func F.impl_isNumberField) [(.tmp 66), (.tmp 67)] [], some (64, true)⟩,
            ⟨some 69, .un .not (.tmp 68), some (64, true)⟩,
            ⟨some 70, .pick (.tmp 64) (.tmp 69) (.const (.bool false)), none⟩,
            ⟨some 71, .mv (.tmp 70), none⟩,
            ⟨some 72, .fieldAddr 0 (.tmp 2), some (71, false)⟩,
            ⟨some 73, .load false 1 (.tmp 72), some (71, false)⟩,
            ⟨some 74, .bin .neq (.tmp 73) (.const (.int .i64 (7))), some (71, false)⟩,
            ⟨some 75, .mv (.tmp 74), some (71, false)⟩,
            ⟨some 76, .fieldAddr 6 (.tmp 2), some (75, true)⟩,
            ⟨some 77, .load true 2 (.tmp 76), some (75, true)⟩,
            ⟨some 78, .build [.v (.int .i64 (0)), .v (.int .i64 (0))] [], some (75, true)⟩,
            ⟨some 79, .eqA true [0, 0] (.tmp 77) (.tmp 78), some (75, true)⟩,
            ⟨some 80, .pick (.tmp 75) (.tmp 79) (.const (.bool false)), some (71, false)⟩,
            ⟨some 81, .pick (.tmp 71) (.const (.bool true)) (.tmp 80), none⟩,
            ⟨some 60, .mv (.tmp 81), none⟩] [2, 60] []) <|
         .cond (.tmp 60)
           (.seq (.region [⟨some 4, .mv (.const (.bool false)), none⟩] [4] []) <|
           .ret)
           (.seq (.region [⟨some 83, .fieldAddr 0 (.tmp 2), none⟩,
              ⟨some 84, .load false 1 (.tmp 83), none⟩,
              ⟨some 85, .bin .eql (.tmp 84) (.const (.int .i64 (5))), none⟩,
              ⟨some 82, .mv (.tmp 85), none⟩] [2, 82] []) <|
           .cond (.tmp 82)
             (.seq (.region [⟨some 86, .fieldAddr 8 (.tmp 2), none⟩,
                ⟨some 87, .load false 1 (.tmp 86), none⟩,
                ⟨some 88, .call (.func F.impl_areCharacters) [(.tmp 87)] [], none⟩,
                ⟨some 89, .mv (.tmp 88), none⟩,
                ⟨some 90, .fieldAddr 8 (.tmp 2), some (89, true)⟩,
                ⟨some 91, .load false 1 (.tmp 90), some (89, true)⟩,
                ⟨some 92, .lenS (.tmp 91), some (89, true)⟩,
                ⟨some 93, .fieldAddr 4 (.tmp 2), some (89, true)⟩,
                ⟨some 94, .fieldAddr 1 (.tmp 93), some (89, true)⟩,
                ⟨some 95, .load false 1 (.tmp 94), some (89, true)⟩,
                ⟨some 96, .fieldAddr 4 (.tmp 2), some (89, true)⟩,
                ⟨some 97, .fieldAddr 0 (.tmp 96), some (89, true)⟩,
                ⟨some 98, .load false 1 (.tmp 97), some (89, true)⟩,
                ⟨some 99, .bin .sub (.tmp 95) (.tmp 98), some (89, true)⟩,
                ⟨some 100, .bin .eql (.tmp 92) (.tmp 99), some (89, true)⟩,
                ⟨some 101, .pick (.tmp 89) (.tmp 100) (.const (.bool false)), none⟩,
                ⟨some 4, .mv (.tmp 101), none⟩] [4] []) <|
             .ret)
             (.skip)))))) <|
  .seq (.region [⟨some 102, .fieldAddr 8 (.tmp 2), none⟩,
     ⟨some 103, .load false 1 (.tmp 102), none⟩,
     ⟨some 104, .binS .eql (.tmp 103) (.const (.string ⟨#[]⟩)), none⟩,
     ⟨some 4, .mv (.tmp 104), none⟩] [4] []) <|
  .ret
theorem Cd.impl_ValidStep_rs : Try.f38.results.toList = [.tmp 4] := rfl
theorem Cd.impl_ValidStep_nt : Try.f38.ntmps = 105 := rfl
theorem Cd.impl_ValidStep_ok : CodeIsR Try.prog 38 Try.f38 Cd.impl_ValidStep := ⟨Try.func38, by kernel_rfl, by decide +kernel⟩
/-- loop.example/g01012/spec.ValidFlow -/
def Cd.spec_ValidFlow : ACode :=
  .seq (.region [⟨some 4, .mv (.const (.bool false)), none⟩] [0, 1] []) <|
  .seq (.region [⟨some 5, .mv (.tmp 1), none⟩,
     ⟨some 6, .call (.func F.spec_l00In) [(.tmp 5), (.const (.int .i64 (1))), (.const (.int .i64 (20)))] [], none⟩,
     ⟨some 7, .mv (.tmp 6), none⟩,
     ⟨some 8, .mv (.tmp 0), some (7, true)⟩,
     ⟨some 9, .mv (.tmp 1), some (7, true)⟩,
     ⟨some 10, .call (.func F.spec_l15Flow) [(.tmp 8), (.tmp 9)] [], some (7, true)⟩,
     ⟨some 11, .pick (.tmp 7) (.tmp 10) (.const (.bool false)), none⟩,
     ⟨some 4, .mv (.tmp 11), none⟩] [4] []) <|
  .ret
theorem Cd.spec_ValidFlow_rs : Try.f51.results.toList = [.tmp 4] := rfl
theorem Cd.spec_ValidFlow_nt : Try.f51.ntmps = 12 := rfl
theorem Cd.spec_ValidFlow_ok : CodeIsR Try.prog 51 Try.f51 Cd.spec_ValidFlow := ⟨Try.func51, by kernel_rfl, by decide +kernel⟩
/-- loop.example/g01012/impl.ValidFlow -/
def Cd.impl_ValidFlow : ACode :=
  .seq (.region [⟨some 3, .box (.tmp 1), none⟩,
     ⟨some 4, .mv (.const (.bool false)), none⟩] [0, 3] []) <|
  .seq (.region [⟨some 5, .load false 1 (.tmp 3), none⟩,
     ⟨some 6, .call (.func F.impl_inside) [(.tmp 5), (.const (.int .i64 (1))), (.const (.int .i64 (20)))] [], none⟩,
     ⟨some 7, .mv (.tmp 6), none⟩,
     ⟨some 8, .mv (.tmp 0), some (7, true)⟩,
     ⟨some 9, .len (.tmp 8), some (7, true)⟩,
     ⟨some 10, .bin .leq (.tmp 9) (.const (.int .i64 (20))), some (7, true)⟩,
     ⟨some 11, .pick (.tmp 7) (.tmp 10) (.const (.bool false)), none⟩,
     ⟨some 12, .mv (.tmp 11), none⟩,
     ⟨some 13, .mv (.tmp 0), some (12, true)⟩,
     ⟨some 14, .mkfn F.impl_ValidFlow_1 [(.tmp 3)], some (12, true)⟩,
     ⟨some 15, .call (.func F.slices_ContainsFunc___impl_Step_impl_Step_) [(.tmp 13), (.tmp 14)] [], some (12, true)⟩,
     ⟨some 16, .un .not (.tmp 15), some (12, true)⟩,
     ⟨some 17, .pick (.tmp 12) (.tmp 16) (.const (.bool false)), none⟩,
     ⟨some 4, .mv (.tmp 17), none⟩] [4] []) <|
  .ret
theorem Cd.impl_ValidFlow_rs : Try.f52.results.toList = [.tmp 4] := rfl
theorem Cd.impl_ValidFlow_nt : Try.f52.ntmps = 18 := rfl
theorem Cd.impl_ValidFlow_ok : CodeIsR Try.prog 52 Try.f52 Cd.impl_ValidFlow := ⟨Try.func52, by kernel_rfl, by decide +kernel⟩
/-- loop.example/g01012/spec.l18Two -/
def Cd.spec_l18Two : ACode :=
  .seq (.region [⟨some 2, .box (.tmp 0), none⟩,
     ⟨some 3, .box (.tmp 1), none⟩,
     ⟨some 4, .mv (.const (.int .i64 (0))), none⟩] [2, 3] []) <|
  .seq (.seq (.region [⟨some 5, .load true 3 (.tmp 2), none⟩,
      ⟨some 6, .call (.func F.spec_l18Ok) [(.tmp 5)] [], none⟩,
      ⟨some 7, .un .not (.tmp 6), none⟩,
      ⟨some 8, .mv (.tmp 7), none⟩,
      ⟨some 9, .load true 3 (.tmp 3), some (8, false)⟩,
      ⟨some 10, .call (.func F.spec_l18Ok) [(.tmp 9)] [], some (8, false)⟩,
      ⟨some 11, .un .not (.tmp 10), some (8, false)⟩,
      ⟨some 12, .pick (.tmp 8) (.const (.bool true)) (.tmp 11), none⟩] [12] []) <|
   .cond (.tmp 12)
     (.seq (.region [⟨some 4, .mv (.const (.int .i64 (1))), none⟩] [4] []) <|
     .ret)
     (.skip)) <|
  .seq (.region [⟨some 4, .mv (.const (.int .i64 (0))), none⟩] [4] []) <|
  .ret
theorem Cd.spec_l18Two_rs : Try.f66.results.toList = [.tmp 4] := rfl
theorem Cd.spec_l18Two_nt : Try.f66.ntmps = 13 := rfl
theorem Cd.spec_l18Two_ok : CodeIsR Try.prog 66 Try.f66 Cd.spec_l18Two := ⟨Try.func66, by kernel_rfl, by decide +kernel⟩
/-- loop.example/g01012/spec.l18Ok -/
def Cd.spec_l18Ok : ACode :=
  .seq (.region [⟨some 1, .box (.tmp 0), none⟩,
     ⟨some 2, .mv (.const (.bool false)), none⟩] [1] []) <|
  .seq (.region [⟨some 3, .fieldAddr 0 (.tmp 1), none⟩,
     ⟨some 4, .load false 1 (.tmp 3), none⟩,
     ⟨some 5, .call (.func F.spec_l00In) [(.tmp 4), (.const (.int .i64 (0))), (.const (.int .i64 (1000000)))] [], none⟩,
     ⟨some 6, .mv (.tmp 5), none⟩,
     ⟨some 7, .fieldAddr 1 (.tmp 1), some (6, true)⟩,
     ⟨some 8, .load false 1 (.tmp 7), some (6, true)⟩,
     ⟨some 9, .call (.func F.spec_l00In) [(.tmp 8), (.const (.int .i64 (-1000000000000000))), (.const (.int .i64 (1000000000000000)))] [], some (6, true)⟩,
     ⟨some 10, .pick (.tmp 6) (.tmp 9) (.const (.bool false)), none⟩,
     ⟨some 11, .mv (.tmp 10), none⟩,
     ⟨some 12, .fieldAddr 2 (.tmp 1), some (11, true)⟩,
     ⟨some 13, .load false 1 (.tmp 12), some (11, true)⟩,
     ⟨some 14, .call (.func F.spec_l00In) [(.tmp 13), (.const (.int .i64 (0))), (.const (.int .i64 (1000000000)))] [], some (11, true)⟩,
     ⟨some 15, .pick (.tmp 11) (.tmp 14) (.const (.bool false)), none⟩,
     ⟨some 2, .mv (.tmp 15), none⟩] [2] []) <|
  .ret
theorem Cd.spec_l18Ok_rs : Try.f67.results.toList = [.tmp 2] := rfl
theorem Cd.spec_l18Ok_nt : Try.f67.ntmps = 16 := rfl
theorem Cd.spec_l18Ok_ok : CodeIsR Try.prog 67 Try.f67 Cd.spec_l18Ok := ⟨Try.func67, by kernel_rfl, by decide +kernel⟩
/-- loop.example/g01012/impl.joinedControls -/
def Cd.impl_joinedControls : ACode :=
  .seq (.region [⟨some 3, .box (.tmp 0), none⟩,
     ⟨some 4, .box (.tmp 1), none⟩,
     ⟨some 6, .alloc [.v (.int .i64 (0)), .v (.int .i64 (0)), .v (.int .i64 (0))], none⟩,
     ⟨some 7, .mv (.const (.int .i64 (0))), none⟩] [2, 3, 4, 6] []) <|
  .seq (.seq (.region [⟨some 9, .load true 3 (.tmp 3), none⟩,
      ⟨some 10, .call (.func F.impl_isPlainControl) [(.tmp 9)] [], none⟩,
      ⟨some 11, .un .not (.tmp 10), none⟩,
      ⟨some 12, .mv (.tmp 11), none⟩,
      ⟨some 13, .load true 3 (.tmp 4), some (12, false)⟩,
      ⟨some 14, .call (.func F.impl_isPlainControl) [(.tmp 13)] [], some (12, false)⟩,
      ⟨some 15, .un .not (.tmp 14), some (12, false)⟩,
      ⟨some 16, .pick (.tmp 12) (.const (.bool true)) (.tmp 15), none⟩] [2, 3, 4, 6, 16] []) <|
   .cond (.tmp 16)
     (.seq (.region [⟨some 17, .build [.v (.int .i64 (0)), .v (.int .i64 (0)), .v (.int .i64 (0))] [], none⟩,
        ⟨none, .store 3 (.tmp 6) (.tmp 17), none⟩,
        ⟨some 7, .mv (.const (.int .i64 (1))), none⟩] [6, 7] []) <|
     .ret)
     (.skip)) <|
  .seq (.region [⟨some 18, .load true 3 (.tmp 3), none⟩,
     ⟨some 19, .load true 3 (.tmp 4), none⟩,
     ⟨some 20, .mv (.tmp 2), none⟩,
     ⟨some 21, .call (.func F._impl_Control__plus) [(.tmp 18), (.tmp 19), (.tmp 20)] [], none⟩,
     ⟨some 8, .alloc [.v (.int .i64 (0)), .v (.int .i64 (0)), .v (.int .i64 (0))], none⟩,
     ⟨none, .store 3 (.tmp 8) (.tmp 21), none⟩] [6, 8] []) <|
  .seq (.seq (.region [⟨some 22, .load true 3 (.tmp 8), none⟩,
      ⟨some 23, .call (.func F.impl_isPlainControl) [(.tmp 22)] [], none⟩,
      ⟨some 24, .un .not (.tmp 23), none⟩] [6, 8, 24] []) <|
   .cond (.tmp 24)
     (.seq (.region [⟨some 25, .build [.v (.int .i64 (0)), .v (.int .i64 (0)), .v (.int .i64 (0))] [], none⟩,
        ⟨none, .store 3 (.tmp 6) (.tmp 25), none⟩,
        ⟨some 7, .mv (.const (.int .i64 (5))), none⟩] [6, 7] []) <|
     .ret)
     (.skip)) <|
  .seq (.region [⟨some 26, .load true 3 (.tmp 8), none⟩,
     ⟨none, .store 3 (.tmp 6) (.tmp 26), none⟩,
     ⟨some 7, .mv (.const (.int .i64 (0))), none⟩] [6, 7] []) <|
  .ret
theorem Cd.impl_joinedControls_rs : Try.f68.results.toList = [.cell 6 24, .tmp 7] := rfl
theorem Cd.impl_joinedControls_nt : Try.f68.ntmps = 27 := rfl
theorem Cd.impl_joinedControls_ok : CodeIsR Try.prog 68 Try.f68 Cd.impl_joinedControls := ⟨Try.func68, by kernel_rfl, by decide +kernel⟩
/-- loop.example/g01012/laws.szTotal -/
def Cd.laws_szTotal : ACode :=
  .seq (.region [⟨some 2, .box (.tmp 0), none⟩,
     ⟨some 4, .mv (.const (.int .i64 (0))), none⟩] [1, 2] []) <|
  .seq (.region [⟨some 5, .mv (.tmp 1), none⟩,
     ⟨some 6, .fieldAddr 0 (.tmp 2), none⟩,
     ⟨some 7, .load false 1 (.tmp 6), none⟩,
     ⟨some 8, .lenS (.tmp 7), none⟩,
     ⟨some 9, .bin .sub (.tmp 5) (.tmp 8), none⟩,
     ⟨some 1, .mv (.tmp 9), none⟩] [1] []) <|
  .seq (.seq (.region [⟨some 10, .mv (.tmp 1), none⟩,
      ⟨some 11, .bin .lss (.tmp 10) (.const (.int .i64 (0))), none⟩] [1, 11] []) <|
   .cond (.tmp 11)
     (.seq (.region [⟨some 4, .mv (.const (.int .i64 (-1))), none⟩] [4] []) <|
     .ret)
     (.skip)) <|
  .seq (.region [⟨some 12, .mv (.tmp 1), none⟩,
     ⟨some 4, .mv (.tmp 12), none⟩] [4] []) <|
  .ret
theorem Cd.laws_szTotal_rs : Try.f69.results.toList = [.tmp 4] := rfl
theorem Cd.laws_szTotal_nt : Try.f69.ntmps = 13 := rfl
theorem Cd.laws_szTotal_ok : CodeIsR Try.prog 69 Try.f69 Cd.laws_szTotal := ⟨Try.func69, by kernel_rfl, by decide +kernel⟩
/-- loop.example/g01012/spec.l15Totals DRAWS -/
def Cd.spec_l15Totals : ACode :=
  .seq (.region [⟨some 4, .mv (.const (.bool false)), none⟩] [0, 1] []) <|
  .seq (.seq (.region [⟨some 6, .mv (.tmp 0), none⟩,
      ⟨some 7, .len (.tmp 6), none⟩,
      ⟨some 8, .mv (.tmp 1), none⟩,
      ⟨some 9, .len (.tmp 8), none⟩,
      ⟨some 10, .bin .neq (.tmp 7) (.tmp 9), none⟩] [0, 1, 10] []) <|
   .cond (.tmp 10)
     (.seq (.region [⟨some 4, .mv (.const (.bool false)), none⟩] [4] []) <|
     .ret)
     (.skip)) <|
  .seq (.seq (.region [⟨some 5, .mv (.const (.int .i64 (0))), none⟩] [0, 1, 5] []) <|
   .block 0 (
     .loop (
       .seq (.seq (.region [⟨some 11, .mv (.tmp 5), none⟩,
           ⟨some 12, .mv (.tmp 0), none⟩,
           ⟨some 13, .len (.tmp 12), none⟩,
           ⟨some 14, .bin .lss (.tmp 11) (.tmp 13), none⟩] [0, 1, 5, 14] []) <|
        .cond (.tmp 14)
          (.skip)
          (.exit 0)) <|
       .seq (.block 1 (
          .seq (.region [⟨some 17, .mv (.tmp 0), none⟩,
             ⟨some 18, .mv (.tmp 5), none⟩,
             ⟨some 19, .idxSl 2 (.tmp 17) (.tmp 18), none⟩,
             ⟨some 20, .load true 2 (.tmp 19), none⟩,
             ⟨some 21, .mv (.tmp 1), none⟩,
             ⟨some 22, .mv (.tmp 5), none⟩,
             ⟨some 23, .idxSl 2 (.tmp 21) (.tmp 22), none⟩,
             ⟨some 24, .load true 2 (.tmp 23), none⟩,
             ⟨some 25, .eqA true [2, 0] (.tmp 20) (.tmp 24), none⟩] [0, 1, 5, 25] [17, 18, 20, 21, 19, 22, 23, 24, 25]) <|
          .cond (.tmp 25)
            (.seq (.region [⟨some 4, .mv (.const (.bool false)), none⟩] [4] []) <|
            .ret)
            (.skip))) <|
       .region [⟨some 15, .mv (.tmp 5), none⟩,
         ⟨some 16, .bin .add (.tmp 15) (.const (.int .i64 (1))), none⟩,
         ⟨some 5, .mv (.tmp 16), none⟩] [0, 1, 5] []))) <|
  .seq (.region [⟨some 4, .mv (.const (.bool true)), none⟩] [4] []) <|
  .ret
theorem Cd.spec_l15Totals_rs : Try.f70.results.toList = [.tmp 4] := rfl
theorem Cd.spec_l15Totals_nt : Try.f70.ntmps = 26 := rfl
theorem Cd.spec_l15Totals_ok : CodeIsR Try.prog 70 Try.f70 Cd.spec_l15Totals := ⟨Try.func70, by kernel_rfl, by decide +kernel⟩
/-- loop.example/g01012/laws.toTotal -/
def Cd.laws_toTotal : ACode :=
  .seq (.region [⟨some 1, .box (.tmp 0), none⟩,
     ⟨some 2, .alloc [.v (.string ⟨#[]⟩), .v (.int .i64 (0))], none⟩] [1, 2] []) <|
  .seq (.region [⟨some 3, .alloc [.v (.string ⟨#[]⟩), .v (.int .i64 (0))], none⟩] [1, 2, 3] []) <|
  .seq (.region [⟨some 4, .fieldAddr 0 (.tmp 1), none⟩,
     ⟨some 5, .load false 1 (.tmp 4), none⟩,
     ⟨some 6, .fieldAddr 0 (.tmp 3), none⟩,
     ⟨none, .store 1 (.tmp 6) (.tmp 5), none⟩] [1, 2, 3] []) <|
  .seq (.region [⟨some 7, .fieldAddr 1 (.tmp 1), none⟩,
     ⟨some 8, .load false 1 (.tmp 7), none⟩,
     ⟨some 9, .fieldAddr 1 (.tmp 3), none⟩,
     ⟨none, .store 1 (.tmp 9) (.tmp 8), none⟩] [2, 3] []) <|
  .seq (.region [⟨some 10, .load true 2 (.tmp 3), none⟩,
     ⟨none, .store 2 (.tmp 2) (.tmp 10), none⟩] [2] []) <|
  .ret
theorem Cd.laws_toTotal_rs : Try.f71.results.toList = [.cell 2 99] := rfl
theorem Cd.laws_toTotal_nt : Try.f71.ntmps = 11 := rfl
theorem Cd.laws_toTotal_ok : CodeIsR Try.prog 71 Try.f71 Cd.laws_toTotal := ⟨Try.func71, by kernel_rfl, by decide +kernel⟩
/-- slices.Equal[[]loop.example/g01012/impl.Total,loop.example/g01012/impl.Total] DRAWS -/
def Cd.slices_Equal___impl_Total_impl_Total_ : ACode :=
  .seq (.region [⟨some 4, .mv (.const (.bool false)), none⟩] [0, 1] []) <|
  .seq (.seq (.region [⟨some 6, .mv (.tmp 0), none⟩,
      ⟨some 7, .len (.tmp 6), none⟩,
      ⟨some 8, .mv (.tmp 1), none⟩,
      ⟨some 9, .len (.tmp 8), none⟩,
      ⟨some 10, .bin .neq (.tmp 7) (.tmp 9), none⟩] [0, 1, 10] []) <|
   .cond (.tmp 10)
     (.seq (.region [⟨some 4, .mv (.const (.bool false)), none⟩] [4] []) <|
     .ret)
     (.skip)) <|
  .seq (.seq (.region [⟨some 11, .mv (.tmp 0), none⟩,
      ⟨some 12, .len (.tmp 11), none⟩,
      ⟨some 13, .mv (.const (.int .i64 (0))), none⟩] [0, 1, 12, 13] []) <|
   .block 0 (
     .loop (
       .seq (.region [⟨some 14, .bin .lss (.tmp 13) (.tmp 12), none⟩] [0, 1, 12, 13, 14] []) <|
       .seq (.cond (.tmp 14)
          (.skip)
          (.exit 0)) <|
       .seq (.block 1 (
          .seq (.region [⟨some 15, .mv (.tmp 13), none⟩,
             ⟨some 5, .mv (.tmp 15), none⟩] [0, 1, 5, 12, 13] []) <|
          .seq (.region [⟨some 16, .mv (.tmp 0), none⟩,
             ⟨some 17, .mv (.tmp 5), none⟩,
             ⟨some 18, .idxSl 2 (.tmp 16) (.tmp 17), none⟩,
             ⟨some 19, .load true 2 (.tmp 18), none⟩,
             ⟨some 20, .mv (.tmp 1), none⟩,
             ⟨some 21, .mv (.tmp 5), none⟩,
             ⟨some 22, .idxSl 2 (.tmp 20) (.tmp 21), none⟩,
             ⟨some 23, .load true 2 (.tmp 22), none⟩,
             ⟨some 24, .eqA true [2, 0] (.tmp 19) (.tmp 23), none⟩] [0, 1, 12, 13, 24] [16, 17, 19, 20, 18, 21, 22, 23, 24]) <|
          .cond (.tmp 24)
            (.seq (.region [⟨some 4, .mv (.const (.bool false)), none⟩] [4] []) <|
            .ret)
            (.skip))) <|
       .region [⟨some 25, .bin .add (.tmp 13) (.const (.int .i64 (1))), none⟩,
         ⟨some 13, .mv (.tmp 25), none⟩] [0, 1, 12, 13] []))) <|
  .seq (.region [⟨some 4, .mv (.const (.bool true)), none⟩] [4] []) <|
  .ret
theorem Cd.slices_Equal___impl_Total_impl_Total__rs : Try.f72.results.toList = [.tmp 4] := rfl
theorem Cd.slices_Equal___impl_Total_impl_Total__nt : Try.f72.ntmps = 26 := rfl
theorem Cd.slices_Equal___impl_Total_impl_Total__ok : CodeIsR Try.prog 72 Try.f72 Cd.slices_Equal___impl_Total_impl_Total_ := ⟨Try.func72, by kernel_rfl, by decide +kernel⟩
/-- loop.example/g01012/laws.eqTotal -/
def Cd.laws_eqTotal : ACode :=
  .seq (.region [⟨some 2, .box (.tmp 0), none⟩,
     ⟨some 3, .box (.tmp 1), none⟩,
     ⟨some 4, .mv (.const (.bool false)), none⟩] [2, 3] []) <|
  .seq (.seq (.region [⟨some 5, .fieldAddr 0 (.tmp 2), none⟩,
      ⟨some 6, .load false 1 (.tmp 5), none⟩,
      ⟨some 7, .fieldAddr 0 (.tmp 3), none⟩,
      ⟨some 8, .load false 1 (.tmp 7), none⟩,
      ⟨some 9, .binS .neq (.tmp 6) (.tmp 8), none⟩] [2, 3, 9] []) <|
   .cond (.tmp 9)
     (.seq (.region [⟨some 4, .mv (.const (.bool false)), none⟩] [4] []) <|
     .ret)
     (.skip)) <|
  .seq (.seq (.region [⟨some 10, .fieldAddr 1 (.tmp 2), none⟩,
      ⟨some 11, .load false 1 (.tmp 10), none⟩,
      ⟨some 12, .fieldAddr 1 (.tmp 3), none⟩,
      ⟨some 13, .load false 1 (.tmp 12), none⟩,
      ⟨some 14, .bin .neq (.tmp 11) (.tmp 13), none⟩] [14] []) <|
   .cond (.tmp 14)
     (.seq (.region [⟨some 4, .mv (.const (.bool false)), none⟩] [4] []) <|
     .ret)
     (.skip)) <|
  .seq (.region [⟨some 4, .mv (.const (.bool true)), none⟩] [4] []) <|
  .ret
theorem Cd.laws_eqTotal_rs : Try.f73.results.toList = [.tmp 4] := rfl
theorem Cd.laws_eqTotal_nt : Try.f73.ntmps = 15 := rfl
theorem Cd.laws_eqTotal_ok : CodeIsR Try.prog 73 Try.f73 Cd.laws_eqTotal := ⟨Try.func73, by kernel_rfl, by decide +kernel⟩
/-- loop.example/g01012/spec.l00In -/
def Cd.spec_l00In : ACode :=
  .seq (.region [⟨some 6, .mv (.const (.bool false)), none⟩] [0, 1, 2] []) <|
  .seq (.region [⟨some 7, .mv (.tmp 0), none⟩,
     ⟨some 8, .mv (.tmp 1), none⟩,
     ⟨some 9, .bin .geq (.tmp 7) (.tmp 8), none⟩,
     ⟨some 10, .mv (.tmp 9), none⟩,
     ⟨some 11, .mv (.tmp 0), some (10, true)⟩,
     ⟨some 12, .mv (.tmp 2), some (10, true)⟩,
     ⟨some 13, .bin .leq (.tmp 11) (.tmp 12), some (10, true)⟩,
     ⟨some 14, .pick (.tmp 10) (.tmp 13) (.const (.bool false)), none⟩,
     ⟨some 6, .mv (.tmp 14), none⟩] [6] []) <|
  .ret
theorem Cd.spec_l00In_rs : Try.f74.results.toList = [.tmp 6] := rfl
theorem Cd.spec_l00In_nt : Try.f74.ntmps = 15 := rfl
theorem Cd.spec_l00In_ok : CodeIsR Try.prog 74 Try.f74 Cd.spec_l00In := ⟨Try.func74, by kernel_rfl, by decide +kernel⟩
/-- loop.example/g01012/spec.l16Ok DRAWS -/
def Cd.spec_l16Ok : ACode :=
  .seq (.region [⟨some 4, .mv (.const (.bool false)), none⟩] [0, 1] []) <|
  .seq (.seq (.region [⟨some 5, .mv (.tmp 0), none⟩,
      ⟨some 6, .nilc (.tmp 5), none⟩,
      ⟨some 7, .fieldAddr 3 (.tmp 6), none⟩,
      ⟨some 8, .load true 2 (.tmp 7), none⟩,
      ⟨some 9, .mv (.tmp 1), none⟩,
      ⟨some 10, .call (.func F.spec_l02Field) [(.tmp 8), (.tmp 9)] [], none⟩,
      ⟨some 11, .un .not (.tmp 10), none⟩,
      ⟨some 12, .mv (.tmp 11), none⟩,
      ⟨some 13, .mv (.tmp 0), some (12, false)⟩,
      ⟨some 14, .nilc (.tmp 13), some (12, false)⟩,
      ⟨some 15, .fieldAddr 5 (.tmp 14), some (12, false)⟩,
      ⟨some 16, .load true 2 (.tmp 15), some (12, false)⟩,
      ⟨some 17, .mv (.tmp 1), some (12, false)⟩,
      ⟨some 18, .call (.func F.spec_l02Field) [(.tmp 16), (.tmp 17)] [], some (12, false)⟩,
      ⟨some 19, .un .not (.tmp 18), some (12, false)⟩,
      ⟨some 20, .pick (.tmp 12) (.const (.bool true)) (.tmp 19), none⟩,
      ⟨some 21, .mv (.tmp 20), none⟩,
      ⟨some 22, .mv (.tmp 0), some (21, false)⟩,
      ⟨some 23, .nilc (.tmp 22), some (21, false)⟩,
      ⟨some 24, .fieldAddr 5 (.tmp 23), some (21, false)⟩,
      ⟨some 25, .fieldAddr 1 (.tmp 24), some (21, false)⟩,
      ⟨some 26, .load false 1 (.tmp 25), some (21, false)⟩,
      ⟨some 27, .mv (.tmp 0), some (21, false)⟩,
      ⟨some 28, .nilc (.tmp 27), some (21, false)⟩,
      ⟨some 29, .fieldAddr 5 (.tmp 28), some (21, false)⟩,
      ⟨some 30, .fieldAddr 0 (.tmp 29), some (21, false)⟩,
      ⟨some 31, .load false 1 (.tmp 30), some (21, false)⟩,
      ⟨some 32, .bin .sub (.tmp 26) (.tmp 31), some (21, false)⟩,
      ⟨some 33, .bin .gtr (.tmp 32) (.const (.int .i64 (12))), some (21, false)⟩,
      ⟨some 34, .pick (.tmp 21) (.const (.bool true)) (.tmp 33), none⟩] [0, 1, 34] [5, 7, 8, 6, 9, 10, 11, 12, 13, 14, 15, 16, 17, 18, 19, 20, 21, 22, 23, 24, 25, 26, 27, 28, 29, 30, 31, 32, 33, 34]) <|
   .cond (.tmp 34)
     (.seq (.region [⟨some 4, .mv (.const (.bool false)), none⟩] [4] []) <|
     .ret)
     (.skip)) <|
  .seq (.seq (.region [⟨some 35, .mv (.tmp 0), none⟩,
      ⟨some 36, .nilc (.tmp 35), none⟩,
      ⟨some 37, .fieldAddr 2 (.tmp 36), none⟩,
      ⟨some 38, .load false 1 (.tmp 37), none⟩,
      ⟨some 39, .binS .eql (.tmp 38) (.const (.string ⟨#[]⟩)), none⟩] [0, 1, 39] []) <|
   .cond (.tmp 39)
     (.seq (.region [⟨some 40, .mv (.tmp 0), none⟩,
        ⟨some 41, .nilc (.tmp 40), none⟩,
        ⟨some 42, .fieldAddr 0 (.tmp 41), none⟩,
        ⟨some 43, .load true 2 (.tmp 42), none⟩,
        ⟨some 44, .build [.v (.int .i64 (0)), .v (.int .i64 (0))] [], none⟩,
        ⟨some 45, .eqA false [0, 0] (.tmp 43) (.tmp 44), none⟩,
        ⟨some 4, .mv (.tmp 45), none⟩] [4] []) <|
     .ret)
     (.skip)) <|
  .seq (.region [⟨some 46, .mv (.tmp 0), none⟩,
     ⟨some 47, .nilc (.tmp 46), none⟩,
     ⟨some 48, .fieldAddr 0 (.tmp 47), none⟩,
     ⟨some 49, .load true 2 (.tmp 48), none⟩,
     ⟨some 50, .mv (.tmp 1), none⟩,
     ⟨some 51, .call (.func F.spec_l02Field) [(.tmp 49), (.tmp 50)] [], none⟩,
     ⟨some 52, .mv (.tmp 51), none⟩,
     ⟨some 53, .mv (.tmp 0), some (52, true)⟩,
     ⟨some 54, .nilc (.tmp 53), some (52, true)⟩,
     ⟨some 55, .fieldAddr 2 (.tmp 54), some (52, true)⟩,
     ⟨some 56, .load false 1 (.tmp 55), some (52, true)⟩,
     ⟨some 57, .mv (.tmp 0), some (52, true)⟩,
     ⟨some 58, .nilc (.tmp 57), some (52, true)⟩,
     ⟨some 59, .fieldAddr 0 (.tmp 58), some (52, true)⟩,
     ⟨some 60, .load true 2 (.tmp 59), some (52, true)⟩,
     ⟨some 61, .call (.func F.spec_l09Text) [(.tmp 56), (.tmp 60)] [], some (52, true)⟩,
     ⟨some 62, .bin .eql (.tmp 61) (.const (.int .i64 (0))), some (52, true)⟩,
     ⟨some 63, .pick (.tmp 52) (.tmp 62) (.const (.bool false)), none⟩,
     ⟨some 4, .mv (.tmp 63), none⟩] [4] [46, 48, 49, 47, 50, 51, 52, 53, 54, 55, 56, 57, 58, 59, 60, 61, 62, 63]) <|
  .ret
theorem Cd.spec_l16Ok_rs : Try.f75.results.toList = [.tmp 4] := rfl
theorem Cd.spec_l16Ok_nt : Try.f75.ntmps = 64 := rfl
theorem Cd.spec_l16Ok_ok : CodeIsR Try.prog 75 Try.f75 Cd.spec_l16Ok := ⟨Try.func75, by kernel_rfl, by decide +kernel⟩
/-- loop.example/g01012/laws.toField -/
def Cd.laws_toField : ACode :=
  .seq (.region [⟨some 1, .box (.tmp 0), none⟩,
     ⟨some 2, .alloc [.v (.int .i64 (0)), .v (.int .i64 (0))], none⟩] [1, 2] []) <|
  .seq (.region [⟨some 3, .alloc [.v (.int .i64 (0)), .v (.int .i64 (0))], none⟩] [1, 2, 3] []) <|
  .seq (.region [⟨some 4, .fieldAddr 0 (.tmp 1), none⟩,
     ⟨some 5, .load false 1 (.tmp 4), none⟩,
     ⟨some 6, .fieldAddr 0 (.tmp 3), none⟩,
     ⟨none, .store 1 (.tmp 6) (.tmp 5), none⟩] [1, 2, 3] []) <|
  .seq (.region [⟨some 7, .fieldAddr 1 (.tmp 1), none⟩,
     ⟨some 8, .load false 1 (.tmp 7), none⟩,
     ⟨some 9, .fieldAddr 1 (.tmp 3), none⟩,
     ⟨none, .store 1 (.tmp 9) (.tmp 8), none⟩] [2, 3] []) <|
  .seq (.region [⟨some 10, .load true 2 (.tmp 3), none⟩,
     ⟨none, .store 2 (.tmp 2) (.tmp 10), none⟩] [2] []) <|
  .ret
theorem Cd.laws_toField_rs : Try.f76.results.toList = [.cell 2 42] := rfl
theorem Cd.laws_toField_nt : Try.f76.ntmps = 11 := rfl
theorem Cd.laws_toField_ok : CodeIsR Try.prog 76 Try.f76 Cd.laws_toField := ⟨Try.func76, by kernel_rfl, by decide +kernel⟩
/-- loop.example/g01012/impl.inside -/
def Cd.impl_inside : ACode :=
  .seq (.region [⟨some 6, .mv (.const (.bool false)), none⟩] [0, 1, 2] []) <|
  .seq (.region [⟨some 7, .mv (.tmp 0), none⟩,
     ⟨some 8, .mv (.tmp 1), none⟩,
     ⟨some 9, .bin .geq (.tmp 7) (.tmp 8), none⟩,
     ⟨some 10, .mv (.tmp 9), none⟩,
     ⟨some 11, .mv (.tmp 0), some (10, true)⟩,
     ⟨some 12, .mv (.tmp 2), some (10, true)⟩,
     ⟨some 13, .bin .leq (.tmp 11) (.tmp 12), some (10, true)⟩,
     ⟨some 14, .pick (.tmp 10) (.tmp 13) (.const (.bool false)), none⟩,
     ⟨some 6, .mv (.tmp 14), none⟩] [6] []) <|
  .ret
theorem Cd.impl_inside_rs : Try.f77.results.toList = [.tmp 6] := rfl
theorem Cd.impl_inside_nt : Try.f77.ntmps = 15 := rfl
theorem Cd.impl_inside_ok : CodeIsR Try.prog 77 Try.f77 Cd.impl_inside := ⟨Try.func77, by kernel_rfl, by decide +kernel⟩
/-- loop.example/g01012/impl.isField -/
def Cd.impl_isField : ACode :=
  .seq (.region [⟨some 2, .box (.tmp 0), none⟩,
     ⟨some 4, .mv (.const (.bool false)), none⟩] [1, 2] []) <|
  .seq (.region [⟨some 5, .fieldAddr 0 (.tmp 2), none⟩,
     ⟨some 6, .load false 1 (.tmp 5), none⟩,
     ⟨some 7, .bin .leq (.const (.int .i64 (0))) (.tmp 6), none⟩,
     ⟨some 8, .mv (.tmp 7), none⟩,
     ⟨some 9, .fieldAddr 0 (.tmp 2), some (8, true)⟩,
     ⟨some 10, .load false 1 (.tmp 9), some (8, true)⟩,
     ⟨some 11, .fieldAddr 1 (.tmp 2), some (8, true)⟩,
     ⟨some 12, .load false 1 (.tmp 11), some (8, true)⟩,
     ⟨some 13, .bin .lss (.tmp 10) (.tmp 12), some (8, true)⟩,
     ⟨some 14, .pick (.tmp 8) (.tmp 13) (.const (.bool false)), none⟩,
     ⟨some 15, .mv (.tmp 14), none⟩,
     ⟨some 16, .fieldAddr 1 (.tmp 2), some (15, true)⟩,
     ⟨some 17, .load false 1 (.tmp 16), some (15, true)⟩,
     ⟨some 18, .mv (.tmp 1), some (15, true)⟩,
     ⟨some 19, .bin .leq (.tmp 17) (.tmp 18), some (15, true)⟩,
     ⟨some 20, .pick (.tmp 15) (.tmp 19) (.const (.bool false)), none⟩,
     ⟨some 4, .mv (.tmp 20), none⟩] [4] []) <|
  .ret
theorem Cd.impl_isField_rs : Try.f78.results.toList = [.tmp 4] := rfl
theorem Cd.impl_isField_nt : Try.f78.ntmps = 21 := rfl
theorem Cd.impl_isField_ok : CodeIsR Try.prog 78 Try.f78 Cd.impl_isField := ⟨Try.func78, by kernel_rfl, by decide +kernel⟩
/-- loop.example/g01012/impl.isNumberField -/
def Cd.impl_isNumberField : ACode :=
  .seq (.region [⟨some 2, .box (.tmp 0), none⟩,
     ⟨some 4, .mv (.const (.bool false)), none⟩] [1, 2] []) <|
  .seq (.region [⟨some 5, .load true 2 (.tmp 2), none⟩,
     ⟨some 6, .mv (.tmp 1), none⟩,
     ⟨some 7, .call (.func F.impl_isField) [(.tmp 5), (.tmp 6)] [], none⟩,
     ⟨some 8, .mv (.tmp 7), none⟩,
     ⟨some 9, .fieldAddr 1 (.tmp 2), some (8, true)⟩,
     ⟨some 10, .load false 1 (.tmp 9), some (8, true)⟩,
     ⟨some 11, .fieldAddr 0 (.tmp 2), some (8, true)⟩,
     ⟨some 12, .load false 1 (.tmp 11), some (8, true)⟩,
     ⟨some 13, .bin .sub (.tmp 10) (.tmp 12), some (8, true)⟩,
     ⟨some 14, .bin .leq (.tmp 13) (.const (.int .i64 (12))), some (8, true)⟩,
     ⟨some 15, .pick (.tmp 8) (.tmp 14) (.const (.bool false)), none⟩,
     ⟨some 4, .mv (.tmp 15), none⟩] [4] []) <|
  .ret
theorem Cd.impl_isNumberField_rs : Try.f79.results.toList = [.tmp 4] := rfl
theorem Cd.impl_isNumberField_nt : Try.f79.ntmps = 16 := rfl
theorem Cd.impl_isNumberField_ok : CodeIsR Try.prog 79 Try.f79 Cd.impl_isNumberField := ⟨Try.func79, by kernel_rfl, by decide +kernel⟩
/-- loop.example/g01012/impl.areCharacters -/
def Cd.impl_areCharacters : ACode :=
  .seq (.region [⟨some 2, .mv (.const (.bool false)), none⟩] [0] []) <|
  .seq (.seq (.region [⟨some 3, .mv (.const (.int .i64 (0))), none⟩] [0, 3] []) <|
   .block 0 (
     .loop (
       .seq (.seq (.region [⟨some 4, .mv (.tmp 3), none⟩,
           ⟨some 5, .mv (.tmp 0), none⟩,
           ⟨some 6, .lenS (.tmp 5), none⟩,
           ⟨some 7, .bin .lss (.tmp 4) (.tmp 6), none⟩] [0, 3, 7] []) <|
        .cond (.tmp 7)
          (.skip)
          (.exit 0)) <|
       .seq (.block 1 (
          .seq (.region [⟨some 10, .mv (.tmp 0), none⟩,
             ⟨some 11, .mv (.tmp 3), none⟩,
             ⟨some 12, .idxStr (.tmp 10) (.tmp 11), none⟩,
             ⟨some 13, .call (.func F.impl_isCharacter) [(.tmp 12)] [], none⟩,
             ⟨some 14, .un .not (.tmp 13), none⟩] [0, 3, 14] []) <|
          .cond (.tmp 14)
            (.seq (.region [⟨some 2, .mv (.const (.bool false)), none⟩] [2] []) <|
            .ret)
            (.skip))) <|
       .region [⟨some 8, .mv (.tmp 3), none⟩,
         ⟨some 9, .bin .add (.tmp 8) (.const (.int .i64 (1))), none⟩,
         ⟨some 3, .mv (.tmp 9), none⟩] [0, 3] []))) <|
  .seq (.region [⟨some 2, .mv (.const (.bool true)), none⟩] [2] []) <|
  .ret
theorem Cd.impl_areCharacters_rs : Try.f80.results.toList = [.tmp 2] := rfl
theorem Cd.impl_areCharacters_nt : Try.f80.ntmps = 15 := rfl
theorem Cd.impl_areCharacters_ok : CodeIsR Try.prog 80 Try.f80 Cd.impl_areCharacters := ⟨Try.func80, by kernel_rfl, by decide +kernel⟩
/-- slices.Equal[[]loop.example/g01012/impl.Step,loop.example/g01012/impl.Step] DRAWS -/
def Cd.slices_Equal___impl_Step_impl_Step_ : ACode :=
  .seq (.region [⟨some 4, .mv (.const (.bool false)), none⟩] [0, 1] []) <|
  .seq (.seq (.region [⟨some 6, .mv (.tmp 0), none⟩,
      ⟨some 7, .len (.tmp 6), none⟩,
      ⟨some 8, .mv (.tmp 1), none⟩,
      ⟨some 9, .len (.tmp 8), none⟩,
      ⟨some 10, .bin .neq (.tmp 7) (.tmp 9), none⟩] [0, 1, 10] []) <|
   .cond (.tmp 10)
     (.seq (.region [⟨some 4, .mv (.const (.bool false)), none⟩] [4] []) <|
     .ret)
     (.skip)) <|
  .seq (.seq (.region [⟨some 11, .mv (.tmp 0), none⟩,
      ⟨some 12, .len (.tmp 11), none⟩,
      ⟨some 13, .mv (.const (.int .i64 (0))), none⟩] [0, 1, 12, 13] []) <|
   .block 0 (
     .loop (
       .seq (.region [⟨some 14, .bin .lss (.tmp 13) (.tmp 12), none⟩] [0, 1, 12, 13, 14] []) <|
       .seq (.cond (.tmp 14)
          (.skip)
          (.exit 0)) <|
       .seq (.block 1 (
          .seq (.region [⟨some 15, .mv (.tmp 13), none⟩,
             ⟨some 5, .mv (.tmp 15), none⟩] [0, 1, 5, 12, 13] []) <|
          .seq (.region [⟨some 16, .mv (.tmp 0), none⟩,
             ⟨some 17, .mv (.tmp 5), none⟩,
             ⟨some 18, .idxSl 9 (.tmp 16) (.tmp 17), none⟩,
             ⟨some 19, .load true 9 (.tmp 18), none⟩,
             ⟨some 20, .mv (.tmp 1), none⟩,
             ⟨some 21, .mv (.tmp 5), none⟩,
             ⟨some 22, .idxSl 9 (.tmp 20) (.tmp 21), none⟩,
             ⟨some 23, .load true 9 (.tmp 22), none⟩,
             ⟨some 24, .eqA true [0, 0, 0, 0, 0, 0, 0, 0, 2] (.tmp 19) (.tmp 23), none⟩] [0, 1, 12, 13, 24] [16, 17, 19, 20, 18, 21, 22, 23, 24]) <|
          .cond (.tmp 24)
            (.seq (.region [⟨some 4, .mv (.const (.bool false)), none⟩] [4] []) <|
            .ret)
            (.skip))) <|
       .region [⟨some 25, .bin .add (.tmp 13) (.const (.int .i64 (1))), none⟩,
         ⟨some 13, .mv (.tmp 25), none⟩] [0, 1, 12, 13] []))) <|
  .seq (.region [⟨some 4, .mv (.const (.bool true)), none⟩] [4] []) <|
  .ret
theorem Cd.slices_Equal___impl_Step_impl_Step__rs : Try.f81.results.toList = [.tmp 4] := rfl
theorem Cd.slices_Equal___impl_Step_impl_Step__nt : Try.f81.ntmps = 26 := rfl
theorem Cd.slices_Equal___impl_Step_impl_Step__ok : CodeIsR Try.prog 81 Try.f81 Cd.slices_Equal___impl_Step_impl_Step_ := ⟨Try.func81, by kernel_rfl, by decide +kernel⟩
/-- loop.example/g01012/laws.eqStep -/
def Cd.laws_eqStep : ACode :=
  .seq (.region [⟨some 2, .box (.tmp 0), none⟩,
     ⟨some 3, .box (.tmp 1), none⟩,
     ⟨some 4, .mv (.const (.bool false)), none⟩] [2, 3] []) <|
  .seq (.seq (.region [⟨some 5, .fieldAddr 0 (.tmp 2), none⟩,
      ⟨some 6, .load false 1 (.tmp 5), none⟩,
      ⟨some 7, .fieldAddr 0 (.tmp 3), none⟩,
      ⟨some 8, .load false 1 (.tmp 7), none⟩,
      ⟨some 9, .bin .neq (.tmp 6) (.tmp 8), none⟩] [2, 3, 9] []) <|
   .cond (.tmp 9)
     (.seq (.region [⟨some 4, .mv (.const (.bool false)), none⟩] [4] []) <|
     .ret)
     (.skip)) <|
  .seq (.seq (.region [⟨some 10, .fieldAddr 1 (.tmp 2), none⟩,
      ⟨some 11, .load false 1 (.tmp 10), none⟩,
      ⟨some 12, .fieldAddr 1 (.tmp 3), none⟩,
      ⟨some 13, .load false 1 (.tmp 12), none⟩,
      ⟨some 14, .bin .neq (.tmp 11) (.tmp 13), none⟩] [2, 3, 14] []) <|
   .cond (.tmp 14)
     (.seq (.region [⟨some 4, .mv (.const (.bool false)), none⟩] [4] []) <|
     .ret)
     (.skip)) <|
  .seq (.seq (.region [⟨some 15, .fieldAddr 2 (.tmp 2), none⟩,
      ⟨some 16, .load false 1 (.tmp 15), none⟩,
      ⟨some 17, .fieldAddr 2 (.tmp 3), none⟩,
      ⟨some 18, .load false 1 (.tmp 17), none⟩,
      ⟨some 19, .bin .neq (.tmp 16) (.tmp 18), none⟩] [2, 3, 19] []) <|
   .cond (.tmp 19)
     (.seq (.region [⟨some 4, .mv (.const (.bool false)), none⟩] [4] []) <|
     .ret)
     (.skip)) <|
  .seq (.seq (.region [⟨some 20, .fieldAddr 3 (.tmp 2), none⟩,
      ⟨some 21, .load false 1 (.tmp 20), none⟩,
      ⟨some 22, .fieldAddr 3 (.tmp 3), none⟩,
      ⟨some 23, .load false 1 (.tmp 22), none⟩,
      ⟨some 24, .bin .neq (.tmp 21) (.tmp 23), none⟩] [2, 3, 24] []) <|
   .cond (.tmp 24)
     (.seq (.region [⟨some 4, .mv (.const (.bool false)), none⟩] [4] []) <|
     .ret)
     (.skip)) <|
  .seq (.seq (.region [⟨some 25, .fieldAddr 4 (.tmp 2), none⟩,
      ⟨some 26, .load true 2 (.tmp 25), none⟩,
      ⟨some 27, .fieldAddr 4 (.tmp 3), none⟩,
      ⟨some 28, .load true 2 (.tmp 27), none⟩,
      ⟨some 29, .call (.func F.laws_eqField) [(.tmp 26), (.tmp 28)] [], none⟩,
      ⟨some 30, .un .not (.tmp 29), none⟩] [2, 3, 30] []) <|
   .cond (.tmp 30)
     (.seq (.region [⟨some 4, .mv (.const (.bool false)), none⟩] [4] []) <|
     .ret)
     (.skip)) <|
  .seq (.seq (.region [⟨some 31, .fieldAddr 6 (.tmp 2), none⟩,
      ⟨some 32, .load true 2 (.tmp 31), none⟩,
      ⟨some 33, .fieldAddr 6 (.tmp 3), none⟩,
      ⟨some 34, .load true 2 (.tmp 33), none⟩,
      ⟨some 35, .call (.func F.laws_eqField) [(.tmp 32), (.tmp 34)] [], none⟩,
      ⟨some 36, .un .not (.tmp 35), none⟩] [2, 3, 36] []) <|
   .cond (.tmp 36)
     (.seq (.region [⟨some 4, .mv (.const (.bool false)), none⟩] [4] []) <|
     .ret)
     (.skip)) <|
  .seq (.seq (.region [⟨some 37, .fieldAddr 8 (.tmp 2), none⟩,
      ⟨some 38, .load false 1 (.tmp 37), none⟩,
      ⟨some 39, .fieldAddr 8 (.tmp 3), none⟩,
      ⟨some 40, .load false 1 (.tmp 39), none⟩,
      ⟨some 41, .binS .neq (.tmp 38) (.tmp 40), none⟩] [41] []) <|
   .cond (.tmp 41)
     (.seq (.region [⟨some 4, .mv (.const (.bool false)), none⟩] [4] []) <|
     .ret)
     (.skip)) <|
  .seq (.region [⟨some 4, .mv (.const (.bool true)), none⟩] [4] []) <|
  .ret
theorem Cd.laws_eqStep_rs : Try.f82.results.toList = [.tmp 4] := rfl
theorem Cd.laws_eqStep_nt : Try.f82.ntmps = 42 := rfl
theorem Cd.laws_eqStep_ok : CodeIsR Try.prog 82 Try.f82 Cd.laws_eqStep := ⟨Try.func82, by kernel_rfl, by decide +kernel⟩
/-- loop.example/g01012/spec.l15Step DRAWS -/
def Cd.spec_l15Step : ACode :=
  .seq (.region [⟨some 4, .mv (.const (.bool false)), none⟩] [0, 1] []) <|
  .seq (.seq (.region [⟨some 5, .mv (.tmp 0), none⟩,
      ⟨some 6, .nilc (.tmp 5), none⟩,
      ⟨some 7, .fieldAddr 0 (.tmp 6), none⟩,
      ⟨some 8, .load false 1 (.tmp 7), none⟩,
      ⟨some 9, .call (.func F.spec_l00In) [(.tmp 8), (.const (.int .i64 (1))), (.const (.int .i64 (7)))] [], none⟩,
      ⟨some 10, .un .not (.tmp 9), none⟩,
      ⟨some 11, .mv (.tmp 10), none⟩,
      ⟨some 12, .mv (.tmp 0), some (11, false)⟩,
      ⟨some 13, .nilc (.tmp 12), some (11, false)⟩,
      ⟨some 14, .fieldAddr 1 (.tmp 13), some (11, false)⟩,
      ⟨some 15, .load false 1 (.tmp 14), some (11, false)⟩,
      ⟨some 16, .call (.func F.spec_l15Tray) [(.tmp 15)] [], some (11, false)⟩,
      ⟨some 17, .un .not (.tmp 16), some (11, false)⟩,
      ⟨some 18, .pick (.tmp 11) (.const (.bool true)) (.tmp 17), none⟩,
      ⟨some 19, .mv (.tmp 18), none⟩,
      ⟨some 20, .mv (.tmp 0), some (19, false)⟩,
      ⟨some 21, .nilc (.tmp 20), some (19, false)⟩,
      ⟨some 22, .fieldAddr 2 (.tmp 21), some (19, false)⟩,
      ⟨some 23, .load false 1 (.tmp 22), some (19, false)⟩,
      ⟨some 24, .call (.func F.spec_l15Tray) [(.tmp 23)] [], some (19, false)⟩,
      ⟨some 25, .un .not (.tmp 24), some (19, false)⟩,
      ⟨some 26, .pick (.tmp 19) (.const (.bool true)) (.tmp 25), none⟩,
      ⟨some 27, .mv (.tmp 26), none⟩,
      ⟨some 28, .mv (.tmp 0), some (27, false)⟩,
      ⟨some 29, .nilc (.tmp 28), some (27, false)⟩,
      ⟨some 30, .fieldAddr 3 (.tmp 29), some (27, false)⟩,
      ⟨some 31, .load false 1 (.tmp 30), some (27, false)⟩,
      ⟨some 32, .call (.func F.spec_l15Tray) [(.tmp 31)] [], some (27, false)⟩,
      ⟨some 33, .un .not (.tmp 32), some (27, false)⟩,
      ⟨some 34, .pick (.tmp 27) (.const (.bool true)) (.tmp 33), none⟩,
      ⟨some 35, .mv (.tmp 34), none⟩,
      ⟨some 36, .mv (.tmp 0), some (35, false)⟩,
      ⟨some 37, .nilc (.tmp 36), some (35, false)⟩,
      ⟨some 38, .fieldAddr 4 (.tmp 37), some (35, false)⟩,
      ⟨some 39, .load true 2 (.tmp 38), some (35, false)⟩,
      ⟨some 40, .mv (.tmp 1), some (35, false)⟩,
      ⟨some 41, .call (.func F.spec_l02Field) [(.tmp 39), (.tmp 40)] [], some (35, false)⟩,
      ⟨some 42, .un .not (.tmp 41), some (35, false)⟩,
      ⟨some 43, .pick (.tmp 35) (.const (.bool true)) (.tmp 42), none⟩] [0, 1, 43] []) <|
   .cond (.tmp 43)
     (.seq (.region [⟨some 4, .mv (.const (.bool false)), none⟩] [4] []) <|
     .ret)
     (.skip)) <|
  .seq (.seq (.region [⟨some 44, .mv (.tmp 0), none⟩,
      ⟨some 45, .nilc (.tmp 44), none⟩,
      ⟨some 46, .fieldAddr 2 (.tmp 45), none⟩,
      ⟨some 47, .load false 1 (.tmp 46), none⟩,
      ⟨some 48, .bin .neq (.tmp 47) (.const (.int .i64 (0))), none⟩,
      ⟨some 49, .mv (.tmp 48), none⟩,
      ⟨some 50, .mv (.tmp 0), some (49, true)⟩,
      ⟨some 51, .nilc (.tmp 50), some (49, true)⟩,
      ⟨some 52, .fieldAddr 0 (.tmp 51), some (49, true)⟩,
      ⟨some 53, .load false 1 (.tmp 52), some (49, true)⟩,
      ⟨some 54, .call (.func F.spec_l15Both) [(.tmp 53)] [], some (49, true)⟩,
      ⟨some 55, .un .not (.tmp 54), some (49, true)⟩,
      ⟨some 56, .pick (.tmp 49) (.tmp 55) (.const (.bool false)), none⟩] [0, 1, 56] []) <|
   .cond (.tmp 56)
     (.seq (.region [⟨some 4, .mv (.const (.bool false)), none⟩] [4] []) <|
     .ret)
     (.skip)) <|
  .seq (.seq (.region [⟨some 57, .mv (.tmp 0), none⟩,
      ⟨some 58, .nilc (.tmp 57), none⟩,
      ⟨some 59, .fieldAddr 0 (.tmp 58), none⟩,
      ⟨some 60, .load false 1 (.tmp 59), none⟩,
      ⟨some 61, .bin .eql (.tmp 60) (.const (.int .i64 (7))), none⟩] [0, 1, 61] []) <|
   .cond (.tmp 61)
     (.seq (.region [⟨some 62, .mv (.tmp 0), none⟩,
        ⟨some 63, .nilc (.tmp 62), none⟩,
        ⟨some 64, .fieldAddr 3 (.tmp 63), none⟩,
        ⟨some 65, .load false 1 (.tmp 64), none⟩,
        ⟨some 66, .bin .eql (.tmp 65) (.const (.int .i64 (0))), none⟩,
        ⟨some 67, .mv (.tmp 66), none⟩,
        ⟨some 68, .mv (.tmp 0), some (67, true)⟩,
        ⟨some 69, .nilc (.tmp 68), some (67, true)⟩,
        ⟨some 70, .fieldAddr 6 (.tmp 69), some (67, true)⟩,
        ⟨some 71, .load true 2 (.tmp 70), some (67, true)⟩,
        ⟨some 72, .mv (.tmp 1), some (67, true)⟩,
        ⟨some 73, .call (.func F.spec_l02Field) [(.tmp 71), (.tmp 72)] [], some (67, true)⟩,
        ⟨some 74, .pick (.tmp 67) (.tmp 73) (.const (.bool false)), none⟩,
        ⟨some 75, .mv (.tmp 74), none⟩,
        ⟨some 76, .mv (.tmp 0), some (75, true)⟩,
        ⟨some 77, .nilc (.tmp 76), some (75, true)⟩,
        ⟨some 78, .fieldAddr 6 (.tmp 77), some (75, true)⟩,
        ⟨some 79, .fieldAddr 1 (.tmp 78), some (75, true)⟩,
        ⟨some 80, .load false 1 (.tmp 79), some (75, true)⟩,
        ⟨some 81, .mv (.tmp 0), some (75, true)⟩,
        ⟨some 82, .nilc (.tmp 81), some (75, true)⟩,
        ⟨some 83, .fieldAddr 6 (.tmp 82), some (75, true)⟩,
        ⟨some 84, .fieldAddr 0 (.tmp 83), some (75, true)⟩,
        ⟨some 85, .load false 1 (.tmp 84), some (75, true)⟩,
        ⟨some 86, .bin .sub (.tmp 80) (.tmp 85), some (75, true)⟩,
        ⟨some 87, .bin .leq (.tmp 86) (.const (.int .i64 (12))), some (75, true)⟩,
        ⟨some 88, .pick (.tmp 75) (.tmp 87) (.const (.bool false)), none⟩,
        ⟨some 89, .mv (.tmp 88), none⟩,
        ⟨some 90, .mv (.tmp 0), some (89, true)⟩,
        ⟨some 91, .nilc (.tmp 90), some (89, true)⟩,
        ⟨some 92, .fieldAddr 8 (.tmp 91), some (89, true)⟩,
        ⟨some 93, .load false 1 (.tmp 92), some (89, true)⟩,
        ⟨some 94, .binS .eql (.tmp 93) (.const (.string ⟨#[]⟩)), some (89, true)⟩,
        ⟨some 95, .pick (.tmp 89) (.tmp 94) (.const (.bool false)), none⟩,
        ⟨some 4, .mv (.tmp 95), none⟩] [4] [62, 64, 65, 63, 66, 67, 68, 69, 70, 71, 72, 73, 74, 75, 76, 77, 78, 79, 80, 81, 82, 83, 84, 85, 86, 87, 88, 89, 90, 91, 92, 93, 94, 95]) <|
     .ret)
     (.skip)) <|
  .seq (.seq (.region [⟨some 96, .mv (.tmp 0), none⟩,
      ⟨some 97, .nilc (.tmp 96), none⟩,
      ⟨some 98, .fieldAddr 6 (.tmp 97), none⟩,
      ⟨some 99, .load true 2 (.tmp 98), none⟩,
      ⟨some 100, .build [.v (.int .i64 (0)), .v (.int .i64 (0))] [], none⟩,
      ⟨some 101, .eqA true [0, 0] (.tmp 99) (.tmp 100), none⟩] [0, 101] []) <|
   .cond (.tmp 101)
     (.seq (.region [⟨some 4, .mv (.const (.bool false)), none⟩] [4] []) <|
     .ret)
     (.skip)) <|
  .seq (.seq (.region [⟨some 102, .mv (.tmp 0), none⟩,
      ⟨some 103, .nilc (.tmp 102), none⟩,
      ⟨some 104, .fieldAddr 0 (.tmp 103), none⟩,
      ⟨some 105, .load false 1 (.tmp 104), none⟩,
      ⟨some 106, .bin .eql (.tmp 105) (.const (.int .i64 (5))), none⟩] [0, 106] []) <|
   .cond (.tmp 106)
     (.seq (.region [⟨some 107, .mv (.tmp 0), none⟩,
        ⟨some 108, .nilc (.tmp 107), none⟩,
        ⟨some 109, .fieldAddr 8 (.tmp 108), none⟩,
        ⟨some 110, .load false 1 (.tmp 109), none⟩,
        ⟨some 111, .mv (.tmp 0), none⟩,
        ⟨some 112, .nilc (.tmp 111), none⟩,
        ⟨some 113, .fieldAddr 4 (.tmp 112), none⟩,
        ⟨some 114, .load true 2 (.tmp 113), none⟩,
        ⟨some 115, .call (.func F.spec_l09Text) [(.tmp 110), (.tmp 114)] [], none⟩,
        ⟨some 116, .bin .eql (.tmp 115) (.const (.int .i64 (0))), none⟩,
        ⟨some 4, .mv (.tmp 116), none⟩] [4] [107, 109, 110, 108, 111, 112, 113, 114, 115, 116]) <|
     .ret)
     (.skip)) <|
  .seq (.region [⟨some 117, .mv (.tmp 0), none⟩,
     ⟨some 118, .nilc (.tmp 117), none⟩,
     ⟨some 119, .fieldAddr 8 (.tmp 118), none⟩,
     ⟨some 120, .load false 1 (.tmp 119), none⟩,
     ⟨some 121, .binS .eql (.tmp 120) (.const (.string ⟨#[]⟩)), none⟩,
     ⟨some 4, .mv (.tmp 121), none⟩] [4] []) <|
  .ret
theorem Cd.spec_l15Step_rs : Try.f83.results.toList = [.tmp 4] := rfl
theorem Cd.spec_l15Step_nt : Try.f83.ntmps = 122 := rfl
theorem Cd.spec_l15Step_ok : CodeIsR Try.prog 83 Try.f83 Cd.spec_l15Step := ⟨Try.func83, by kernel_rfl, by decide +kernel⟩
/-- loop.example/g01012/impl.isTray -/
def Cd.impl_isTray : ACode :=
  .seq (.region [⟨some 2, .mv (.const (.bool false)), none⟩] [0] []) <|
  .seq (.region [⟨some 3, .mv (.tmp 0), none⟩,
     ⟨some 4, .call (.func F.impl_inside) [(.tmp 3), (.const (.int .i64 (0))), (.const (.int .i64 (5)))] [], none⟩,
     ⟨some 2, .mv (.tmp 4), none⟩] [2] []) <|
  .ret
theorem Cd.impl_isTray_rs : Try.f84.results.toList = [.tmp 2] := rfl
theorem Cd.impl_isTray_nt : Try.f84.ntmps = 5 := rfl
theorem Cd.impl_isTray_ok : CodeIsR Try.prog 84 Try.f84 Cd.impl_isTray := ⟨Try.func84, by kernel_rfl, by decide +kernel⟩
/-- loop.example/g01012/impl.takesTwo -/
def Cd.impl_takesTwo : ACode :=
  .seq (.region [⟨some 2, .mv (.const (.bool false)), none⟩] [0] []) <|
  .seq (.region [⟨some 3, .mv (.tmp 0), none⟩,
     ⟨some 4, .call (.func F.impl_inside) [(.tmp 3), (.const (.int .i64 (2))), (.const (.int .i64 (4)))] [], none⟩,
     ⟨some 2, .mv (.tmp 4), none⟩] [2] []) <|
  .ret
theorem Cd.impl_takesTwo_rs : Try.f85.results.toList = [.tmp 2] := rfl
theorem Cd.impl_takesTwo_nt : Try.f85.ntmps = 5 := rfl
theorem Cd.impl_takesTwo_ok : CodeIsR Try.prog 85 Try.f85 Cd.impl_takesTwo := ⟨Try.func85, by kernel_rfl, by decide +kernel⟩
/-- loop.example/g01012/spec.l15Flow -/
def Cd.spec_l15Flow : ACode :=
  .seq (.region [⟨some 4, .mv (.const (.bool false)), none⟩] [0, 1] []) <|
  .seq (.seq (.region [⟨some 5, .mv (.const (.int .i64 (0))), none⟩] [0, 1, 5] []) <|
   .block 0 (
     .loop (
       .seq (.seq (.region [⟨some 6, .mv (.tmp 5), none⟩,
           ⟨some 7, .mv (.tmp 0), none⟩,
           ⟨some 8, .len (.tmp 7), none⟩,
           ⟨some 9, .bin .lss (.tmp 6) (.tmp 8), none⟩] [0, 1, 5, 9] []) <|
        .cond (.tmp 9)
          (.skip)
          (.exit 0)) <|
       .seq (.block 1 (
          .seq (.region [⟨some 12, .mv (.tmp 0), none⟩,
             ⟨some 13, .mv (.tmp 5), none⟩,
             ⟨some 14, .idxSl 9 (.tmp 12) (.tmp 13), none⟩,
             ⟨some 15, .mv (.tmp 1), none⟩,
             ⟨some 16, .call (.func F.spec_l15Step) [(.tmp 14), (.tmp 15)] [], none⟩,
             ⟨some 17, .un .not (.tmp 16), none⟩] [0, 1, 5, 17] []) <|
          .cond (.tmp 17)
            (.seq (.region [⟨some 4, .mv (.const (.bool false)), none⟩] [4] []) <|
            .ret)
            (.skip))) <|
       .region [⟨some 10, .mv (.tmp 5), none⟩,
         ⟨some 11, .bin .add (.tmp 10) (.const (.int .i64 (1))), none⟩,
         ⟨some 5, .mv (.tmp 11), none⟩] [0, 1, 5] []))) <|
  .seq (.region [⟨some 18, .mv (.tmp 0), none⟩,
     ⟨some 19, .len (.tmp 18), none⟩,
     ⟨some 20, .bin .leq (.tmp 19) (.const (.int .i64 (20))), none⟩,
     ⟨some 4, .mv (.tmp 20), none⟩] [4] []) <|
  .ret
theorem Cd.spec_l15Flow_rs : Try.f100.results.toList = [.tmp 4] := rfl
theorem Cd.spec_l15Flow_nt : Try.f100.ntmps = 21 := rfl
theorem Cd.spec_l15Flow_ok : CodeIsR Try.prog 100 Try.f100 Cd.spec_l15Flow := ⟨Try.func100, by kernel_rfl, by decide +kernel⟩
/-- slices.ContainsFunc[[]loop.example/g01012/impl.Step,loop.example/g01012/impl.Step] -/
def Cd.slices_ContainsFunc___impl_Step_impl_Step_ : ACode :=
  .seq (.region [⟨some 4, .mv (.const (.bool false)), none⟩] [0, 1] []) <|
  .seq (.region [⟨some 5, .mv (.tmp 0), none⟩,
     ⟨some 6, .mv (.tmp 1), none⟩,
     ⟨some 7, .call (.func F.slices_IndexFunc___impl_Step_impl_Step_) [(.tmp 5), (.tmp 6)] [], none⟩,
     ⟨some 8, .bin .geq (.tmp 7) (.const (.int .i64 (0))), none⟩,
     ⟨some 4, .mv (.tmp 8), none⟩] [4] []) <|
  .ret
theorem Cd.slices_ContainsFunc___impl_Step_impl_Step__rs : Try.f101.results.toList = [.tmp 4] := rfl
theorem Cd.slices_ContainsFunc___impl_Step_impl_Step__nt : Try.f101.ntmps = 9 := rfl
theorem Cd.slices_ContainsFunc___impl_Step_impl_Step__ok : CodeIsR Try.prog 101 Try.f101 Cd.slices_ContainsFunc___impl_Step_impl_Step_ := ⟨Try.func101, by kernel_rfl, by decide +kernel⟩
/-- loop.example/g01012/impl.ValidFlow$1 -/
def Cd.impl_ValidFlow_1 : ACode :=
  .seq (.region [⟨some 2, .box (.tmp 0), none⟩,
     ⟨some 3, .mv (.const (.bool false)), none⟩] [1, 2] []) <|
  .seq (.region [⟨some 4, .load true 9 (.tmp 2), none⟩,
     ⟨some 5, .load false 1 (.tmp 1), none⟩,
     ⟨some 6, .call (.func F.impl_ValidStep) [(.tmp 4), (.tmp 5)] [], none⟩,
     ⟨some 7, .un .not (.tmp 6), none⟩,
     ⟨some 3, .mv (.tmp 7), none⟩] [3] []) <|
  .ret
theorem Cd.impl_ValidFlow_1_rs : Try.f102.results.toList = [.tmp 3] := rfl
theorem Cd.impl_ValidFlow_1_nt : Try.f102.ntmps = 8 := rfl
theorem Cd.impl_ValidFlow_1_ok : CodeIsR Try.prog 102 Try.f102 Cd.impl_ValidFlow_1 := ⟨Try.func102, by kernel_rfl, by decide +kernel⟩
/-- loop.example/g01012/impl.isPlainControl -/
def Cd.impl_isPlainControl : ACode :=
  .seq (.region [⟨some 1, .box (.tmp 0), none⟩,
     ⟨some 2, .mv (.const (.bool false)), none⟩] [1] []) <|
  .seq (.region [⟨some 3, .fieldAddr 0 (.tmp 1), none⟩,
     ⟨some 4, .load false 1 (.tmp 3), none⟩,
     ⟨some 5, .call (.func F.impl_inside) [(.tmp 4), (.const (.int .i64 (0))), (.const (.int .i64 (1000000)))] [], none⟩,
     ⟨some 6, .mv (.tmp 5), none⟩,
     ⟨some 7, .fieldAddr 1 (.tmp 1), some (6, true)⟩,
     ⟨some 8, .load false 1 (.tmp 7), some (6, true)⟩,
     ⟨some 9, .call (.func F.impl_inside) [(.tmp 8), (.const (.int .i64 (-1000000000000000))), (.const (.int .i64 (1000000000000000)))] [], some (6, true)⟩,
     ⟨some 10, .pick (.tmp 6) (.tmp 9) (.const (.bool false)), none⟩,
     ⟨some 11, .mv (.tmp 10), none⟩,
     ⟨some 12, .fieldAddr 2 (.tmp 1), some (11, true)⟩,
     ⟨some 13, .load false 1 (.tmp 12), some (11, true)⟩,
     ⟨some 14, .call (.func F.impl_inside) [(.tmp 13), (.const (.int .i64 (0))), (.const (.int .i64 (1000000000)))] [], some (11, true)⟩,
     ⟨some 15, .pick (.tmp 11) (.tmp 14) (.const (.bool false)), none⟩,
     ⟨some 2, .mv (.tmp 15), none⟩] [2] []) <|
  .ret
theorem Cd.impl_isPlainControl_rs : Try.f110.results.toList = [.tmp 2] := rfl
theorem Cd.impl_isPlainControl_nt : Try.f110.ntmps = 16 := rfl
theorem Cd.impl_isPlainControl_ok : CodeIsR Try.prog 110 Try.f110 Cd.impl_isPlainControl := ⟨Try.func110, by kernel_rfl, by decide +kernel⟩
/-- (loop.example/g01012/impl.Control).plus -/
def Cd._impl_Control__plus : ACode :=
  .seq (.region [⟨some 3, .box (.tmp 0), none⟩,
     ⟨some 4, .box (.tmp 1), none⟩,
     ⟨some 6, .alloc [.v (.int .i64 (0)), .v (.int .i64 (0)), .v (.int .i64 (0))], none⟩] [2, 3, 4, 6] []) <|
  .seq (.region [⟨some 7, .fieldAddr 0 (.tmp 3), none⟩,
     ⟨some 8, .load false 1 (.tmp 7), none⟩,
     ⟨some 9, .mv (.tmp 2), none⟩,
     ⟨some 10, .fieldAddr 0 (.tmp 4), none⟩,
     ⟨some 11, .load false 1 (.tmp 10), none⟩,
     ⟨some 12, .bin .mul (.tmp 9) (.tmp 11), none⟩,
     ⟨some 13, .bin .add (.tmp 8) (.tmp 12), none⟩,
     ⟨some 14, .fieldAddr 1 (.tmp 3), none⟩,
     ⟨some 15, .load false 1 (.tmp 14), none⟩,
     ⟨some 16, .mv (.tmp 2), none⟩,
     ⟨some 17, .fieldAddr 1 (.tmp 4), none⟩,
     ⟨some 18, .load false 1 (.tmp 17), none⟩,
     ⟨some 19, .bin .mul (.tmp 16) (.tmp 18), none⟩,
     ⟨some 20, .bin .add (.tmp 15) (.tmp 19), none⟩,
     ⟨some 21, .fieldAddr 2 (.tmp 3), none⟩,
     ⟨some 22, .load false 1 (.tmp 21), none⟩,
     ⟨some 23, .mv (.tmp 2), none⟩,
     ⟨some 24, .fieldAddr 2 (.tmp 4), none⟩,
     ⟨some 25, .load false 1 (.tmp 24), none⟩,
     ⟨some 26, .bin .mul (.tmp 23) (.tmp 25), none⟩,
     ⟨some 27, .bin .add (.tmp 22) (.tmp 26), none⟩,
     ⟨some 28, .build [.v (.int .i64 (0)), .v (.int .i64 (0)), .v (.int .i64 (0))] [(0, 1, (.tmp 13)), (1, 1, (.tmp 20)), (2, 1, (.tmp 27))], none⟩,
     ⟨none, .store 3 (.tmp 6) (.tmp 28), none⟩] [6] []) <|
  .ret
theorem Cd._impl_Control__plus_rs : Try.f111.results.toList = [.cell 6 24] := rfl
theorem Cd._impl_Control__plus_nt : Try.f111.ntmps = 29 := rfl
theorem Cd._impl_Control__plus_ok : CodeIsR Try.prog 111 Try.f111 Cd._impl_Control__plus := ⟨Try.func111, by kernel_rfl, by decide +kernel⟩
/-- loop.example/g01012/spec.l02Field -/
def Cd.spec_l02Field : ACode :=
  .seq (.region [⟨some 2, .box (.tmp 0), none⟩,
     ⟨some 4, .mv (.const (.bool false)), none⟩] [1, 2] []) <|
  .seq (.region [⟨some 5, .fieldAddr 0 (.tmp 2), none⟩,
     ⟨some 6, .load false 1 (.tmp 5), none⟩,
     ⟨some 7, .bin .geq (.tmp 6) (.const (.int .i64 (0))), none⟩,
     ⟨some 8, .mv (.tmp 7), none⟩,
     ⟨some 9, .fieldAddr 0 (.tmp 2), some (8, true)⟩,
     ⟨some 10, .load false 1 (.tmp 9), some (8, true)⟩,
     ⟨some 11, .fieldAddr 1 (.tmp 2), some (8, true)⟩,
     ⟨some 12, .load false 1 (.tmp 11), some (8, true)⟩,
     ⟨some 13, .bin .lss (.tmp 10) (.tmp 12), some (8, true)⟩,
     ⟨some 14, .pick (.tmp 8) (.tmp 13) (.const (.bool false)), none⟩,
     ⟨some 15, .mv (.tmp 14), none⟩,
     ⟨some 16, .fieldAddr 1 (.tmp 2), some (15, true)⟩,
     ⟨some 17, .load false 1 (.tmp 16), some (15, true)⟩,
     ⟨some 18, .mv (.tmp 1), some (15, true)⟩,
     ⟨some 19, .bin .leq (.tmp 17) (.tmp 18), some (15, true)⟩,
     ⟨some 20, .pick (.tmp 15) (.tmp 19) (.const (.bool false)), none⟩,
     ⟨some 4, .mv (.tmp 20), none⟩] [4] []) <|
  .ret
theorem Cd.spec_l02Field_rs : Try.f112.results.toList = [.tmp 4] := rfl
theorem Cd.spec_l02Field_nt : Try.f112.ntmps = 21 := rfl
theorem Cd.spec_l02Field_ok : CodeIsR Try.prog 112 Try.f112 Cd.spec_l02Field := ⟨Try.func112, by kernel_rfl, by decide +kernel⟩
/-- loop.example/g01012/spec.l09Text -/
def Cd.spec_l09Text : ACode :=
  .seq (.region [⟨some 3, .box (.tmp 1), none⟩,
     ⟨some 4, .mv (.const (.int .i64 (0))), none⟩] [0, 3] []) <|
  .seq (.seq (.region [⟨some 6, .mv (.tmp 0), none⟩,
      ⟨some 7, .lenS (.tmp 6), none⟩,
      ⟨some 8, .fieldAddr 1 (.tmp 3), none⟩,
      ⟨some 9, .load false 1 (.tmp 8), none⟩,
      ⟨some 10, .fieldAddr 0 (.tmp 3), none⟩,
      ⟨some 11, .load false 1 (.tmp 10), none⟩,
      ⟨some 12, .bin .sub (.tmp 9) (.tmp 11), none⟩,
      ⟨some 13, .bin .neq (.tmp 7) (.tmp 12), none⟩] [0, 13] []) <|
   .cond (.tmp 13)
     (.seq (.region [⟨some 4, .mv (.const (.int .i64 (2))), none⟩] [4] []) <|
     .ret)
     (.skip)) <|
  .seq (.seq (.region [⟨some 5, .mv (.const (.int .i64 (0))), none⟩] [0, 5] []) <|
   .block 0 (
     .loop (
       .seq (.seq (.region [⟨some 14, .mv (.tmp 5), none⟩,
           ⟨some 15, .mv (.tmp 0), none⟩,
           ⟨some 16, .lenS (.tmp 15), none⟩,
           ⟨some 17, .bin .lss (.tmp 14) (.tmp 16), none⟩] [0, 5, 17] []) <|
        .cond (.tmp 17)
          (.skip)
          (.exit 0)) <|
       .seq (.block 1 (
          .seq (.region [⟨some 20, .mv (.tmp 0), none⟩,
             ⟨some 21, .mv (.tmp 5), none⟩,
             ⟨some 22, .idxStr (.tmp 20) (.tmp 21), none⟩,
             ⟨some 23, .call (.func F.spec_l03Code) [(.tmp 22)] [], none⟩,
             ⟨some 24, .bin .lss (.tmp 23) (.const (.int .i64 (0))), none⟩] [0, 5, 24] []) <|
          .cond (.tmp 24)
            (.seq (.region [⟨some 4, .mv (.const (.int .i64 (7))), none⟩] [4] []) <|
            .ret)
            (.skip))) <|
       .region [⟨some 18, .mv (.tmp 5), none⟩,
         ⟨some 19, .bin .add (.tmp 18) (.const (.int .i64 (1))), none⟩,
         ⟨some 5, .mv (.tmp 19), none⟩] [0, 5] []))) <|
  .seq (.region [⟨some 4, .mv (.const (.int .i64 (0))), none⟩] [4] []) <|
  .ret
theorem Cd.spec_l09Text_rs : Try.f113.results.toList = [.tmp 4] := rfl
theorem Cd.spec_l09Text_nt : Try.f113.ntmps = 25 := rfl
theorem Cd.spec_l09Text_ok : CodeIsR Try.prog 113 Try.f113 Cd.spec_l09Text := ⟨Try.func113, by kernel_rfl, by decide +kernel⟩
/-- loop.example/g01012/impl.isCharacter -/
def Cd.impl_isCharacter : ACode :=
  .seq (.region [⟨some 2, .mv (.const (.bool false)), none⟩] [0] []) <|
  .seq (.region [⟨some 3, .mv (.tmp 0), none⟩,
     ⟨some 4, .call (.func F.strings_IndexByte) [(.const (.string ⟨#[32, 38, 65, 66, 67, 68, 69, 70, 71, 72, 73, 45, 74, 75, 76, 77, 78, 79, 80, 81, 82, 47, 83, 84, 85, 86, 87, 88, 89, 90, 48, 49, 50, 51, 52, 53, 54, 55, 56, 57]⟩)), (.tmp 3)] [], none⟩,
     ⟨some 5, .bin .geq (.tmp 4) (.const (.int .i64 (0))), none⟩,
     ⟨some 2, .mv (.tmp 5), none⟩] [2] []) <|
  .ret
theorem Cd.impl_isCharacter_rs : Try.f114.results.toList = [.tmp 2] := rfl
theorem Cd.impl_isCharacter_nt : Try.f114.ntmps = 6 := rfl
theorem Cd.impl_isCharacter_ok : CodeIsR Try.prog 114 Try.f114 Cd.impl_isCharacter := ⟨Try.func114, by kernel_rfl, by decide +kernel⟩
/-- loop.example/g01012/laws.eqField -/
def Cd.laws_eqField : ACode :=
  .seq (.region [⟨some 2, .box (.tmp 0), none⟩,
     ⟨some 3, .box (.tmp 1), none⟩,
     ⟨some 4, .mv (.const (.bool false)), none⟩] [2, 3] []) <|
  .seq (.seq (.region [⟨some 5, .fieldAddr 0 (.tmp 2), none⟩,
      ⟨some 6, .load false 1 (.tmp 5), none⟩,
      ⟨some 7, .fieldAddr 0 (.tmp 3), none⟩,
      ⟨some 8, .load false 1 (.tmp 7), none⟩,
      ⟨some 9, .bin .neq (.tmp 6) (.tmp 8), none⟩] [2, 3, 9] []) <|
   .cond (.tmp 9)
     (.seq (.region [⟨some 4, .mv (.const (.bool false)), none⟩] [4] []) <|
     .ret)
     (.skip)) <|
  .seq (.seq (.region [⟨some 10, .fieldAddr 1 (.tmp 2), none⟩,
      ⟨some 11, .load false 1 (.tmp 10), none⟩,
      ⟨some 12, .fieldAddr 1 (.tmp 3), none⟩,
      ⟨some 13, .load false 1 (.tmp 12), none⟩,
      ⟨some 14, .bin .neq (.tmp 11) (.tmp 13), none⟩] [14] []) <|
   .cond (.tmp 14)
     (.seq (.region [⟨some 4, .mv (.const (.bool false)), none⟩] [4] []) <|
     .ret)
     (.skip)) <|
  .seq (.region [⟨some 4, .mv (.const (.bool true)), none⟩] [4] []) <|
  .ret
theorem Cd.laws_eqField_rs : Try.f115.results.toList = [.tmp 4] := rfl
theorem Cd.laws_eqField_nt : Try.f115.ntmps = 15 := rfl
theorem Cd.laws_eqField_ok : CodeIsR Try.prog 115 Try.f115 Cd.laws_eqField := ⟨Try.func115, by kernel_rfl, by decide +kernel⟩
/-- loop.example/g01012/spec.l15Tray -/
def Cd.spec_l15Tray : ACode :=
  .seq (.region [⟨some 2, .mv (.const (.bool false)), none⟩] [0] []) <|
  .seq (.region [⟨some 3, .mv (.tmp 0), none⟩,
     ⟨some 4, .call (.func F.spec_l00In) [(.tmp 3), (.const (.int .i64 (0))), (.const (.int .i64 (5)))] [], none⟩,
     ⟨some 2, .mv (.tmp 4), none⟩] [2] []) <|
  .ret
theorem Cd.spec_l15Tray_rs : Try.f116.results.toList = [.tmp 2] := rfl
theorem Cd.spec_l15Tray_nt : Try.f116.ntmps = 5 := rfl
theorem Cd.spec_l15Tray_ok : CodeIsR Try.prog 116 Try.f116 Cd.spec_l15Tray := ⟨Try.func116, by kernel_rfl, by decide +kernel⟩
/-- loop.example/g01012/spec.l15Both -/
def Cd.spec_l15Both : ACode :=
  .seq (.region [⟨some 2, .mv (.const (.bool false)), none⟩] [0] []) <|
  .seq (.region [⟨some 3, .mv (.tmp 0), none⟩,
     ⟨some 4, .call (.func F.spec_l00In) [(.tmp 3), (.const (.int .i64 (2))), (.const (.int .i64 (4)))] [], none⟩,
     ⟨some 2, .mv (.tmp 4), none⟩] [2] []) <|
  .ret
theorem Cd.spec_l15Both_rs : Try.f117.results.toList = [.tmp 2] := rfl
theorem Cd.spec_l15Both_nt : Try.f117.ntmps = 5 := rfl
theorem Cd.spec_l15Both_ok : CodeIsR Try.prog 117 Try.f117 Cd.spec_l15Both := ⟨Try.func117, by kernel_rfl, by decide +kernel⟩
/-- slices.IndexFunc[[]loop.example/g01012/impl.Step,loop.example/g01012/impl.Step] -/
def Cd.slices_IndexFunc___impl_Step_impl_Step_ : ACode :=
  .seq (.region [⟨some 4, .mv (.const (.int .i64 (0))), none⟩] [0, 1] []) <|
  .seq (.seq (.region [⟨some 6, .mv (.tmp 0), none⟩,
      ⟨some 7, .len (.tmp 6), none⟩,
      ⟨some 8, .mv (.const (.int .i64 (0))), none⟩] [0, 1, 7, 8] []) <|
   .block 0 (
     .loop (
       .seq (.region [⟨some 9, .bin .lss (.tmp 8) (.tmp 7), none⟩] [0, 1, 7, 8, 9] []) <|
       .seq (.cond (.tmp 9)
          (.skip)
          (.exit 0)) <|
       .seq (.block 1 (
          .seq (.region [⟨some 10, .mv (.tmp 8), none⟩,
             ⟨some 5, .mv (.tmp 10), none⟩] [0, 1, 5, 7, 8] []) <|
          .seq (.region [⟨some 11, .mv (.tmp 1), none⟩,
             ⟨some 12, .mv (.tmp 0), none⟩,
             ⟨some 13, .mv (.tmp 5), none⟩,
             ⟨some 14, .idxSl 9 (.tmp 12) (.tmp 13), none⟩,
             ⟨some 15, .load true 9 (.tmp 14), none⟩,
             ⟨some 16, .call (.tmp 11) [(.tmp 15)] [], none⟩] [0, 1, 5, 7, 8, 16] []) <|
          .cond (.tmp 16)
            (.seq (.region [⟨some 17, .mv (.tmp 5), none⟩,
               ⟨some 4, .mv (.tmp 17), none⟩] [4] []) <|
            .ret)
            (.skip))) <|
       .region [⟨some 18, .bin .add (.tmp 8) (.const (.int .i64 (1))), none⟩,
         ⟨some 8, .mv (.tmp 18), none⟩] [0, 1, 7, 8] []))) <|
  .seq (.region [⟨some 4, .mv (.const (.int .i64 (-1))), none⟩] [4] []) <|
  .ret
theorem Cd.slices_IndexFunc___impl_Step_impl_Step__rs : Try.f130.results.toList = [.tmp 4] := rfl
theorem Cd.slices_IndexFunc___impl_Step_impl_Step__nt : Try.f130.ntmps = 19 := rfl
theorem Cd.slices_IndexFunc___impl_Step_impl_Step__ok : CodeIsR Try.prog 130 Try.f130 Cd.slices_IndexFunc___impl_Step_impl_Step_ := ⟨Try.func130, by kernel_rfl, by decide +kernel⟩
/-- loop.example/g01012/spec.l03Code -/
def Cd.spec_l03Code : ACode :=
  .seq (.region [⟨some 2, .mv (.const (.int .i64 (0))), none⟩] [0] []) <|
  .seq (.region [⟨some 4, .mv (.tmp 0), none⟩,
     ⟨some 5, .conv .i64 (.tmp 4), none⟩,
     ⟨some 3, .mv (.tmp 5), none⟩] [0, 3] []) <|
  .seq (.block 0 (
     .seq (.region [⟨some 7, .mv (.tmp 0), none⟩,
        ⟨some 8, .bin .eql (.tmp 7) (.const (.int .u8 (32))), none⟩,
        ⟨some 6, .mv (.tmp 8), none⟩] [0, 3, 6] []) <|
     .cond (.tmp 6)
       (.seq (.region [⟨some 2, .mv (.const (.int .i64 (0))), none⟩] [2] []) <|
       .ret)
       (.seq (.region [⟨some 10, .mv (.tmp 0), none⟩,
          ⟨some 11, .bin .eql (.tmp 10) (.const (.int .u8 (38))), none⟩,
          ⟨some 9, .mv (.tmp 11), none⟩] [0, 3, 9] []) <|
       .cond (.tmp 9)
         (.seq (.region [⟨some 2, .mv (.const (.int .i64 (1))), none⟩] [2] []) <|
         .ret)
         (.seq (.region [⟨some 13, .mv (.tmp 0), none⟩,
            ⟨some 14, .bin .eql (.tmp 13) (.const (.int .u8 (45))), none⟩,
            ⟨some 12, .mv (.tmp 14), none⟩] [0, 3, 12] []) <|
         .cond (.tmp 12)
           (.seq (.region [⟨some 2, .mv (.const (.int .i64 (2))), none⟩] [2] []) <|
           .ret)
           (.seq (.region [⟨some 16, .mv (.tmp 0), none⟩,
              ⟨some 17, .bin .eql (.tmp 16) (.const (.int .u8 (47))), none⟩,
              ⟨some 15, .mv (.tmp 17), none⟩] [0, 3, 15] []) <|
           .cond (.tmp 15)
             (.seq (.region [⟨some 18, .call (.func F.spec_l02Bit) [(.const (.int .i64 (1)))] [], none⟩,
                ⟨some 19, .bin .or (.const (.int .i64 (4))) (.tmp 18), none⟩,
                ⟨some 2, .mv (.tmp 19), none⟩] [2] []) <|
             .ret)
             (.seq (.region [⟨some 21, .mv (.tmp 0), none⟩,
                ⟨some 22, .call (.func F.spec_l01Digit) [(.tmp 21)] [], none⟩,
                ⟨some 20, .mv (.tmp 22), none⟩] [0, 3, 20] []) <|
             .cond (.tmp 20)
               (.seq (.region [⟨some 23, .mv (.tmp 3), none⟩,
                  ⟨some 24, .bin .sub (.tmp 23) (.const (.int .i64 (48))), none⟩,
                  ⟨some 25, .call (.func F.spec_l02Bit) [(.tmp 24)] [], none⟩,
                  ⟨some 2, .mv (.tmp 25), none⟩] [2] []) <|
               .ret)
               (.seq (.region [⟨some 27, .mv (.tmp 0), none⟩,
                  ⟨some 28, .bin .geq (.tmp 27) (.const (.int .u8 (65))), none⟩,
                  ⟨some 29, .mv (.tmp 28), none⟩,
                  ⟨some 30, .mv (.tmp 0), some (29, true)⟩,
                  ⟨some 31, .bin .leq (.tmp 30) (.const (.int .u8 (73))), some (29, true)⟩,
                  ⟨some 32, .pick (.tmp 29) (.tmp 31) (.const (.bool false)), none⟩,
                  ⟨some 26, .mv (.tmp 32), none⟩] [0, 3, 26] []) <|
               .cond (.tmp 26)
                 (.seq (.region [⟨some 33, .mv (.tmp 3), none⟩,
                    ⟨some 34, .bin .sub (.tmp 33) (.const (.int .i64 (65))), none⟩,
                    ⟨some 35, .bin .add (.tmp 34) (.const (.int .i64 (1))), none⟩,
                    ⟨some 36, .call (.func F.spec_l02Bit) [(.tmp 35)] [], none⟩,
                    ⟨some 37, .bin .or (.const (.int .i64 (1))) (.tmp 36), none⟩,
                    ⟨some 2, .mv (.tmp 37), none⟩] [2] []) <|
                 .ret)
                 (.seq (.region [⟨some 39, .mv (.tmp 0), none⟩,
                    ⟨some 40, .bin .geq (.tmp 39) (.const (.int .u8 (74))), none⟩,
                    ⟨some 41, .mv (.tmp 40), none⟩,
                    ⟨some 42, .mv (.tmp 0), some (41, true)⟩,
                    ⟨some 43, .bin .leq (.tmp 42) (.const (.int .u8 (82))), some (41, true)⟩,
                    ⟨some 44, .pick (.tmp 41) (.tmp 43) (.const (.bool false)), none⟩,
                    ⟨some 38, .mv (.tmp 44), none⟩] [0, 3, 38] []) <|
                 .cond (.tmp 38)
                   (.seq (.region [⟨some 45, .mv (.tmp 3), none⟩,
                      ⟨some 46, .bin .sub (.tmp 45) (.const (.int .i64 (74))), none⟩,
                      ⟨some 47, .bin .add (.tmp 46) (.const (.int .i64 (1))), none⟩,
                      ⟨some 48, .call (.func F.spec_l02Bit) [(.tmp 47)] [], none⟩,
                      ⟨some 49, .bin .or (.const (.int .i64 (2))) (.tmp 48), none⟩,
                      ⟨some 2, .mv (.tmp 49), none⟩] [2] []) <|
                   .ret)
                   (.seq (.region [⟨some 51, .mv (.tmp 0), none⟩,
                      ⟨some 52, .bin .geq (.tmp 51) (.const (.int .u8 (83))), none⟩,
                      ⟨some 53, .mv (.tmp 52), none⟩,
                      ⟨some 54, .mv (.tmp 0), some (53, true)⟩,
                      ⟨some 55, .bin .leq (.tmp 54) (.const (.int .u8 (90))), some (53, true)⟩,
                      ⟨some 56, .pick (.tmp 53) (.tmp 55) (.const (.bool false)), none⟩,
                      ⟨some 50, .mv (.tmp 56), none⟩] [3, 50] []) <|
                   .cond (.tmp 50)
                     (.seq (.region [⟨some 57, .mv (.tmp 3), none⟩,
                        ⟨some 58, .bin .sub (.tmp 57) (.const (.int .i64 (83))), none⟩,
                        ⟨some 59, .bin .add (.tmp 58) (.const (.int .i64 (2))), none⟩,
                        ⟨some 60, .call (.func F.spec_l02Bit) [(.tmp 59)] [], none⟩,
                        ⟨some 61, .bin .or (.const (.int .i64 (4))) (.tmp 60), none⟩,
                        ⟨some 2, .mv (.tmp 61), none⟩] [2] []) <|
                     .ret)
                     (.skip)))))))))) <|
  .seq (.region [⟨some 2, .mv (.const (.int .i64 (-1))), none⟩] [2] []) <|
  .ret
theorem Cd.spec_l03Code_rs : Try.f137.results.toList = [.tmp 2] := rfl
theorem Cd.spec_l03Code_nt : Try.f137.ntmps = 62 := rfl
theorem Cd.spec_l03Code_ok : CodeIsR Try.prog 137 Try.f137 Cd.spec_l03Code := ⟨Try.func137, by kernel_rfl, by decide +kernel⟩
/-- strings.IndexByte -/
def Cd.strings_IndexByte : ACode :=
  .seq (.region [⟨some 4, .mv (.const (.int .i64 (0))), none⟩] [0, 1] []) <|
  .seq (.region [⟨some 5, .mv (.tmp 0), none⟩,
     ⟨some 6, .mv (.tmp 1), none⟩,
     ⟨some 7, .call (.func F.internal_stringslite_IndexByte) [(.tmp 5), (.tmp 6)] [], none⟩,
     ⟨some 4, .mv (.tmp 7), none⟩] [4] []) <|
  .ret
theorem Cd.strings_IndexByte_rs : Try.f138.results.toList = [.tmp 4] := rfl
theorem Cd.strings_IndexByte_nt : Try.f138.ntmps = 8 := rfl
theorem Cd.strings_IndexByte_ok : CodeIsR Try.prog 138 Try.f138 Cd.strings_IndexByte := ⟨Try.func138, by kernel_rfl, by decide +kernel⟩
/-- loop.example/g01012/spec.l02Bit -/
def Cd.spec_l02Bit : ACode :=
  .seq (.region [⟨some 2, .mv (.const (.int .i64 (0))), none⟩] [0] []) <|
  .seq (.block 0 (
     .seq (.region [⟨some 4, .mv (.tmp 0), none⟩,
        ⟨some 5, .bin .eql (.tmp 4) (.const (.int .i64 (12))), none⟩,
        ⟨some 3, .mv (.tmp 5), none⟩] [0, 3] []) <|
     .cond (.tmp 3)
       (.seq (.region [⟨some 2, .mv (.const (.int .i64 (1))), none⟩] [2] []) <|
       .ret)
       (.seq (.region [⟨some 7, .mv (.tmp 0), none⟩,
          ⟨some 8, .bin .eql (.tmp 7) (.const (.int .i64 (11))), none⟩,
          ⟨some 6, .mv (.tmp 8), none⟩] [0, 6] []) <|
       .cond (.tmp 6)
         (.seq (.region [⟨some 2, .mv (.const (.int .i64 (2))), none⟩] [2] []) <|
         .ret)
         (.seq (.region [⟨some 10, .mv (.tmp 0), none⟩,
            ⟨some 11, .call (.func F.spec_l00In) [(.tmp 10), (.const (.int .i64 (0))), (.const (.int .i64 (9)))] [], none⟩,
            ⟨some 9, .mv (.tmp 11), none⟩] [0, 9] []) <|
         .cond (.tmp 9)
           (.seq (.region [⟨some 12, .mv (.tmp 0), none⟩,
              ⟨some 13, .conv .u64 (.tmp 12), none⟩,
              ⟨some 14, .bin .shl (.const (.int .i64 (4))) (.tmp 13), none⟩,
              ⟨some 2, .mv (.tmp 14), none⟩] [2] []) <|
           .ret)
           (.skip))))) <|
  .seq (.region [⟨some 2, .mv (.const (.int .i64 (0))), none⟩] [2] []) <|
  .ret
theorem Cd.spec_l02Bit_rs : Try.f147.results.toList = [.tmp 2] := rfl
theorem Cd.spec_l02Bit_nt : Try.f147.ntmps = 15 := rfl
theorem Cd.spec_l02Bit_ok : CodeIsR Try.prog 147 Try.f147 Cd.spec_l02Bit := ⟨Try.func147, by kernel_rfl, by decide +kernel⟩
/-- loop.example/g01012/spec.l01Digit -/
def Cd.spec_l01Digit : ACode :=
  .seq (.region [⟨some 2, .mv (.const (.bool false)), none⟩] [0] []) <|
  .seq (.region [⟨some 3, .mv (.tmp 0), none⟩,
     ⟨some 4, .bin .geq (.tmp 3) (.const (.int .u8 (48))), none⟩,
     ⟨some 5, .mv (.tmp 4), none⟩,
     ⟨some 6, .mv (.tmp 0), some (5, true)⟩,
     ⟨some 7, .bin .leq (.tmp 6) (.const (.int .u8 (57))), some (5, true)⟩,
     ⟨some 8, .pick (.tmp 5) (.tmp 7) (.const (.bool false)), none⟩,
     ⟨some 2, .mv (.tmp 8), none⟩] [2] []) <|
  .ret
theorem Cd.spec_l01Digit_rs : Try.f148.results.toList = [.tmp 2] := rfl
theorem Cd.spec_l01Digit_nt : Try.f148.ntmps = 9 := rfl
theorem Cd.spec_l01Digit_ok : CodeIsR Try.prog 148 Try.f148 Cd.spec_l01Digit := ⟨Try.func148, by kernel_rfl, by decide +kernel⟩
/-- internal/stringslite.IndexByte -/
def Cd.internal_stringslite_IndexByte : ACode :=
  .seq (.region [⟨some 4, .mv (.const (.int .i64 (0))), none⟩] [0, 1] []) <|
  .seq (.region [⟨some 5, .mv (.tmp 0), none⟩,
     ⟨some 6, .mv (.tmp 1), none⟩,
     ⟨some 7, .idxB (.tmp 5) (.tmp 6), none⟩,
     ⟨some 4, .mv (.tmp 7), none⟩] [4] []) <|
  .ret
theorem Cd.internal_stringslite_IndexByte_rs : Try.f149.results.toList = [.tmp 4] := rfl
theorem Cd.internal_stringslite_IndexByte_nt : Try.f149.ntmps = 8 := rfl
theorem Cd.internal_stringslite_IndexByte_ok : CodeIsR Try.prog 149 Try.f149 Cd.internal_stringslite_IndexByte := ⟨Try.func149, by kernel_rfl, by decide +kernel⟩
end Go.Proofs.Ytaegnbfboeeijaa
