/- The code of each function, resolved. -/
import Derived.Test.YtaegnbfboeeijaaVtC
import Derived.Test.YtaegnbfboeeijaaRows
namespace Go.Proofs.Ytaegnbfboeeijaa
open Go.Vs
set_option maxRecDepth 100000
theorem Try.own : ownKnob Try.prog.godebug = none := by kernel_rfl
theorem Try.laidOut : laidOutB Try.prog = true := by kernel_rfl
theorem Try.mixed : Try.prog.follows .mixedOrders = true := Try.checked.mixed
namespace F
abbrev main_main : FuncId := 0
abbrev gosem_cut : FuncId := 1
abbrev gosem_cut_init : FuncId := 2
abbrev laws_FnExactAddControls : FuncId := 3
abbrev laws_FnExactTakeControls : FuncId := 4
abbrev laws_FnExactSameTotals : FuncId := 5
abbrev laws_FnExactValidSpec : FuncId := 6
abbrev laws_FnExactSameFlow : FuncId := 7
abbrev laws_FnExactValidStep : FuncId := 8
abbrev laws_FnExactValidFaults : FuncId := 9
abbrev laws_FnExactCountDecks : FuncId := 10
abbrev laws_FnExactValidFlow : FuncId := 11
abbrev laws_FnExactDeckAt : FuncId := 12
abbrev laws_FnExactFlowFor : FuncId := 13
abbrev laws_FnExactAmountsAfter : FuncId := 14
abbrev spec_AddControls : FuncId := 15
abbrev laws_toControl : FuncId := 16
abbrev impl_AddControls : FuncId := 17
abbrev laws_eqControl : FuncId := 18
abbrev spec_TakeControls : FuncId := 19
abbrev impl_TakeControls : FuncId := 20
abbrev laws_szTotalS : FuncId := 21
abbrev spec_SameTotals : FuncId := 22
abbrev laws_toTotalS : FuncId := 23
abbrev impl_SameTotals : FuncId := 24
abbrev laws_eqTotalS : FuncId := 25
abbrev laws_szSpec : FuncId := 26
abbrev spec_ValidSpec : FuncId := 27
abbrev laws_toSpec : FuncId := 28
abbrev impl_ValidSpec : FuncId := 29
abbrev laws_szStepS : FuncId := 30
abbrev spec_SameFlow : FuncId := 31
abbrev laws_toStepS : FuncId := 32
abbrev impl_SameFlow : FuncId := 33
abbrev laws_eqStepS : FuncId := 34
abbrev laws_szStep : FuncId := 35
abbrev spec_ValidStep : FuncId := 36
abbrev laws_toStep : FuncId := 37
abbrev impl_ValidStep : FuncId := 38
abbrev laws_szFaultS : FuncId := 39
abbrev spec_ValidFaults : FuncId := 40
abbrev laws_toInt64S : FuncId := 41
abbrev laws_toFaultS : FuncId := 42
abbrev impl_ValidFaults : FuncId := 43
abbrev laws_eqInt64S : FuncId := 44
abbrev laws_eqFaultS : FuncId := 45
abbrev laws_szCardS : FuncId := 46
abbrev spec_CountDecks : FuncId := 47
abbrev laws_toCardS : FuncId := 48
abbrev impl_CountDecks : FuncId := 49
abbrev laws_eqCardS : FuncId := 50
abbrev spec_ValidFlow : FuncId := 51
abbrev impl_ValidFlow : FuncId := 52
abbrev spec_DeckAt : FuncId := 53
abbrev impl_DeckAt : FuncId := 54
abbrev laws_markCardS : FuncId := 55
abbrev laws_heldCardS : FuncId := 56
abbrev spec_FlowFor : FuncId := 57
abbrev impl_FlowFor : FuncId := 58
abbrev laws_markStepS : FuncId := 59
abbrev laws_heldStepS : FuncId := 60
abbrev spec_AmountsAfter : FuncId := 61
abbrev impl_AmountsAfter : FuncId := 62
abbrev laws_markInt64S : FuncId := 63
abbrev laws_markFaultS : FuncId := 64
abbrev laws_heldInt64S : FuncId := 65
abbrev spec_l18Two : FuncId := 66
abbrev spec_l18Ok : FuncId := 67
abbrev impl_joinedControls : FuncId := 68
abbrev laws_szTotal : FuncId := 69
abbrev spec_l15Totals : FuncId := 70
abbrev laws_toTotal : FuncId := 71
abbrev slices_Equal___impl_Total_impl_Total_ : FuncId := 72
abbrev laws_eqTotal : FuncId := 73
abbrev spec_l00In : FuncId := 74
abbrev spec_l16Ok : FuncId := 75
abbrev laws_toField : FuncId := 76
abbrev impl_inside : FuncId := 77
abbrev impl_isField : FuncId := 78
abbrev impl_isNumberField : FuncId := 79
abbrev impl_areCharacters : FuncId := 80
abbrev slices_Equal___impl_Step_impl_Step_ : FuncId := 81
abbrev laws_eqStep : FuncId := 82
abbrev spec_l15Step : FuncId := 83
abbrev impl_isTray : FuncId := 84
abbrev impl_takesTwo : FuncId := 85
abbrev spec_l19Ok : FuncId := 86
abbrev spec_l19Faults : FuncId := 87
abbrev laws_toFault : FuncId := 88
abbrev impl_ValidAmounts : FuncId := 89
abbrev impl_areFaults : FuncId := 90
abbrev laws_eqFault : FuncId := 91
abbrev laws_szCard : FuncId := 92
abbrev spec_l17Code : FuncId := 93
abbrev spec_l17Count : FuncId := 94
abbrev laws_toCard : FuncId := 95
abbrev impl_sampleCode : FuncId := 96
abbrev impl_size___impl_Card_ : FuncId := 97
abbrev impl_decksOf : FuncId := 98
abbrev laws_eqCard : FuncId := 99
abbrev spec_l15Flow : FuncId := 100
abbrev slices_ContainsFunc___impl_Step_impl_Step_ : FuncId := 101
abbrev impl_ValidFlow_1 : FuncId := 102
abbrev spec_l17At : FuncId := 103
abbrev spec_l16Flow : FuncId := 104
abbrev laws_markText : FuncId := 105
abbrev spec_l19Code : FuncId := 106
abbrev spec_l19After : FuncId := 107
abbrev impl_faultCode : FuncId := 108
abbrev impl_amountsAfter : FuncId := 109
abbrev impl_isPlainControl : FuncId := 110
abbrev _impl_Control__plus : FuncId := 111
abbrev spec_l02Field : FuncId := 112
abbrev spec_l09Text : FuncId := 113
abbrev impl_isCharacter : FuncId := 114
abbrev laws_eqField : FuncId := 115
abbrev spec_l15Tray : FuncId := 116
abbrev spec_l15Both : FuncId := 117
abbrev spec_l19Fault : FuncId := 118
abbrev slices_ContainsFunc___int64_int64_ : FuncId := 119
abbrev impl_ValidAmounts_1 : FuncId := 120
abbrev impl_isFault : FuncId := 121
abbrev impl_size_int64_ : FuncId := 122
abbrev impl_digitAt : FuncId := 123
abbrev laws_szInt64S : FuncId := 124
abbrev spec_l17Sample : FuncId := 125
abbrev impl_ValidDeck : FuncId := 126
abbrev impl_size_impl_Card_ : FuncId := 127
abbrev impl_newDeck : FuncId := 128
abbrev impl_newCard : FuncId := 129
abbrev slices_IndexFunc___impl_Step_impl_Step_ : FuncId := 130
abbrev spec_l02Own : FuncId := 131
abbrev spec_l19Read : FuncId := 132
abbrev slices_IndexFunc___impl_Fault_impl_Fault_ : FuncId := 133
abbrev impl_amountsAfter_1 : FuncId := 134
abbrev impl_wheelsShow : FuncId := 135
abbrev impl_shown : FuncId := 136
abbrev spec_l03Code : FuncId := 137
abbrev strings_IndexByte : FuncId := 138
abbrev spec_l19Form : FuncId := 139
abbrev spec_l19Power : FuncId := 140
abbrev slices_IndexFunc___int64_int64_ : FuncId := 141
abbrev spec_l02Deck : FuncId := 142
abbrev impl_ValidCard : FuncId := 143
abbrev _impl_Card__columns : FuncId := 144
abbrev impl_copyInts : FuncId := 145
abbrev spec_l00Own : FuncId := 146
abbrev spec_l02Bit : FuncId := 147
abbrev spec_l01Digit : FuncId := 148
abbrev internal_stringslite_IndexByte : FuncId := 149
abbrev spec_l02Ok : FuncId := 150
abbrev impl_ValidCard_1 : FuncId := 151
abbrev internal_bytealg_IndexByteString : FuncId := 152
abbrev _runtime_boundsError__Error : FuncId := 153
abbrev _runtime_boundsError__RuntimeError : FuncId := 154
abbrev _runtime_errorString__Error : FuncId := 155
abbrev _runtime_errorString__RuntimeError : FuncId := 156
abbrev _runtime_plainError__Error : FuncId := 157
abbrev _runtime_plainError__RuntimeError : FuncId := 158
abbrev _runtime_errorAddressString__Error : FuncId := 159
abbrev _runtime_errorAddressString__RuntimeError : FuncId := 160
abbrev __runtime_TypeAssertionError__Error : FuncId := 161
abbrev __runtime_TypeAssertionError__RuntimeError : FuncId := 162
abbrev __runtime_PanicNilError__Error : FuncId := 163
abbrev __runtime_PanicNilError__RuntimeError : FuncId := 164
abbrev __internal_abi_Type__Align : FuncId := 165
abbrev _internal_runtime_maps_unhashableTypeError__Error : FuncId := 166
abbrev _internal_runtime_maps_unhashableTypeError__RuntimeError : FuncId := 167
abbrev _internal_abi_Kind__String : FuncId := 168
end F
theorem Ld.t24 : ldOf Try.prog 24 = some (true, 3) := by kernel_rfl
theorem Ld.t44 : ldOf Try.prog 44 = some (true, 7) := by kernel_rfl
theorem Ld.t58 : ldOf Try.prog 58 = some (true, 9) := by kernel_rfl
theorem Ld.t99 : ldOf Try.prog 99 = some (true, 2) := by kernel_rfl
theorem Ld.t42 : ldOf Try.prog 42 = some (true, 2) := by kernel_rfl
theorem Ld.t114 : ldOf Try.prog 114 = some (true, 4) := by kernel_rfl
theorem Ld.t123 : ldOf Try.prog 123 = some (true, 1) := by kernel_rfl
theorem Ld.t157 : ldOf Try.prog 157 = some (true, 1) := by kernel_rfl
/-- loop.example/g01012/laws.FnExactSameTotals -/
def Cd.laws_FnExactSameTotals : ACode :=
  .seq (.region [⟨some 4, .mv (.const (.bool false)), none⟩] [0, 1] []) <|
  .seq (.region [⟨some 5, .mv (.const (.int .i64 (1048576))), none⟩] [0, 1, 5] []) <|
  .seq (.region [⟨some 10, .mv (.tmp 0), none⟩,
     ⟨some 11, .mv (.tmp 5), none⟩,
     ⟨some 12, .call (.func F.laws_szTotalS) [(.tmp 10), (.tmp 11)] [], none⟩,
     ⟨some 5, .mv (.tmp 12), none⟩] [0, 1, 5] []) <|
  .seq (.seq (.region [⟨some 13, .mv (.tmp 5), none⟩,
      ⟨some 14, .bin .lss (.tmp 13) (.const (.int .i64 (0))), none⟩] [0, 1, 5, 14] []) <|
   .cond (.tmp 14)
     (.seq (.region [⟨some 4, .mv (.const (.bool true)), none⟩] [4] []) <|
     .ret)
     (.skip)) <|
  .seq (.region [⟨some 15, .mv (.tmp 1), none⟩,
     ⟨some 16, .mv (.tmp 5), none⟩,
     ⟨some 17, .call (.func F.laws_szTotalS) [(.tmp 15), (.tmp 16)] [], none⟩,
     ⟨some 5, .mv (.tmp 17), none⟩] [0, 1, 5] []) <|
  .seq (.seq (.region [⟨some 18, .mv (.tmp 5), none⟩,
      ⟨some 19, .bin .lss (.tmp 18) (.const (.int .i64 (0))), none⟩] [0, 1, 19] []) <|
   .cond (.tmp 19)
     (.seq (.region [⟨some 4, .mv (.const (.bool true)), none⟩] [4] []) <|
     .ret)
     (.skip)) <|
  .seq (.region [⟨some 20, .mv (.tmp 0), none⟩,
     ⟨some 21, .call (.func F.laws_toTotalS) [(.tmp 20)] [], none⟩,
     ⟨some 22, .mv (.tmp 1), none⟩,
     ⟨some 23, .call (.func F.laws_toTotalS) [(.tmp 22)] [], none⟩,
     ⟨some 24, .call (.func F.spec_SameTotals) [(.tmp 21), (.tmp 23)] [], none⟩,
     ⟨some 6, .mv (.tmp 24), none⟩] [0, 1, 6] []) <|
  .seq (.region [⟨some 25, .mv (.tmp 0), none⟩,
     ⟨some 26, .call (.func F.laws_toTotalS) [(.tmp 25)] [], none⟩,
     ⟨some 7, .mv (.tmp 26), none⟩] [0, 1, 6, 7] []) <|
  .seq (.region [⟨some 27, .mv (.tmp 1), none⟩,
     ⟨some 28, .call (.func F.laws_toTotalS) [(.tmp 27)] [], none⟩,
     ⟨some 8, .mv (.tmp 28), none⟩] [0, 1, 6, 7, 8] []) <|
  .seq (.region [⟨some 29, .mv (.tmp 7), none⟩,
     ⟨some 30, .mv (.tmp 8), none⟩,
     ⟨some 31, .call (.func F.impl_SameTotals) [(.tmp 29), (.tmp 30)] [], none⟩,
     ⟨some 9, .mv (.tmp 31), none⟩] [0, 1, 6, 7, 8, 9] []) <|
  .seq (.seq (.region [⟨some 32, .mv (.tmp 9), none⟩,
      ⟨some 33, .mv (.tmp 6), none⟩,
      ⟨some 34, .binB .neq (.tmp 32) (.tmp 33), none⟩] [0, 1, 7, 8, 34] []) <|
   .cond (.tmp 34)
     (.seq (.region [⟨some 4, .mv (.const (.bool false)), none⟩] [4] []) <|
     .ret)
     (.skip)) <|
  .seq (.seq (.region [⟨some 35, .mv (.tmp 7), none⟩,
      ⟨some 36, .mv (.tmp 0), none⟩,
      ⟨some 37, .call (.func F.laws_toTotalS) [(.tmp 36)] [], none⟩,
      ⟨some 38, .call (.func F.laws_eqTotalS) [(.tmp 35), (.tmp 37)] [], none⟩,
      ⟨some 39, .un .not (.tmp 38), none⟩] [1, 8, 39] []) <|
   .cond (.tmp 39)
     (.seq (.region [⟨some 4, .mv (.const (.bool false)), none⟩] [4] []) <|
     .ret)
     (.skip)) <|
  .seq (.seq (.region [⟨some 40, .mv (.tmp 8), none⟩,
      ⟨some 41, .mv (.tmp 1), none⟩,
      ⟨some 42, .call (.func F.laws_toTotalS) [(.tmp 41)] [], none⟩,
      ⟨some 43, .call (.func F.laws_eqTotalS) [(.tmp 40), (.tmp 42)] [], none⟩,
      ⟨some 44, .un .not (.tmp 43), none⟩] [44] []) <|
   .cond (.tmp 44)
     (.seq (.region [⟨some 4, .mv (.const (.bool false)), none⟩] [4] []) <|
     .ret)
     (.skip)) <|
  .seq (.region [⟨some 4, .mv (.const (.bool true)), none⟩] [4] []) <|
  .ret
theorem Cd.laws_FnExactSameTotals_rs : Try.f5.results.toList = [.tmp 4] := rfl
theorem Cd.laws_FnExactSameTotals_nt : Try.f5.ntmps = 45 := rfl
theorem Cd.laws_FnExactSameTotals_ok : CodeIsR Try.prog 5 Try.f5 Cd.laws_FnExactSameTotals := ⟨Try.func5, by kernel_rfl, by decide +kernel⟩
/-- loop.example/g01012/laws.FnExactSameFlow -/
def Cd.laws_FnExactSameFlow : ACode :=
  .seq (.region [⟨some 4, .mv (.const (.bool false)), none⟩] [0, 1] []) <|
  .seq (.region [⟨some 5, .mv (.const (.int .i64 (1048576))), none⟩] [0, 1, 5] []) <|
  .seq (.region [⟨some 10, .mv (.tmp 0), none⟩,
     ⟨some 11, .mv (.tmp 5), none⟩,
     ⟨some 12, .call (.func F.laws_szStepS) [(.tmp 10), (.tmp 11)] [], none⟩,
     ⟨some 5, .mv (.tmp 12), none⟩] [0, 1, 5] []) <|
  .seq (.seq (.region [⟨some 13, .mv (.tmp 5), none⟩,
      ⟨some 14, .bin .lss (.tmp 13) (.const (.int .i64 (0))), none⟩] [0, 1, 5, 14] []) <|
   .cond (.tmp 14)
     (.seq (.region [⟨some 4, .mv (.const (.bool true)), none⟩] [4] []) <|
     .ret)
     (.skip)) <|
  .seq (.region [⟨some 15, .mv (.tmp 1), none⟩,
     ⟨some 16, .mv (.tmp 5), none⟩,
     ⟨some 17, .call (.func F.laws_szStepS) [(.tmp 15), (.tmp 16)] [], none⟩,
     ⟨some 5, .mv (.tmp 17), none⟩] [0, 1, 5] []) <|
  .seq (.seq (.region [⟨some 18, .mv (.tmp 5), none⟩,
      ⟨some 19, .bin .lss (.tmp 18) (.const (.int .i64 (0))), none⟩] [0, 1, 19] []) <|
   .cond (.tmp 19)
     (.seq (.region [⟨some 4, .mv (.const (.bool true)), none⟩] [4] []) <|
     .ret)
     (.skip)) <|
  .seq (.region [⟨some 20, .mv (.tmp 0), none⟩,
     ⟨some 21, .call (.func F.laws_toStepS) [(.tmp 20)] [], none⟩,
     ⟨some 22, .mv (.tmp 1), none⟩,
     ⟨some 23, .call (.func F.laws_toStepS) [(.tmp 22)] [], none⟩,
     ⟨some 24, .call (.func F.spec_SameFlow) [(.tmp 21), (.tmp 23)] [], none⟩,
     ⟨some 6, .mv (.tmp 24), none⟩] [0, 1, 6] []) <|
  .seq (.region [⟨some 25, .mv (.tmp 0), none⟩,
     ⟨some 26, .call (.func F.laws_toStepS) [(.tmp 25)] [], none⟩,
     ⟨some 7, .mv (.tmp 26), none⟩] [0, 1, 6, 7] []) <|
  .seq (.region [⟨some 27, .mv (.tmp 1), none⟩,
     ⟨some 28, .call (.func F.laws_toStepS) [(.tmp 27)] [], none⟩,
     ⟨some 8, .mv (.tmp 28), none⟩] [0, 1, 6, 7, 8] []) <|
  .seq (.region [⟨some 29, .mv (.tmp 7), none⟩,
     ⟨some 30, .mv (.tmp 8), none⟩,
     ⟨some 31, .call (.func F.impl_SameFlow) [(.tmp 29), (.tmp 30)] [], none⟩,
     ⟨some 9, .mv (.tmp 31), none⟩] [0, 1, 6, 7, 8, 9] []) <|
  .seq (.seq (.region [⟨some 32, .mv (.tmp 9), none⟩,
      ⟨some 33, .mv (.tmp 6), none⟩,
      ⟨some 34, .binB .neq (.tmp 32) (.tmp 33), none⟩] [0, 1, 7, 8, 34] []) <|
   .cond (.tmp 34)
     (.seq (.region [⟨some 4, .mv (.const (.bool false)), none⟩] [4] []) <|
     .ret)
     (.skip)) <|
  .seq (.seq (.region [⟨some 35, .mv (.tmp 7), none⟩,
      ⟨some 36, .mv (.tmp 0), none⟩,
      ⟨some 37, .call (.func F.laws_toStepS) [(.tmp 36)] [], none⟩,
      ⟨some 38, .call (.func F.laws_eqStepS) [(.tmp 35), (.tmp 37)] [], none⟩,
      ⟨some 39, .un .not (.tmp 38), none⟩] [1, 8, 39] []) <|
   .cond (.tmp 39)
     (.seq (.region [⟨some 4, .mv (.const (.bool false)), none⟩] [4] []) <|
     .ret)
     (.skip)) <|
  .seq (.seq (.region [⟨some 40, .mv (.tmp 8), none⟩,
      ⟨some 41, .mv (.tmp 1), none⟩,
      ⟨some 42, .call (.func F.laws_toStepS) [(.tmp 41)] [], none⟩,
      ⟨some 43, .call (.func F.laws_eqStepS) [(.tmp 40), (.tmp 42)] [], none⟩,
      ⟨some 44, .un .not (.tmp 43), none⟩] [44] []) <|
   .cond (.tmp 44)
     (.seq (.region [⟨some 4, .mv (.const (.bool false)), none⟩] [4] []) <|
     .ret)
     (.skip)) <|
  .seq (.region [⟨some 4, .mv (.const (.bool true)), none⟩] [4] []) <|
  .ret
theorem Cd.laws_FnExactSameFlow_rs : Try.f7.results.toList = [.tmp 4] := rfl
theorem Cd.laws_FnExactSameFlow_nt : Try.f7.ntmps = 45 := rfl
theorem Cd.laws_FnExactSameFlow_ok : CodeIsR Try.prog 7 Try.f7 Cd.laws_FnExactSameFlow := ⟨Try.func7, by kernel_rfl, by decide +kernel⟩
/-- loop.example/g01012/spec.AddControls -/
def Cd.spec_AddControls : ACode :=
  .seq (.region [⟨some 2, .box (.tmp 0), none⟩,
     ⟨some 3, .box (.tmp 1), none⟩,
     ⟨some 4, .alloc [.v (.int .i64 (0)), .v (.int .i64 (0)), .v (.int .i64 (0))], none⟩,
     ⟨some 5, .mv (.const (.int .i64 (0))), none⟩] [2, 3, 4] []) <|
  .seq (.region [⟨some 8, .load true 3 (.tmp 2), none⟩,
     ⟨some 9, .load true 3 (.tmp 3), none⟩,
     ⟨some 10, .call (.func F.spec_l18Two) [(.tmp 8), (.tmp 9)] [], none⟩,
     ⟨some 6, .mv (.tmp 10), none⟩] [2, 3, 4, 6] []) <|
  .seq (.seq (.region [⟨some 11, .mv (.tmp 6), none⟩,
      ⟨some 12, .bin .neq (.tmp 11) (.const (.int .i64 (0))), none⟩] [2, 3, 4, 6, 12] []) <|
   .cond (.tmp 12)
     (.seq (.region [⟨some 13, .build [.v (.int .i64 (0)), .v (.int .i64 (0)), .v (.int .i64 (0))] [], none⟩,
        ⟨some 14, .mv (.tmp 6), none⟩,
        ⟨none, .store 3 (.tmp 4) (.tmp 13), none⟩,
        ⟨some 5, .mv (.tmp 14), none⟩] [4, 5] []) <|
     .ret)
     (.skip)) <|
  .seq (.region [⟨some 15, .fieldAddr 0 (.tmp 2), none⟩,
     ⟨some 16, .load false 1 (.tmp 15), none⟩,
     ⟨some 17, .fieldAddr 0 (.tmp 3), none⟩,
     ⟨some 18, .load false 1 (.tmp 17), none⟩,
     ⟨some 19, .bin .add (.tmp 16) (.tmp 18), none⟩,
     ⟨some 20, .fieldAddr 1 (.tmp 2), none⟩,
     ⟨some 21, .load false 1 (.tmp 20), none⟩,
     ⟨some 22, .fieldAddr 1 (.tmp 3), none⟩,
     ⟨some 23, .load false 1 (.tmp 22), none⟩,
     ⟨some 24, .bin .add (.tmp 21) (.tmp 23), none⟩,
     ⟨some 25, .fieldAddr 2 (.tmp 2), none⟩,
     ⟨some 26, .load false 1 (.tmp 25), none⟩,
     ⟨some 27, .fieldAddr 2 (.tmp 3), none⟩,
     ⟨some 28, .load false 1 (.tmp 27), none⟩,
     ⟨some 29, .bin .add (.tmp 26) (.tmp 28), none⟩,
     ⟨some 30, .build [.v (.int .i64 (0)), .v (.int .i64 (0)), .v (.int .i64 (0))] [(0, 1, (.tmp 19)), (1, 1, (.tmp 24)), (2, 1, (.tmp 29))], none⟩,
     ⟨some 7, .alloc [.v (.int .i64 (0)), .v (.int .i64 (0)), .v (.int .i64 (0))], none⟩,
     ⟨none, .store 3 (.tmp 7) (.tmp 30), none⟩] [4, 7] []) <|
  .seq (.seq (.region [⟨some 31, .load true 3 (.tmp 7), none⟩,
      ⟨some 32, .call (.func F.spec_l18Ok) [(.tmp 31)] [], none⟩,
      ⟨some 33, .un .not (.tmp 32), none⟩] [4, 7, 33] []) <|
   .cond (.tmp 33)
     (.seq (.region [⟨some 34, .build [.v (.int .i64 (0)), .v (.int .i64 (0)), .v (.int .i64 (0))] [], none⟩,
        ⟨none, .store 3 (.tmp 4) (.tmp 34), none⟩,
        ⟨some 5, .mv (.const (.int .i64 (5))), none⟩] [4, 5] []) <|
     .ret)
     (.skip)) <|
  .seq (.region [⟨some 35, .load true 3 (.tmp 7), none⟩,
     ⟨none, .store 3 (.tmp 4) (.tmp 35), none⟩,
     ⟨some 5, .mv (.const (.int .i64 (0))), none⟩] [4, 5] []) <|
  .ret
theorem Cd.spec_AddControls_rs : Try.f15.results.toList = [.cell 4 24, .tmp 5] := rfl
theorem Cd.spec_AddControls_nt : Try.f15.ntmps = 36 := rfl
theorem Cd.spec_AddControls_ok : CodeIsR Try.prog 15 Try.f15 Cd.spec_AddControls := ⟨Try.func15, by kernel_rfl, by decide +kernel⟩
/-- loop.example/g01012/laws.toControl -/
def Cd.laws_toControl : ACode :=
  .seq (.region [⟨some 1, .box (.tmp 0), none⟩,
     ⟨some 2, .alloc [.v (.int .i64 (0)), .v (.int .i64 (0)), .v (.int .i64 (0))], none⟩] [1, 2] []) <|
  .seq (.region [⟨some 3, .alloc [.v (.int .i64 (0)), .v (.int .i64 (0)), .v (.int .i64 (0))], none⟩] [1, 2, 3] []) <|
  .seq (.region [⟨some 4, .fieldAddr 0 (.tmp 1), none⟩,
     ⟨some 5, .load false 1 (.tmp 4), none⟩,
     ⟨some 6, .fieldAddr 0 (.tmp 3), none⟩,
     ⟨none, .store 1 (.tmp 6) (.tmp 5), none⟩] [1, 2, 3] []) <|
  .seq (.region [⟨some 7, .fieldAddr 1 (.tmp 1), none⟩,
     ⟨some 8, .load false 1 (.tmp 7), none⟩,
     ⟨some 9, .fieldAddr 1 (.tmp 3), none⟩,
     ⟨none, .store 1 (.tmp 9) (.tmp 8), none⟩] [1, 2, 3] []) <|
  .seq (.region [⟨some 10, .fieldAddr 2 (.tmp 1), none⟩,
     ⟨some 11, .load false 1 (.tmp 10), none⟩,
     ⟨some 12, .fieldAddr 2 (.tmp 3), none⟩,
     ⟨none, .store 1 (.tmp 12) (.tmp 11), none⟩] [2, 3] []) <|
  .seq (.region [⟨some 13, .load true 3 (.tmp 3), none⟩,
     ⟨none, .store 3 (.tmp 2) (.tmp 13), none⟩] [2] []) <|
  .ret
theorem Cd.laws_toControl_rs : Try.f16.results.toList = [.cell 2 24] := rfl
theorem Cd.laws_toControl_nt : Try.f16.ntmps = 14 := rfl
theorem Cd.laws_toControl_ok : CodeIsR Try.prog 16 Try.f16 Cd.laws_toControl := ⟨Try.func16, by kernel_rfl, by decide +kernel⟩
/-- loop.example/g01012/impl.AddControls -/
def Cd.impl_AddControls : ACode :=
  .seq (.region [⟨some 2, .box (.tmp 0), none⟩,
     ⟨some 3, .box (.tmp 1), none⟩,
     ⟨some 4, .alloc [.v (.int .i64 (0)), .v (.int .i64 (0)), .v (.int .i64 (0))], none⟩,
     ⟨some 5, .mv (.const (.int .i64 (0))), none⟩] [2, 3, 4] []) <|
  .seq (.region [⟨some 6, .load true 3 (.tmp 2), none⟩,
     ⟨some 7, .load true 3 (.tmp 3), none⟩,
     ⟨some 8, .call (.func F.impl_joinedControls) [(.tmp 6), (.tmp 7), (.const (.int .i64 (1)))] [], none⟩,
     ⟨some 9, .extract (.tmp 8) 0, none⟩,
     ⟨some 10, .extract (.tmp 8) 1, none⟩,
     ⟨none, .store 3 (.tmp 4) (.tmp 9), none⟩,
     ⟨some 5, .mv (.tmp 10), none⟩] [4, 5] []) <|
  .ret
theorem Cd.impl_AddControls_rs : Try.f17.results.toList = [.cell 4 24, .tmp 5] := rfl
theorem Cd.impl_AddControls_nt : Try.f17.ntmps = 11 := rfl
theorem Cd.impl_AddControls_ok : CodeIsR Try.prog 17 Try.f17 Cd.impl_AddControls := ⟨Try.func17, by kernel_rfl, by decide +kernel⟩
/-- loop.example/g01012/laws.eqControl -/
def Cd.laws_eqControl : ACode :=
  .seq (.region [⟨some 2, .box (.tmp 0), none⟩,
     ⟨some 3, .box (.tmp 1), none⟩,
     ⟨some 4, .mv (.const (.bool false)), none⟩] [2, 3] []) <|
  .seq (.seq (.region [⟨some 5, .fieldAddr 0 (.tmp 2), none⟩,
      ⟨some 6, .load false 1 (.tmp 5), none⟩,
      ⟨some 7, .fieldAddr 0 (.tmp 3), none⟩,
      ⟨some 8, .load false 1 (.tmp 7), none⟩,
      ⟨some 9, .bin .neq (.tmp 6) (.tmp 8), none⟩] [2, 3, 9] []) <|
   .cond (.tmp 9)
     (.seq (.region [⟨some 4, .mv (.const (.bool false)), none⟩] [4] []) <|
     .ret)
     (.skip)) <|
  .seq (.seq (.region [⟨some 10, .fieldAddr 1 (.tmp 2), none⟩,
      ⟨some 11, .load false 1 (.tmp 10), none⟩,
      ⟨some 12, .fieldAddr 1 (.tmp 3), none⟩,
      ⟨some 13, .load false 1 (.tmp 12), none⟩,
      ⟨some 14, .bin .neq (.tmp 11) (.tmp 13), none⟩] [2, 3, 14] []) <|
   .cond (.tmp 14)
     (.seq (.region [⟨some 4, .mv (.const (.bool false)), none⟩] [4] []) <|
     .ret)
     (.skip)) <|
  .seq (.seq (.region [⟨some 15, .fieldAddr 2 (.tmp 2), none⟩,
      ⟨some 16, .load false 1 (.tmp 15), none⟩,
      ⟨some 17, .fieldAddr 2 (.tmp 3), none⟩,
      ⟨some 18, .load false 1 (.tmp 17), none⟩,
      ⟨some 19, .bin .neq (.tmp 16) (.tmp 18), none⟩] [19] []) <|
   .cond (.tmp 19)
     (.seq (.region [⟨some 4, .mv (.const (.bool false)), none⟩] [4] []) <|
     .ret)
     (.skip)) <|
  .seq (.region [⟨some 4, .mv (.const (.bool true)), none⟩] [4] []) <|
  .ret
theorem Cd.laws_eqControl_rs : Try.f18.results.toList = [.tmp 4] := rfl
theorem Cd.laws_eqControl_nt : Try.f18.ntmps = 20 := rfl
theorem Cd.laws_eqControl_ok : CodeIsR Try.prog 18 Try.f18 Cd.laws_eqControl := ⟨Try.func18, by kernel_rfl, by decide +kernel⟩
/-- loop.example/g01012/spec.TakeControls -/
def Cd.spec_TakeControls : ACode :=
  .seq (.region [⟨some 2, .box (.tmp 0), none⟩,
     ⟨some 3, .box (.tmp 1), none⟩,
     ⟨some 4, .alloc [.v (.int .i64 (0)), .v (.int .i64 (0)), .v (.int .i64 (0))], none⟩,
     ⟨some 5, .mv (.const (.int .i64 (0))), none⟩] [2, 3, 4] []) <|
  .seq (.region [⟨some 8, .load true 3 (.tmp 2), none⟩,
     ⟨some 9, .load true 3 (.tmp 3), none⟩,
     ⟨some 10, .call (.func F.spec_l18Two) [(.tmp 8), (.tmp 9)] [], none⟩,
     ⟨some 6, .mv (.tmp 10), none⟩] [2, 3, 4, 6] []) <|
  .seq (.seq (.region [⟨some 11, .mv (.tmp 6), none⟩,
      ⟨some 12, .bin .neq (.tmp 11) (.const (.int .i64 (0))), none⟩] [2, 3, 4, 6, 12] []) <|
   .cond (.tmp 12)
     (.seq (.region [⟨some 13, .build [.v (.int .i64 (0)), .v (.int .i64 (0)), .v (.int .i64 (0))] [], none⟩,
        ⟨some 14, .mv (.tmp 6), none⟩,
        ⟨none, .store 3 (.tmp 4) (.tmp 13), none⟩,
        ⟨some 5, .mv (.tmp 14), none⟩] [4, 5] []) <|
     .ret)
     (.skip)) <|
  .seq (.region [⟨some 15, .fieldAddr 0 (.tmp 2), none⟩,
     ⟨some 16, .load false 1 (.tmp 15), none⟩,
     ⟨some 17, .fieldAddr 0 (.tmp 3), none⟩,
     ⟨some 18, .load false 1 (.tmp 17), none⟩,
     ⟨some 19, .bin .sub (.tmp 16) (.tmp 18), none⟩,
     ⟨some 20, .fieldAddr 1 (.tmp 2), none⟩,
     ⟨some 21, .load false 1 (.tmp 20), none⟩,
     ⟨some 22, .fieldAddr 1 (.tmp 3), none⟩,
     ⟨some 23, .load false 1 (.tmp 22), none⟩,
     ⟨some 24, .bin .sub (.tmp 21) (.tmp 23), none⟩,
     ⟨some 25, .fieldAddr 2 (.tmp 2), none⟩,
     ⟨some 26, .load false 1 (.tmp 25), none⟩,
     ⟨some 27, .fieldAddr 2 (.tmp 3), none⟩,
     ⟨some 28, .load false 1 (.tmp 27), none⟩,
     ⟨some 29, .bin .sub (.tmp 26) (.tmp 28), none⟩,
     ⟨some 30, .build [.v (.int .i64 (0)), .v (.int .i64 (0)), .v (.int .i64 (0))] [(0, 1, (.tmp 19)), (1, 1, (.tmp 24)), (2, 1, (.tmp 29))], none⟩,
     ⟨some 7, .alloc [.v (.int .i64 (0)), .v (.int .i64 (0)), .v (.int .i64 (0))], none⟩,
     ⟨none, .store 3 (.tmp 7) (.tmp 30), none⟩] [4, 7] []) <|
  .seq (.seq (.region [⟨some 31, .load true 3 (.tmp 7), none⟩,
      ⟨some 32, .call (.func F.spec_l18Ok) [(.tmp 31)] [], none⟩,
      ⟨some 33, .un .not (.tmp 32), none⟩] [4, 7, 33] []) <|
   .cond (.tmp 33)
     (.seq (.region [⟨some 34, .build [.v (.int .i64 (0)), .v (.int .i64 (0)), .v (.int .i64 (0))] [], none⟩,
        ⟨none, .store 3 (.tmp 4) (.tmp 34), none⟩,
        ⟨some 5, .mv (.const (.int .i64 (5))), none⟩] [4, 5] []) <|
     .ret)
     (.skip)) <|
  .seq (.region [⟨some 35, .load true 3 (.tmp 7), none⟩,
     ⟨none, .store 3 (.tmp 4) (.tmp 35), none⟩,
     ⟨some 5, .mv (.const (.int .i64 (0))), none⟩] [4, 5] []) <|
  .ret
theorem Cd.spec_TakeControls_rs : Try.f19.results.toList = [.cell 4 24, .tmp 5] := rfl
theorem Cd.spec_TakeControls_nt : Try.f19.ntmps = 36 := rfl
theorem Cd.spec_TakeControls_ok : CodeIsR Try.prog 19 Try.f19 Cd.spec_TakeControls := ⟨Try.func19, by kernel_rfl, by decide +kernel⟩
/-- loop.example/g01012/impl.TakeControls -/
def Cd.impl_TakeControls : ACode :=
  .seq (.region [⟨some 2, .box (.tmp 0), none⟩,
     ⟨some 3, .box (.tmp 1), none⟩,
     ⟨some 4, .alloc [.v (.int .i64 (0)), .v (.int .i64 (0)), .v (.int .i64 (0))], none⟩,
     ⟨some 5, .mv (.const (.int .i64 (0))), none⟩] [2, 3, 4] []) <|
  .seq (.region [⟨some 6, .load true 3 (.tmp 2), none⟩,
     ⟨some 7, .load true 3 (.tmp 3), none⟩,
     ⟨some 8, .call (.func F.impl_joinedControls) [(.tmp 6), (.tmp 7), (.const (.int .i64 (-1)))] [], none⟩,
     ⟨some 9, .extract (.tmp 8) 0, none⟩,
     ⟨some 10, .extract (.tmp 8) 1, none⟩,
     ⟨none, .store 3 (.tmp 4) (.tmp 9), none⟩,
     ⟨some 5, .mv (.tmp 10), none⟩] [4, 5] []) <|
  .ret
theorem Cd.impl_TakeControls_rs : Try.f20.results.toList = [.cell 4 24, .tmp 5] := rfl
theorem Cd.impl_TakeControls_nt : Try.f20.ntmps = 11 := rfl
theorem Cd.impl_TakeControls_ok : CodeIsR Try.prog 20 Try.f20 Cd.impl_TakeControls := ⟨Try.func20, by kernel_rfl, by decide +kernel⟩
/-- loop.example/g01012/laws.szTotalS -/
def Cd.laws_szTotalS : ACode :=
  .seq (.region [⟨some 4, .mv (.const (.int .i64 (0))), none⟩] [0, 1] []) <|
  .seq (.region [⟨some 6, .mv (.tmp 1), none⟩,
     ⟨some 7, .mv (.tmp 0), none⟩,
     ⟨some 8, .len (.tmp 7), none⟩,
     ⟨some 9, .bin .sub (.tmp 6) (.tmp 8), none⟩,
     ⟨some 1, .mv (.tmp 9), none⟩] [0, 1] []) <|
  .seq (.seq (.region [⟨some 10, .mv (.tmp 1), none⟩,
      ⟨some 11, .bin .lss (.tmp 10) (.const (.int .i64 (0))), none⟩] [0, 1, 11] []) <|
   .cond (.tmp 11)
     (.seq (.region [⟨some 4, .mv (.const (.int .i64 (-1))), none⟩] [4] []) <|
     .ret)
     (.skip)) <|
  .seq (.seq (.region [⟨some 5, .mv (.const (.int .i64 (0))), none⟩] [0, 1, 5] []) <|
   .block 0 (
     .loop (
       .seq (.seq (.region [⟨some 12, .mv (.tmp 5), none⟩,
           ⟨some 13, .mv (.tmp 0), none⟩,
           ⟨some 14, .len (.tmp 13), none⟩,
           ⟨some 15, .bin .lss (.tmp 12) (.tmp 14), none⟩] [0, 1, 5, 15] []) <|
        .cond (.tmp 15)
          (.skip)
          (.exit 0)) <|
       .seq (.block 1 (
          .seq (.region [⟨some 18, .mv (.tmp 0), none⟩,
             ⟨some 19, .mv (.tmp 5), none⟩,
             ⟨some 20, .idxSl 2 (.tmp 18) (.tmp 19), none⟩,
             ⟨some 21, .load true 2 (.tmp 20), none⟩,
             ⟨some 22, .mv (.tmp 1), none⟩,
             ⟨some 23, .call (.func F.laws_szTotal) [(.tmp 21), (.tmp 22)] [], none⟩,
             ⟨some 1, .mv (.tmp 23), none⟩] [0, 1, 5] []) <|
          .seq (.region [⟨some 24, .mv (.tmp 1), none⟩,
             ⟨some 25, .bin .lss (.tmp 24) (.const (.int .i64 (0))), none⟩] [0, 1, 5, 25] []) <|
          .cond (.tmp 25)
            (.seq (.region [⟨some 4, .mv (.const (.int .i64 (-1))), none⟩] [4] []) <|
            .ret)
            (.skip))) <|
       .region [⟨some 16, .mv (.tmp 5), none⟩,
         ⟨some 17, .bin .add (.tmp 16) (.const (.int .i64 (1))), none⟩,
         ⟨some 5, .mv (.tmp 17), none⟩] [0, 1, 5] []))) <|
  .seq (.region [⟨some 26, .mv (.tmp 1), none⟩,
     ⟨some 4, .mv (.tmp 26), none⟩] [4] []) <|
  .ret
theorem Cd.laws_szTotalS_rs : Try.f21.results.toList = [.tmp 4] := rfl
theorem Cd.laws_szTotalS_nt : Try.f21.ntmps = 27 := rfl
theorem Cd.laws_szTotalS_ok : CodeIsR Try.prog 21 Try.f21 Cd.laws_szTotalS := ⟨Try.func21, by kernel_rfl, by decide +kernel⟩
/-- loop.example/g01012/spec.SameTotals -/
def Cd.spec_SameTotals : ACode :=
  .seq (.region [⟨some 4, .mv (.const (.bool false)), none⟩] [0, 1] []) <|
  .seq (.region [⟨some 5, .mv (.tmp 0), none⟩,
     ⟨some 6, .mv (.tmp 1), none⟩,
     ⟨some 7, .call (.func F.spec_l15Totals) [(.tmp 5), (.tmp 6)] [], none⟩,
     ⟨some 4, .mv (.tmp 7), none⟩] [4] []) <|
  .ret
theorem Cd.spec_SameTotals_rs : Try.f22.results.toList = [.tmp 4] := rfl
theorem Cd.spec_SameTotals_nt : Try.f22.ntmps = 8 := rfl
theorem Cd.spec_SameTotals_ok : CodeIsR Try.prog 22 Try.f22 Cd.spec_SameTotals := ⟨Try.func22, by kernel_rfl, by decide +kernel⟩
/-- loop.example/g01012/laws.toTotalS -/
def Cd.laws_toTotalS : ACode :=
  .seq (.region [⟨some 2, .mv (.const (.slice none 0 0)), none⟩] [0] []) <|
  .seq (.region [⟨some 5, .mv (.tmp 0), none⟩,
     ⟨some 6, .len (.tmp 5), none⟩,
     ⟨some 7, .mk 2 24 [.v (.string ⟨#[]⟩), .v (.int .i64 (0))] (.tmp 6), none⟩,
     ⟨some 3, .mv (.tmp 7), none⟩] [0, 3] []) <|
  .seq (.seq (.region [⟨some 4, .mv (.const (.int .i64 (0))), none⟩] [0, 3, 4] []) <|
   .block 0 (
     .loop (
       .seq (.seq (.region [⟨some 8, .mv (.tmp 4), none⟩,
           ⟨some 9, .mv (.tmp 0), none⟩,
           ⟨some 10, .len (.tmp 9), none⟩,
           ⟨some 11, .bin .lss (.tmp 8) (.tmp 10), none⟩] [0, 3, 4, 11] []) <|
        .cond (.tmp 11)
          (.skip)
          (.exit 0)) <|
       .seq (.block 1 (
          .region [⟨some 14, .mv (.tmp 3), none⟩,
            ⟨some 15, .mv (.tmp 4), none⟩,
            ⟨some 16, .mv (.tmp 0), none⟩,
            ⟨some 17, .mv (.tmp 4), none⟩,
            ⟨some 18, .idxSl 2 (.tmp 16) (.tmp 17), none⟩,
            ⟨some 19, .load true 2 (.tmp 18), none⟩,
            ⟨some 20, .call (.func F.laws_toTotal) [(.tmp 19)] [], none⟩,
            ⟨some 21, .idxSl 2 (.tmp 14) (.tmp 15), none⟩,
            ⟨none, .store 2 (.tmp 21) (.tmp 20), none⟩] [0, 3, 4] [])) <|
       .region [⟨some 12, .mv (.tmp 4), none⟩,
         ⟨some 13, .bin .add (.tmp 12) (.const (.int .i64 (1))), none⟩,
         ⟨some 4, .mv (.tmp 13), none⟩] [0, 3, 4] []))) <|
  .seq (.region [⟨some 22, .mv (.tmp 3), none⟩,
     ⟨some 2, .mv (.tmp 22), none⟩] [2] []) <|
  .ret
theorem Cd.laws_toTotalS_rs : Try.f23.results.toList = [.tmp 2] := rfl
theorem Cd.laws_toTotalS_nt : Try.f23.ntmps = 23 := rfl
theorem Cd.laws_toTotalS_ok : CodeIsR Try.prog 23 Try.f23 Cd.laws_toTotalS := ⟨Try.func23, by kernel_rfl, by decide +kernel⟩
/-- loop.example/g01012/impl.SameTotals -/
def Cd.impl_SameTotals : ACode :=
  .seq (.region [⟨some 4, .mv (.const (.bool false)), none⟩] [0, 1] []) <|
  .seq (.region [⟨some 5, .mv (.tmp 0), none⟩,
     ⟨some 6, .mv (.tmp 1), none⟩,
     ⟨some 7, .call (.func F.slices_Equal___impl_Total_impl_Total_) [(.tmp 5), (.tmp 6)] [], none⟩,
     ⟨some 4, .mv (.tmp 7), none⟩] [4] []) <|
  .ret
theorem Cd.impl_SameTotals_rs : Try.f24.results.toList = [.tmp 4] := rfl
theorem Cd.impl_SameTotals_nt : Try.f24.ntmps = 8 := rfl
theorem Cd.impl_SameTotals_ok : CodeIsR Try.prog 24 Try.f24 Cd.impl_SameTotals := ⟨Try.func24, by kernel_rfl, by decide +kernel⟩
/-- loop.example/g01012/laws.eqTotalS DRAWS -/
def Cd.laws_eqTotalS : ACode :=
  .seq (.region [⟨some 4, .mv (.const (.bool false)), none⟩] [0, 1] []) <|
  .seq (.seq (.region [⟨some 6, .mv (.tmp 0), none⟩,
      ⟨some 7, .len (.tmp 6), none⟩,
      ⟨some 8, .mv (.tmp 1), none⟩,
      ⟨some 9, .len (.tmp 8), none⟩,
      ⟨some 10, .bin .neq (.tmp 7) (.tmp 9), none⟩] [0, 1, 10] []) <|
   .cond (.tmp 10)
     (.seq (.region [⟨some 4, .mv (.const (.bool false)), none⟩] [4] []) <|
     .ret)
     (.skip)) <|
  .seq (.seq (.region [⟨some 5, .mv (.const (.int .i64 (0))), none⟩] [0, 1, 5] []) <|
   .block 0 (
     .loop (
       .seq (.seq (.region [⟨some 11, .mv (.tmp 5), none⟩,
           ⟨some 12, .mv (.tmp 0), none⟩,
           ⟨some 13, .len (.tmp 12), none⟩,
           ⟨some 14, .bin .lss (.tmp 11) (.tmp 13), none⟩] [0, 1, 5, 14] []) <|
        .cond (.tmp 14)
          (.skip)
          (.exit 0)) <|
       .seq (.block 1 (
          .seq (.region [⟨some 17, .mv (.tmp 0), none⟩,
             ⟨some 18, .mv (.tmp 5), none⟩,
             ⟨some 19, .idxSl 2 (.tmp 17) (.tmp 18), none⟩,
             ⟨some 20, .load true 2 (.tmp 19), none⟩,
             ⟨some 21, .mv (.tmp 1), none⟩,
             ⟨some 22, .mv (.tmp 5), none⟩,
             ⟨some 23, .idxSl 2 (.tmp 21) (.tmp 22), none⟩,
             ⟨some 24, .load true 2 (.tmp 23), none⟩,
             ⟨some 25, .call (.func F.laws_eqTotal) [(.tmp 20), (.tmp 24)] [], none⟩,
             ⟨some 26, .un .not (.tmp 25), none⟩] [0, 1, 5, 26] [17, 18, 20, 21, 19, 22, 23, 24, 25, 26]) <|
          .cond (.tmp 26)
            (.seq (.region [⟨some 4, .mv (.const (.bool false)), none⟩] [4] []) <|
            .ret)
            (.skip))) <|
       .region [⟨some 15, .mv (.tmp 5), none⟩,
         ⟨some 16, .bin .add (.tmp 15) (.const (.int .i64 (1))), none⟩,
         ⟨some 5, .mv (.tmp 16), none⟩] [0, 1, 5] []))) <|
  .seq (.region [⟨some 4, .mv (.const (.bool true)), none⟩] [4] []) <|
  .ret
theorem Cd.laws_eqTotalS_rs : Try.f25.results.toList = [.tmp 4] := rfl
theorem Cd.laws_eqTotalS_nt : Try.f25.ntmps = 27 := rfl
theorem Cd.laws_eqTotalS_ok : CodeIsR Try.prog 25 Try.f25 Cd.laws_eqTotalS := ⟨Try.func25, by kernel_rfl, by decide +kernel⟩
/-- loop.example/g01012/laws.szStepS -/
def Cd.laws_szStepS : ACode :=
  .seq (.region [⟨some 4, .mv (.const (.int .i64 (0))), none⟩] [0, 1] []) <|
  .seq (.region [⟨some 6, .mv (.tmp 1), none⟩,
     ⟨some 7, .mv (.tmp 0), none⟩,
     ⟨some 8, .len (.tmp 7), none⟩,
     ⟨some 9, .bin .sub (.tmp 6) (.tmp 8), none⟩,
     ⟨some 1, .mv (.tmp 9), none⟩] [0, 1] []) <|
  .seq (.seq (.region [⟨some 10, .mv (.tmp 1), none⟩,
      ⟨some 11, .bin .lss (.tmp 10) (.const (.int .i64 (0))), none⟩] [0, 1, 11] []) <|
   .cond (.tmp 11)
     (.seq (.region [⟨some 4, .mv (.const (.int .i64 (-1))), none⟩] [4] []) <|
     .ret)
     (.skip)) <|
  .seq (.seq (.region [⟨some 5, .mv (.const (.int .i64 (0))), none⟩] [0, 1, 5] []) <|
   .block 0 (
     .loop (
       .seq (.seq (.region [⟨some 12, .mv (.tmp 5), none⟩,
           ⟨some 13, .mv (.tmp 0), none⟩,
           ⟨some 14, .len (.tmp 13), none⟩,
           ⟨some 15, .bin .lss (.tmp 12) (.tmp 14), none⟩] [0, 1, 5, 15] []) <|
        .cond (.tmp 15)
          (.skip)
          (.exit 0)) <|
       .seq (.block 1 (
          .seq (.region [⟨some 18, .mv (.tmp 0), none⟩,
             ⟨some 19, .mv (.tmp 5), none⟩,
             ⟨some 20, .idxSl 9 (.tmp 18) (.tmp 19), none⟩,
             ⟨some 21, .load true 9 (.tmp 20), none⟩,
             ⟨some 22, .mv (.tmp 1), none⟩,
             ⟨some 23, .call (.func F.laws_szStep) [(.tmp 21), (.tmp 22)] [], none⟩,
             ⟨some 1, .mv (.tmp 23), none⟩] [0, 1, 5] []) <|
          .seq (.region [⟨some 24, .mv (.tmp 1), none⟩,
             ⟨some 25, .bin .lss (.tmp 24) (.const (.int .i64 (0))), none⟩] [0, 1, 5, 25] []) <|
          .cond (.tmp 25)
            (.seq (.region [⟨some 4, .mv (.const (.int .i64 (-1))), none⟩] [4] []) <|
            .ret)
            (.skip))) <|
       .region [⟨some 16, .mv (.tmp 5), none⟩,
         ⟨some 17, .bin .add (.tmp 16) (.const (.int .i64 (1))), none⟩,
         ⟨some 5, .mv (.tmp 17), none⟩] [0, 1, 5] []))) <|
  .seq (.region [⟨some 26, .mv (.tmp 1), none⟩,
     ⟨some 4, .mv (.tmp 26), none⟩] [4] []) <|
  .ret
theorem Cd.laws_szStepS_rs : Try.f30.results.toList = [.tmp 4] := rfl
theorem Cd.laws_szStepS_nt : Try.f30.ntmps = 27 := rfl
theorem Cd.laws_szStepS_ok : CodeIsR Try.prog 30 Try.f30 Cd.laws_szStepS := ⟨Try.func30, by kernel_rfl, by decide +kernel⟩
/-- loop.example/g01012/spec.SameFlow DRAWS -/
def Cd.spec_SameFlow : ACode :=
  .seq (.region [⟨some 4, .mv (.const (.bool false)), none⟩] [0, 1] []) <|
  .seq (.seq (.region [⟨some 6, .mv (.tmp 0), none⟩,
      ⟨some 7, .len (.tmp 6), none⟩,
      ⟨some 8, .mv (.tmp 1), none⟩,
      ⟨some 9, .len (.tmp 8), none⟩,
      ⟨some 10, .bin .neq (.tmp 7) (.tmp 9), none⟩] [0, 1, 10] []) <|
   .cond (.tmp 10)
     (.seq (.region [⟨some 4, .mv (.const (.bool false)), none⟩] [4] []) <|
     .ret)
     (.skip)) <|
  .seq (.seq (.region [⟨some 5, .mv (.const (.int .i64 (0))), none⟩] [0, 1, 5] []) <|
   .block 0 (
     .loop (
       .seq (.seq (.region [⟨some 11, .mv (.tmp 5), none⟩,
           ⟨some 12, .mv (.tmp 0), none⟩,
           ⟨some 13, .len (.tmp 12), none⟩,
           ⟨some 14, .bin .lss (.tmp 11) (.tmp 13), none⟩] [0, 1, 5, 14] []) <|
        .cond (.tmp 14)
          (.skip)
          (.exit 0)) <|
       .seq (.block 1 (
          .seq (.region [⟨some 17, .mv (.tmp 0), none⟩,
             ⟨some 18, .mv (.tmp 5), none⟩,
             ⟨some 19, .idxSl 9 (.tmp 17) (.tmp 18), none⟩,
             ⟨some 20, .load true 9 (.tmp 19), none⟩,
             ⟨some 21, .mv (.tmp 1), none⟩,
             ⟨some 22, .mv (.tmp 5), none⟩,
             ⟨some 23, .idxSl 9 (.tmp 21) (.tmp 22), none⟩,
             ⟨some 24, .load true 9 (.tmp 23), none⟩,
             ⟨some 25, .eqA true [0, 0, 0, 0, 0, 0, 0, 0, 2] (.tmp 20) (.tmp 24), none⟩] [0, 1, 5, 25] [17, 18, 20, 21, 19, 22, 23, 24, 25]) <|
          .cond (.tmp 25)
            (.seq (.region [⟨some 4, .mv (.const (.bool false)), none⟩] [4] []) <|
            .ret)
            (.skip))) <|
       .region [⟨some 15, .mv (.tmp 5), none⟩,
         ⟨some 16, .bin .add (.tmp 15) (.const (.int .i64 (1))), none⟩,
         ⟨some 5, .mv (.tmp 16), none⟩] [0, 1, 5] []))) <|
  .seq (.region [⟨some 4, .mv (.const (.bool true)), none⟩] [4] []) <|
  .ret
theorem Cd.spec_SameFlow_rs : Try.f31.results.toList = [.tmp 4] := rfl
theorem Cd.spec_SameFlow_nt : Try.f31.ntmps = 26 := rfl
theorem Cd.spec_SameFlow_ok : CodeIsR Try.prog 31 Try.f31 Cd.spec_SameFlow := ⟨Try.func31, by kernel_rfl, by decide +kernel⟩
/-- loop.example/g01012/laws.toStepS -/
def Cd.laws_toStepS : ACode :=
  .seq (.region [⟨some 2, .mv (.const (.slice none 0 0)), none⟩] [0] []) <|
  .seq (.region [⟨some 5, .mv (.tmp 0), none⟩,
     ⟨some 6, .len (.tmp 5), none⟩,
     ⟨some 7, .mk 9 80 [.v (.int .i64 (0)), .v (.int .i64 (0)), .v (.int .i64 (0)), .v (.int .i64 (0)), .v (.int .i64 (0)), .v (.int .i64 (0)), .v (.int .i64 (0)), .v (.int .i64 (0)), .v (.string ⟨#[]⟩)] (.tmp 6), none⟩,
     ⟨some 3, .mv (.tmp 7), none⟩] [0, 3] []) <|
  .seq (.seq (.region [⟨some 4, .mv (.const (.int .i64 (0))), none⟩] [0, 3, 4] []) <|
   .block 0 (
     .loop (
       .seq (.seq (.region [⟨some 8, .mv (.tmp 4), none⟩,
           ⟨some 9, .mv (.tmp 0), none⟩,
           ⟨some 10, .len (.tmp 9), none⟩,
           ⟨some 11, .bin .lss (.tmp 8) (.tmp 10), none⟩] [0, 3, 4, 11] []) <|
        .cond (.tmp 11)
          (.skip)
          (.exit 0)) <|
       .seq (.block 1 (
          .region [⟨some 14, .mv (.tmp 3), none⟩,
            ⟨some 15, .mv (.tmp 4), none⟩,
            ⟨some 16, .mv (.tmp 0), none⟩,
            ⟨some 17, .mv (.tmp 4), none⟩,
            ⟨some 18, .idxSl 9 (.tmp 16) (.tmp 17), none⟩,
            ⟨some 19, .load true 9 (.tmp 18), none⟩,
            ⟨some 20, .call (.func F.laws_toStep) [(.tmp 19)] [], none⟩,
            ⟨some 21, .idxSl 9 (.tmp 14) (.tmp 15), none⟩,
            ⟨none, .store 9 (.tmp 21) (.tmp 20), none⟩] [0, 3, 4] [])) <|
       .region [⟨some 12, .mv (.tmp 4), none⟩,
         ⟨some 13, .bin .add (.tmp 12) (.const (.int .i64 (1))), none⟩,
         ⟨some 4, .mv (.tmp 13), none⟩] [0, 3, 4] []))) <|
  .seq (.region [⟨some 22, .mv (.tmp 3), none⟩,
     ⟨some 2, .mv (.tmp 22), none⟩] [2] []) <|
  .ret
theorem Cd.laws_toStepS_rs : Try.f32.results.toList = [.tmp 2] := rfl
theorem Cd.laws_toStepS_nt : Try.f32.ntmps = 23 := rfl
theorem Cd.laws_toStepS_ok : CodeIsR Try.prog 32 Try.f32 Cd.laws_toStepS := ⟨Try.func32, by kernel_rfl, by decide +kernel⟩
/-- loop.example/g01012/impl.SameFlow -/
def Cd.impl_SameFlow : ACode :=
  .seq (.region [⟨some 4, .mv (.const (.bool false)), none⟩] [0, 1] []) <|
  .seq (.region [⟨some 5, .mv (.tmp 0), none⟩,
     ⟨some 6, .mv (.tmp 1), none⟩,
     ⟨some 7, .call (.func F.slices_Equal___impl_Step_impl_Step_) [(.tmp 5), (.tmp 6)] [], none⟩,
     ⟨some 4, .mv (.tmp 7), none⟩] [4] []) <|
  .ret
theorem Cd.impl_SameFlow_rs : Try.f33.results.toList = [.tmp 4] := rfl
theorem Cd.impl_SameFlow_nt : Try.f33.ntmps = 8 := rfl
theorem Cd.impl_SameFlow_ok : CodeIsR Try.prog 33 Try.f33 Cd.impl_SameFlow := ⟨Try.func33, by kernel_rfl, by decide +kernel⟩
/-- loop.example/g01012/laws.eqStepS DRAWS -/
def Cd.laws_eqStepS : ACode :=
  .seq (.region [⟨some 4, .mv (.const (.bool false)), none⟩] [0, 1] []) <|
  .seq (.seq (.region [⟨some 6, .mv (.tmp 0), none⟩,
      ⟨some 7, .len (.tmp 6), none⟩,
      ⟨some 8, .mv (.tmp 1), none⟩,
      ⟨some 9, .len (.tmp 8), none⟩,
      ⟨some 10, .bin .neq (.tmp 7) (.tmp 9), none⟩] [0, 1, 10] []) <|
   .cond (.tmp 10)
     (.seq (.region [⟨some 4, .mv (.const (.bool false)), none⟩] [4] []) <|
     .ret)
     (.skip)) <|
  .seq (.seq (.region [⟨some 5, .mv (.const (.int .i64 (0))), none⟩] [0, 1, 5] []) <|
   .block 0 (
     .loop (
       .seq (.seq (.region [⟨some 11, .mv (.tmp 5), none⟩,
           ⟨some 12, .mv (.tmp 0), none⟩,
           ⟨some 13, .len (.tmp 12), none⟩,
           ⟨some 14, .bin .lss (.tmp 11) (.tmp 13), none⟩] [0, 1, 5, 14] []) <|
        .cond (.tmp 14)
          (.skip)
          (.exit 0)) <|
       .seq (.block 1 (
          .seq (.region [⟨some 17, .mv (.tmp 0), none⟩,
             ⟨some 18, .mv (.tmp 5), none⟩,
             ⟨some 19, .idxSl 9 (.tmp 17) (.tmp 18), none⟩,
             ⟨some 20, .load true 9 (.tmp 19), none⟩,
             ⟨some 21, .mv (.tmp 1), none⟩,
             ⟨some 22, .mv (.tmp 5), none⟩,
             ⟨some 23, .idxSl 9 (.tmp 21) (.tmp 22), none⟩,
             ⟨some 24, .load true 9 (.tmp 23), none⟩,
             ⟨some 25, .call (.func F.laws_eqStep) [(.tmp 20), (.tmp 24)] [], none⟩,
             ⟨some 26, .un .not (.tmp 25), none⟩] [0, 1, 5, 26] [17, 18, 20, 21, 19, 22, 23, 24, 25, 26]) <|
          .cond (.tmp 26)
            (.seq (.region [⟨some 4, .mv (.const (.bool false)), none⟩] [4] []) <|
            .ret)
            (.skip))) <|
       .region [⟨some 15, .mv (.tmp 5), none⟩,
         ⟨some 16, .bin .add (.tmp 15) (.const (.int .i64 (1))), none⟩,
         ⟨some 5, .mv (.tmp 16), none⟩] [0, 1, 5] []))) <|
  .seq (.region [⟨some 4, .mv (.const (.bool true)), none⟩] [4] []) <|
  .ret
theorem Cd.laws_eqStepS_rs : Try.f34.results.toList = [.tmp 4] := rfl
theorem Cd.laws_eqStepS_nt : Try.f34.ntmps = 27 := rfl
theorem Cd.laws_eqStepS_ok : CodeIsR Try.prog 34 Try.f34 Cd.laws_eqStepS := ⟨Try.func34, by kernel_rfl, by decide +kernel⟩
/-- loop.example/g01012/laws.szStep -/
def Cd.laws_szStep : ACode :=
  .seq (.region [⟨some 2, .box (.tmp 0), none⟩,
     ⟨some 4, .mv (.const (.int .i64 (0))), none⟩] [1, 2] []) <|
  .seq (.region [⟨some 5, .mv (.tmp 1), none⟩,
     ⟨some 6, .fieldAddr 8 (.tmp 2), none⟩,
     ⟨some 7, .load false 1 (.tmp 6), none⟩,
     ⟨some 8, .lenS (.tmp 7), none⟩,
     ⟨some 9, .bin .sub (.tmp 5) (.tmp 8), none⟩,
     ⟨some 1, .mv (.tmp 9), none⟩] [1] []) <|
  .seq (.seq (.region [⟨some 10, .mv (.tmp 1), none⟩,
      ⟨some 11, .bin .lss (.tmp 10) (.const (.int .i64 (0))), none⟩] [1, 11] []) <|
   .cond (.tmp 11)
     (.seq (.region [⟨some 4, .mv (.const (.int .i64 (-1))), none⟩] [4] []) <|
     .ret)
     (.skip)) <|
  .seq (.region [⟨some 12, .mv (.tmp 1), none⟩,
     ⟨some 4, .mv (.tmp 12), none⟩] [4] []) <|
  .ret
theorem Cd.laws_szStep_rs : Try.f35.results.toList = [.tmp 4] := rfl
theorem Cd.laws_szStep_nt : Try.f35.ntmps = 13 := rfl
theorem Cd.laws_szStep_ok : CodeIsR Try.prog 35 Try.f35 Cd.laws_szStep := ⟨Try.func35, by kernel_rfl, by decide +kernel⟩
/-- loop.example/g01012/laws.toStep -/
def Cd.laws_toStep : ACode :=
  .seq (.region [⟨some 1, .box (.tmp 0), none⟩,
     ⟨some 2, .alloc [.v (.int .i64 (0)), .v (.int .i64 (0)), .v (.int .i64 (0)), .v (.int .i64 (0)), .v (.int .i64 (0)), .v (.int .i64 (0)), .v (.int .i64 (0)), .v (.int .i64 (0)), .v (.string ⟨#[]⟩)], none⟩] [1, 2] []) <|
  .seq (.region [⟨some 3, .alloc [.v (.int .i64 (0)), .v (.int .i64 (0)), .v (.int .i64 (0)), .v (.int .i64 (0)), .v (.int .i64 (0)), .v (.int .i64 (0)), .v (.int .i64 (0)), .v (.int .i64 (0)), .v (.string ⟨#[]⟩)], none⟩] [1, 2, 3] []) <|
  .seq (.region [⟨some 4, .fieldAddr 0 (.tmp 1), none⟩,
     ⟨some 5, .load false 1 (.tmp 4), none⟩,
     ⟨some 6, .fieldAddr 0 (.tmp 3), none⟩,
     ⟨none, .store 1 (.tmp 6) (.tmp 5), none⟩] [1, 2, 3] []) <|
  .seq (.region [⟨some 7, .fieldAddr 1 (.tmp 1), none⟩,
     ⟨some 8, .load false 1 (.tmp 7), none⟩,
     ⟨some 9, .fieldAddr 1 (.tmp 3), none⟩,
     ⟨none, .store 1 (.tmp 9) (.tmp 8), none⟩] [1, 2, 3] []) <|
  .seq (.region [⟨some 10, .fieldAddr 2 (.tmp 1), none⟩,
     ⟨some 11, .load false 1 (.tmp 10), none⟩,
     ⟨some 12, .fieldAddr 2 (.tmp 3), none⟩,
     ⟨none, .store 1 (.tmp 12) (.tmp 11), none⟩] [1, 2, 3] []) <|
  .seq (.region [⟨some 13, .fieldAddr 3 (.tmp 1), none⟩,
     ⟨some 14, .load false 1 (.tmp 13), none⟩,
     ⟨some 15, .fieldAddr 3 (.tmp 3), none⟩,
     ⟨none, .store 1 (.tmp 15) (.tmp 14), none⟩] [1, 2, 3] []) <|
  .seq (.region [⟨some 16, .fieldAddr 4 (.tmp 1), none⟩,
     ⟨some 17, .load true 2 (.tmp 16), none⟩,
     ⟨some 18, .call (.func F.laws_toField) [(.tmp 17)] [], none⟩,
     ⟨some 19, .fieldAddr 4 (.tmp 3), none⟩,
     ⟨none, .store 2 (.tmp 19) (.tmp 18), none⟩] [1, 2, 3] []) <|
  .seq (.region [⟨some 20, .fieldAddr 6 (.tmp 1), none⟩,
     ⟨some 21, .load true 2 (.tmp 20), none⟩,
     ⟨some 22, .call (.func F.laws_toField) [(.tmp 21)] [], none⟩,
     ⟨some 23, .fieldAddr 6 (.tmp 3), none⟩,
     ⟨none, .store 2 (.tmp 23) (.tmp 22), none⟩] [1, 2, 3] []) <|
  .seq (.region [⟨some 24, .fieldAddr 8 (.tmp 1), none⟩,
     ⟨some 25, .load false 1 (.tmp 24), none⟩,
     ⟨some 26, .fieldAddr 8 (.tmp 3), none⟩,
     ⟨none, .store 1 (.tmp 26) (.tmp 25), none⟩] [2, 3] []) <|
  .seq (.region [⟨some 27, .load true 9 (.tmp 3), none⟩,
     ⟨none, .store 9 (.tmp 2) (.tmp 27), none⟩] [2] []) <|
  .ret
theorem Cd.laws_toStep_rs : Try.f37.results.toList = [.cell 2 58] := rfl
theorem Cd.laws_toStep_nt : Try.f37.ntmps = 28 := rfl
theorem Cd.laws_toStep_ok : CodeIsR Try.prog 37 Try.f37 Cd.laws_toStep := ⟨Try.func37, by kernel_rfl, by decide +kernel⟩
/-- loop.example/g01012/spec.l18Two -/
def Cd.spec_l18Two : ACode :=
  .seq (.region [⟨some 2, .box (.tmp 0), none⟩,
     ⟨some 3, .box (.tmp 1), none⟩,
     ⟨some 4, .mv (.const (.int .i64 (0))), none⟩] [2, 3] []) <|
  .seq (.seq (.region [⟨some 5, .load true 3 (.tmp 2), none⟩,
      ⟨some 6, .call (.func F.spec_l18Ok) [(.tmp 5)] [], none⟩,
      ⟨some 7, .un .not (.tmp 6), none⟩,
      ⟨some 8, .mv (.tmp 7), none⟩,
      ⟨some 9, .load true 3 (.tmp 3), some (8, false)⟩,
      ⟨some 10, .call (.func F.spec_l18Ok) [(.tmp 9)] [], some (8, false)⟩,
      ⟨some 11, .un .not (.tmp 10), some (8, false)⟩,
      ⟨some 12, .pick (.tmp 8) (.const (.bool true)) (.tmp 11), none⟩] [12] []) <|
   .cond (.tmp 12)
     (.seq (.region [⟨some 4, .mv (.const (.int .i64 (1))), none⟩] [4] []) <|
     .ret)
     (.skip)) <|
  .seq (.region [⟨some 4, .mv (.const (.int .i64 (0))), none⟩] [4] []) <|
  .ret
theorem Cd.spec_l18Two_rs : Try.f66.results.toList = [.tmp 4] := rfl
theorem Cd.spec_l18Two_nt : Try.f66.ntmps = 13 := rfl
theorem Cd.spec_l18Two_ok : CodeIsR Try.prog 66 Try.f66 Cd.spec_l18Two := ⟨Try.func66, by kernel_rfl, by decide +kernel⟩
/-- loop.example/g01012/spec.l18Ok -/
def Cd.spec_l18Ok : ACode :=
  .seq (.region [⟨some 1, .box (.tmp 0), none⟩,
     ⟨some 2, .mv (.const (.bool false)), none⟩] [1] []) <|
  .seq (.region [⟨some 3, .fieldAddr 0 (.tmp 1), none⟩,
     ⟨some 4, .load false 1 (.tmp 3), none⟩,
     ⟨some 5, .call (.func F.spec_l00In) [(.tmp 4), (.const (.int .i64 (0))), (.const (.int .i64 (1000000)))] [], none⟩,
     ⟨some 6, .mv (.tmp 5), none⟩,
     ⟨some 7, .fieldAddr 1 (.tmp 1), some (6, true)⟩,
     ⟨some 8, .load false 1 (.tmp 7), some (6, true)⟩,
     ⟨some 9, .call (.func F.spec_l00In) [(.tmp 8), (.const (.int .i64 (-1000000000000000))), (.const (.int .i64 (1000000000000000)))] [], some (6, true)⟩,
     ⟨some 10, .pick (.tmp 6) (.tmp 9) (.const (.bool false)), none⟩,
     ⟨some 11, .mv (.tmp 10), none⟩,
     ⟨some 12, .fieldAddr 2 (.tmp 1), some (11, true)⟩,
     ⟨some 13, .load false 1 (.tmp 12), some (11, true)⟩,
     ⟨some 14, .call (.func F.spec_l00In) [(.tmp 13), (.const (.int .i64 (0))), (.const (.int .i64 (1000000000)))] [], some (11, true)⟩,
     ⟨some 15, .pick (.tmp 11) (.tmp 14) (.const (.bool false)), none⟩,
     ⟨some 2, .mv (.tmp 15), none⟩] [2] []) <|
  .ret
theorem Cd.spec_l18Ok_rs : Try.f67.results.toList = [.tmp 2] := rfl
theorem Cd.spec_l18Ok_nt : Try.f67.ntmps = 16 := rfl
theorem Cd.spec_l18Ok_ok : CodeIsR Try.prog 67 Try.f67 Cd.spec_l18Ok := ⟨Try.func67, by kernel_rfl, by decide +kernel⟩
/-- loop.example/g01012/impl.joinedControls -/
def Cd.impl_joinedControls : ACode :=
  .seq (.region [⟨some 3, .box (.tmp 0), none⟩,
     ⟨some 4, .box (.tmp 1), none⟩,
     ⟨some 6, .alloc [.v (.int .i64 (0)), .v (.int .i64 (0)), .v (.int .i64 (0))], none⟩,
     ⟨some 7, .mv (.const (.int .i64 (0))), none⟩] [2, 3, 4, 6] []) <|
  .seq (.seq (.region [⟨some 9, .load true 3 (.tmp 3), none⟩,
      ⟨some 10, .call (.func F.impl_isPlainControl) [(.tmp 9)] [], none⟩,
      ⟨some 11, .un .not (.tmp 10), none⟩,
      ⟨some 12, .mv (.tmp 11), none⟩,
      ⟨some 13, .load true 3 (.tmp 4), some (12, false)⟩,
      ⟨some 14, .call (.func F.impl_isPlainControl) [(.tmp 13)] [], some (12, false)⟩,
      ⟨some 15, .un .not (.tmp 14), some (12, false)⟩,
      ⟨some 16, .pick (.tmp 12) (.const (.bool true)) (.tmp 15), none⟩] [2, 3, 4, 6, 16] []) <|
   .cond (.tmp 16)
     (.seq (.region [⟨some 17, .build [.v (.int .i64 (0)), .v (.int .i64 (0)), .v (.int .i64 (0))] [], none⟩,
        ⟨none, .store 3 (.tmp 6) (.tmp 17), none⟩,
        ⟨some 7, .mv (.const (.int .i64 (1))), none⟩] [6, 7] []) <|
     .ret)
     (.skip)) <|
  .seq (.region [⟨some 18, .load true 3 (.tmp 3), none⟩,
     ⟨some 19, .load true 3 (.tmp 4), none⟩,
     ⟨some 20, .mv (.tmp 2), none⟩,
     ⟨some 21, .call (.func F._impl_Control__plus) [(.tmp 18), (.tmp 19), (.tmp 20)] [], none⟩,
     ⟨some 8, .alloc [.v (.int .i64 (0)), .v (.int .i64 (0)), .v (.int .i64 (0))], none⟩,
     ⟨none, .store 3 (.tmp 8) (.tmp 21), none⟩] [6, 8] []) <|
  .seq (.seq (.region [⟨some 22, .load true 3 (.tmp 8), none⟩,
      ⟨some 23, .call (.func F.impl_isPlainControl) [(.tmp 22)] [], none⟩,
      ⟨some 24, .un .not (.tmp 23), none⟩] [6, 8, 24] []) <|
   .cond (.tmp 24)
     (.seq (.region [⟨some 25, .build [.v (.int .i64 (0)), .v (.int .i64 (0)), .v (.int .i64 (0))] [], none⟩,
        ⟨none, .store 3 (.tmp 6) (.tmp 25), none⟩,
        ⟨some 7, .mv (.const (.int .i64 (5))), none⟩] [6, 7] []) <|
     .ret)
     (.skip)) <|
  .seq (.region [⟨some 26, .load true 3 (.tmp 8), none⟩,
     ⟨none, .store 3 (.tmp 6) (.tmp 26), none⟩,
     ⟨some 7, .mv (.const (.int .i64 (0))), none⟩] [6, 7] []) <|
  .ret
theorem Cd.impl_joinedControls_rs : Try.f68.results.toList = [.cell 6 24, .tmp 7] := rfl
theorem Cd.impl_joinedControls_nt : Try.f68.ntmps = 27 := rfl
theorem Cd.impl_joinedControls_ok : CodeIsR Try.prog 68 Try.f68 Cd.impl_joinedControls := ⟨Try.func68, by kernel_rfl, by decide +kernel⟩
/-- loop.example/g01012/laws.szTotal -/
def Cd.laws_szTotal : ACode :=
  .seq (.region [⟨some 2, .box (.tmp 0), none⟩,
     ⟨some 4, .mv (.const (.int .i64 (0))), none⟩] [1, 2] []) <|
  .seq (.region [⟨some 5, .mv (.tmp 1), none⟩,
     ⟨some 6, .fieldAddr 0 (.tmp 2), none⟩,
     ⟨some 7, .load false 1 (.tmp 6), none⟩,
     ⟨some 8, .lenS (.tmp 7), none⟩,
     ⟨some 9, .bin .sub (.tmp 5) (.tmp 8), none⟩,
     ⟨some 1, .mv (.tmp 9), none⟩] [1] []) <|
  .seq (.seq (.region [⟨some 10, .mv (.tmp 1), none⟩,
      ⟨some 11, .bin .lss (.tmp 10) (.const (.int .i64 (0))), none⟩] [1, 11] []) <|
   .cond (.tmp 11)
     (.seq (.region [⟨some 4, .mv (.const (.int .i64 (-1))), none⟩] [4] []) <|
     .ret)
     (.skip)) <|
  .seq (.region [⟨some 12, .mv (.tmp 1), none⟩,
     ⟨some 4, .mv (.tmp 12), none⟩] [4] []) <|
  .ret
theorem Cd.laws_szTotal_rs : Try.f69.results.toList = [.tmp 4] := rfl
theorem Cd.laws_szTotal_nt : Try.f69.ntmps = 13 := rfl
theorem Cd.laws_szTotal_ok : CodeIsR Try.prog 69 Try.f69 Cd.laws_szTotal := ⟨Try.func69, by kernel_rfl, by decide +kernel⟩
/-- loop.example/g01012/spec.l15Totals DRAWS -/
def Cd.spec_l15Totals : ACode :=
  .seq (.region [⟨some 4, .mv (.const (.bool false)), none⟩] [0, 1] []) <|
  .seq (.seq (.region [⟨some 6, .mv (.tmp 0), none⟩,
      ⟨some 7, .len (.tmp 6), none⟩,
      ⟨some 8, .mv (.tmp 1), none⟩,
      ⟨some 9, .len (.tmp 8), none⟩,
      ⟨some 10, .bin .neq (.tmp 7) (.tmp 9), none⟩] [0, 1, 10] []) <|
   .cond (.tmp 10)
     (.seq (.region [⟨some 4, .mv (.const (.bool false)), none⟩] [4] []) <|
     .ret)
     (.skip)) <|
  .seq (.seq (.region [⟨some 5, .mv (.const (.int .i64 (0))), none⟩] [0, 1, 5] []) <|
   .block 0 (
     .loop (
       .seq (.seq (.region [⟨some 11, .mv (.tmp 5), none⟩,
           ⟨some 12, .mv (.tmp 0), none⟩,
           ⟨some 13, .len (.tmp 12), none⟩,
           ⟨some 14, .bin .lss (.tmp 11) (.tmp 13), none⟩] [0, 1, 5, 14] []) <|
        .cond (.tmp 14)
          (.skip)
          (.exit 0)) <|
       .seq (.block 1 (
          .seq (.region [⟨some 17, .mv (.tmp 0), none⟩,
             ⟨some 18, .mv (.tmp 5), none⟩,
             ⟨some 19, .idxSl 2 (.tmp 17) (.tmp 18), none⟩,
             ⟨some 20, .load true 2 (.tmp 19), none⟩,
             ⟨some 21, .mv (.tmp 1), none⟩,
             ⟨some 22, .mv (.tmp 5), none⟩,
             ⟨some 23, .idxSl 2 (.tmp 21) (.tmp 22), none⟩,
             ⟨some 24, .load true 2 (.tmp 23), none⟩,
             ⟨some 25, .eqA true [2, 0] (.tmp 20) (.tmp 24), none⟩] [0, 1, 5, 25] [17, 18, 20, 21, 19, 22, 23, 24, 25]) <|
          .cond (.tmp 25)
            (.seq (.region [⟨some 4, .mv (.const (.bool false)), none⟩] [4] []) <|
            .ret)
            (.skip))) <|
       .region [⟨some 15, .mv (.tmp 5), none⟩,
         ⟨some 16, .bin .add (.tmp 15) (.const (.int .i64 (1))), none⟩,
         ⟨some 5, .mv (.tmp 16), none⟩] [0, 1, 5] []))) <|
  .seq (.region [⟨some 4, .mv (.const (.bool true)), none⟩] [4] []) <|
  .ret
theorem Cd.spec_l15Totals_rs : Try.f70.results.toList = [.tmp 4] := rfl
theorem Cd.spec_l15Totals_nt : Try.f70.ntmps = 26 := rfl
theorem Cd.spec_l15Totals_ok : CodeIsR Try.prog 70 Try.f70 Cd.spec_l15Totals := ⟨Try.func70, by kernel_rfl, by decide +kernel⟩
/-- loop.example/g01012/laws.toTotal -/
def Cd.laws_toTotal : ACode :=
  .seq (.region [⟨some 1, .box (.tmp 0), none⟩,
     ⟨some 2, .alloc [.v (.string ⟨#[]⟩), .v (.int .i64 (0))], none⟩] [1, 2] []) <|
  .seq (.region [⟨some 3, .alloc [.v (.string ⟨#[]⟩), .v (.int .i64 (0))], none⟩] [1, 2, 3] []) <|
  .seq (.region [⟨some 4, .fieldAddr 0 (.tmp 1), none⟩,
     ⟨some 5, .load false 1 (.tmp 4), none⟩,
     ⟨some 6, .fieldAddr 0 (.tmp 3), none⟩,
     ⟨none, .store 1 (.tmp 6) (.tmp 5), none⟩] [1, 2, 3] []) <|
  .seq (.region [⟨some 7, .fieldAddr 1 (.tmp 1), none⟩,
     ⟨some 8, .load false 1 (.tmp 7), none⟩,
     ⟨some 9, .fieldAddr 1 (.tmp 3), none⟩,
     ⟨none, .store 1 (.tmp 9) (.tmp 8), none⟩] [2, 3] []) <|
  .seq (.region [⟨some 10, .load true 2 (.tmp 3), none⟩,
     ⟨none, .store 2 (.tmp 2) (.tmp 10), none⟩] [2] []) <|
  .ret
theorem Cd.laws_toTotal_rs : Try.f71.results.toList = [.cell 2 99] := rfl
theorem Cd.laws_toTotal_nt : Try.f71.ntmps = 11 := rfl
theorem Cd.laws_toTotal_ok : CodeIsR Try.prog 71 Try.f71 Cd.laws_toTotal := ⟨Try.func71, by kernel_rfl, by decide +kernel⟩
/-- slices.Equal[[]loop.example/g01012/impl.Total,loop.example/g01012/impl.Total] DRAWS -/
def Cd.slices_Equal___impl_Total_impl_Total_ : ACode :=
  .seq (.region [⟨some 4, .mv (.const (.bool false)), none⟩] [0, 1] []) <|
  .seq (.seq (.region [⟨some 6, .mv (.tmp 0), none⟩,
      ⟨some 7, .len (.tmp 6), none⟩,
      ⟨some 8, .mv (.tmp 1), none⟩,
      ⟨some 9, .len (.tmp 8), none⟩,
      ⟨some 10, .bin .neq (.tmp 7) (.tmp 9), none⟩] [0, 1, 10] []) <|
   .cond (.tmp 10)
     (.seq (.region [⟨some 4, .mv (.const (.bool false)), none⟩] [4] []) <|
     .ret)
     (.skip)) <|
  .seq (.seq (.region [⟨some 11, .mv (.tmp 0), none⟩,
      ⟨some 12, .len (.tmp 11), none⟩,
      ⟨some 13, .mv (.const (.int .i64 (0))), none⟩] [0, 1, 12, 13] []) <|
   .block 0 (
     .loop (
       .seq (.region [⟨some 14, .bin .lss (.tmp 13) (.tmp 12), none⟩] [0, 1, 12, 13, 14] []) <|
       .seq (.cond (.tmp 14)
          (.skip)
          (.exit 0)) <|
       .seq (.block 1 (
          .seq (.region [⟨some 15, .mv (.tmp 13), none⟩,
             ⟨some 5, .mv (.tmp 15), none⟩] [0, 1, 5, 12, 13] []) <|
          .seq (.region [⟨some 16, .mv (.tmp 0), none⟩,
             ⟨some 17, .mv (.tmp 5), none⟩,
             ⟨some 18, .idxSl 2 (.tmp 16) (.tmp 17), none⟩,
             ⟨some 19, .load true 2 (.tmp 18), none⟩,
             ⟨some 20, .mv (.tmp 1), none⟩,
             ⟨some 21, .mv (.tmp 5), none⟩,
             ⟨some 22, .idxSl 2 (.tmp 20) (.tmp 21), none⟩,
             ⟨some 23, .load true 2 (.tmp 22), none⟩,
             ⟨some 24, .eqA true [2, 0] (.tmp 19) (.tmp 23), none⟩] [0, 1, 12, 13, 24] [16, 17, 19, 20, 18, 21, 22, 23, 24]) <|
          .cond (.tmp 24)
            (.seq (.region [⟨some 4, .mv (.const (.bool false)), none⟩] [4] []) <|
            .ret)
            (.skip))) <|
       .region [⟨some 25, .bin .add (.tmp 13) (.const (.int .i64 (1))), none⟩,
         ⟨some 13, .mv (.tmp 25), none⟩] [0, 1, 12, 13] []))) <|
  .seq (.region [⟨some 4, .mv (.const (.bool true)), none⟩] [4] []) <|
  .ret
theorem Cd.slices_Equal___impl_Total_impl_Total__rs : Try.f72.results.toList = [.tmp 4] := rfl
theorem Cd.slices_Equal___impl_Total_impl_Total__nt : Try.f72.ntmps = 26 := rfl
theorem Cd.slices_Equal___impl_Total_impl_Total__ok : CodeIsR Try.prog 72 Try.f72 Cd.slices_Equal___impl_Total_impl_Total_ := ⟨Try.func72, by kernel_rfl, by decide +kernel⟩
/-- loop.example/g01012/laws.eqTotal -/
def Cd.laws_eqTotal : ACode :=
  .seq (.region [⟨some 2, .box (.tmp 0), none⟩,
     ⟨some 3, .box (.tmp 1), none⟩,
     ⟨some 4, .mv (.const (.bool false)), none⟩] [2, 3] []) <|
  .seq (.seq (.region [⟨some 5, .fieldAddr 0 (.tmp 2), none⟩,
      ⟨some 6, .load false 1 (.tmp 5), none⟩,
      ⟨some 7, .fieldAddr 0 (.tmp 3), none⟩,
      ⟨some 8, .load false 1 (.tmp 7), none⟩,
      ⟨some 9, .binS .neq (.tmp 6) (.tmp 8), none⟩] [2, 3, 9] []) <|
   .cond (.tmp 9)
     (.seq (.region [⟨some 4, .mv (.const (.bool false)), none⟩] [4] []) <|
     .ret)
     (.skip)) <|
  .seq (.seq (.region [⟨some 10, .fieldAddr 1 (.tmp 2), none⟩,
      ⟨some 11, .load false 1 (.tmp 10), none⟩,
      ⟨some 12, .fieldAddr 1 (.tmp 3), none⟩,
      ⟨some 13, .load false 1 (.tmp 12), none⟩,
      ⟨some 14, .bin .neq (.tmp 11) (.tmp 13), none⟩] [14] []) <|
   .cond (.tmp 14)
     (.seq (.region [⟨some 4, .mv (.const (.bool false)), none⟩] [4] []) <|
     .ret)
     (.skip)) <|
  .seq (.region [⟨some 4, .mv (.const (.bool true)), none⟩] [4] []) <|
  .ret
theorem Cd.laws_eqTotal_rs : Try.f73.results.toList = [.tmp 4] := rfl
theorem Cd.laws_eqTotal_nt : Try.f73.ntmps = 15 := rfl
theorem Cd.laws_eqTotal_ok : CodeIsR Try.prog 73 Try.f73 Cd.laws_eqTotal := ⟨Try.func73, by kernel_rfl, by decide +kernel⟩
/-- loop.example/g01012/spec.l00In -/
def Cd.spec_l00In : ACode :=
  .seq (.region [⟨some 6, .mv (.const (.bool false)), none⟩] [0, 1, 2] []) <|
  .seq (.region [⟨some 7, .mv (.tmp 0), none⟩,
     ⟨some 8, .mv (.tmp 1), none⟩,
     ⟨some 9, .bin .geq (.tmp 7) (.tmp 8), none⟩,
     ⟨some 10, .mv (.tmp 9), none⟩,
     ⟨some 11, .mv (.tmp 0), some (10, true)⟩,
     ⟨some 12, .mv (.tmp 2), some (10, true)⟩,
     ⟨some 13, .bin .leq (.tmp 11) (.tmp 12), some (10, true)⟩,
     ⟨some 14, .pick (.tmp 10) (.tmp 13) (.const (.bool false)), none⟩,
     ⟨some 6, .mv (.tmp 14), none⟩] [6] []) <|
  .ret
theorem Cd.spec_l00In_rs : Try.f74.results.toList = [.tmp 6] := rfl
theorem Cd.spec_l00In_nt : Try.f74.ntmps = 15 := rfl
theorem Cd.spec_l00In_ok : CodeIsR Try.prog 74 Try.f74 Cd.spec_l00In := ⟨Try.func74, by kernel_rfl, by decide +kernel⟩
/-- loop.example/g01012/laws.toField -/
def Cd.laws_toField : ACode :=
  .seq (.region [⟨some 1, .box (.tmp 0), none⟩,
     ⟨some 2, .alloc [.v (.int .i64 (0)), .v (.int .i64 (0))], none⟩] [1, 2] []) <|
  .seq (.region [⟨some 3, .alloc [.v (.int .i64 (0)), .v (.int .i64 (0))], none⟩] [1, 2, 3] []) <|
  .seq (.region [⟨some 4, .fieldAddr 0 (.tmp 1), none⟩,
     ⟨some 5, .load false 1 (.tmp 4), none⟩,
     ⟨some 6, .fieldAddr 0 (.tmp 3), none⟩,
     ⟨none, .store 1 (.tmp 6) (.tmp 5), none⟩] [1, 2, 3] []) <|
  .seq (.region [⟨some 7, .fieldAddr 1 (.tmp 1), none⟩,
     ⟨some 8, .load false 1 (.tmp 7), none⟩,
     ⟨some 9, .fieldAddr 1 (.tmp 3), none⟩,
     ⟨none, .store 1 (.tmp 9) (.tmp 8), none⟩] [2, 3] []) <|
  .seq (.region [⟨some 10, .load true 2 (.tmp 3), none⟩,
     ⟨none, .store 2 (.tmp 2) (.tmp 10), none⟩] [2] []) <|
  .ret
theorem Cd.laws_toField_rs : Try.f76.results.toList = [.cell 2 42] := rfl
theorem Cd.laws_toField_nt : Try.f76.ntmps = 11 := rfl
theorem Cd.laws_toField_ok : CodeIsR Try.prog 76 Try.f76 Cd.laws_toField := ⟨Try.func76, by kernel_rfl, by decide +kernel⟩
/-- loop.example/g01012/impl.inside -/
def Cd.impl_inside : ACode :=
  .seq (.region [⟨some 6, .mv (.const (.bool false)), none⟩] [0, 1, 2] []) <|
  .seq (.region [⟨some 7, .mv (.tmp 0), none⟩,
     ⟨some 8, .mv (.tmp 1), none⟩,
     ⟨some 9, .bin .geq (.tmp 7) (.tmp 8), none⟩,
     ⟨some 10, .mv (.tmp 9), none⟩,
     ⟨some 11, .mv (.tmp 0), some (10, true)⟩,
     ⟨some 12, .mv (.tmp 2), some (10, true)⟩,
     ⟨some 13, .bin .leq (.tmp 11) (.tmp 12), some (10, true)⟩,
     ⟨some 14, .pick (.tmp 10) (.tmp 13) (.const (.bool false)), none⟩,
     ⟨some 6, .mv (.tmp 14), none⟩] [6] []) <|
  .ret
theorem Cd.impl_inside_rs : Try.f77.results.toList = [.tmp 6] := rfl
theorem Cd.impl_inside_nt : Try.f77.ntmps = 15 := rfl
theorem Cd.impl_inside_ok : CodeIsR Try.prog 77 Try.f77 Cd.impl_inside := ⟨Try.func77, by kernel_rfl, by decide +kernel⟩
/-- slices.Equal[[]loop.example/g01012/impl.Step,loop.example/g01012/impl.Step] DRAWS -/
def Cd.slices_Equal___impl_Step_impl_Step_ : ACode :=
  .seq (.region [⟨some 4, .mv (.const (.bool false)), none⟩] [0, 1] []) <|
  .seq (.seq (.region [⟨some 6, .mv (.tmp 0), none⟩,
      ⟨some 7, .len (.tmp 6), none⟩,
      ⟨some 8, .mv (.tmp 1), none⟩,
      ⟨some 9, .len (.tmp 8), none⟩,
      ⟨some 10, .bin .neq (.tmp 7) (.tmp 9), none⟩] [0, 1, 10] []) <|
   .cond (.tmp 10)
     (.seq (.region [⟨some 4, .mv (.const (.bool false)), none⟩] [4] []) <|
     .ret)
     (.skip)) <|
  .seq (.seq (.region [⟨some 11, .mv (.tmp 0), none⟩,
      ⟨some 12, .len (.tmp 11), none⟩,
      ⟨some 13, .mv (.const (.int .i64 (0))), none⟩] [0, 1, 12, 13] []) <|
   .block 0 (
     .loop (
       .seq (.region [⟨some 14, .bin .lss (.tmp 13) (.tmp 12), none⟩] [0, 1, 12, 13, 14] []) <|
       .seq (.cond (.tmp 14)
          (.skip)
          (.exit 0)) <|
       .seq (.block 1 (
          .seq (.region [⟨some 15, .mv (.tmp 13), none⟩,
             ⟨some 5, .mv (.tmp 15), none⟩] [0, 1, 5, 12, 13] []) <|
          .seq (.region [⟨some 16, .mv (.tmp 0), none⟩,
             ⟨some 17, .mv (.tmp 5), none⟩,
             ⟨some 18, .idxSl 9 (.tmp 16) (.tmp 17), none⟩,
             ⟨some 19, .load true 9 (.tmp 18), none⟩,
             ⟨some 20, .mv (.tmp 1), none⟩,
             ⟨some 21, .mv (.tmp 5), none⟩,
             ⟨some 22, .idxSl 9 (.tmp 20) (.tmp 21), none⟩,
             ⟨some 23, .load true 9 (.tmp 22), none⟩,
             ⟨some 24, .eqA true [0, 0, 0, 0, 0, 0, 0, 0, 2] (.tmp 19) (.tmp 23), none⟩] [0, 1, 12, 13, 24] [16, 17, 19, 20, 18, 21, 22, 23, 24]) <|
          .cond (.tmp 24)
            (.seq (.region [⟨some 4, .mv (.const (.bool false)), none⟩] [4] []) <|
            .ret)
            (.skip))) <|
       .region [⟨some 25, .bin .add (.tmp 13) (.const (.int .i64 (1))), none⟩,
         ⟨some 13, .mv (.tmp 25), none⟩] [0, 1, 12, 13] []))) <|
  .seq (.region [⟨some 4, .mv (.const (.bool true)), none⟩] [4] []) <|
  .ret
theorem Cd.slices_Equal___impl_Step_impl_Step__rs : Try.f81.results.toList = [.tmp 4] := rfl
theorem Cd.slices_Equal___impl_Step_impl_Step__nt : Try.f81.ntmps = 26 := rfl
theorem Cd.slices_Equal___impl_Step_impl_Step__ok : CodeIsR Try.prog 81 Try.f81 Cd.slices_Equal___impl_Step_impl_Step_ := ⟨Try.func81, by kernel_rfl, by decide +kernel⟩
/-- loop.example/g01012/laws.eqStep -/
def Cd.laws_eqStep : ACode :=
  .seq (.region [⟨some 2, .box (.tmp 0), none⟩,
     ⟨some 3, .box (.tmp 1), none⟩,
     ⟨some 4, .mv (.const (.bool false)), none⟩] [2, 3] []) <|
  .seq (.seq (.region [⟨some 5, .fieldAddr 0 (.tmp 2), none⟩,
      ⟨some 6, .load false 1 (.tmp 5), none⟩,
      ⟨some 7, .fieldAddr 0 (.tmp 3), none⟩,
      ⟨some 8, .load false 1 (.tmp 7), none⟩,
      ⟨some 9, .bin .neq (.tmp 6) (.tmp 8), none⟩] [2, 3, 9] []) <|
   .cond (.tmp 9)
     (.seq (.region [⟨some 4, .mv (.const (.bool false)), none⟩] [4] []) <|
     .ret)
     (.skip)) <|
  .seq (.seq (.region [⟨some 10, .fieldAddr 1 (.tmp 2), none⟩,
      ⟨some 11, .load false 1 (.tmp 10), none⟩,
      ⟨some 12, .fieldAddr 1 (.tmp 3), none⟩,
      ⟨some 13, .load false 1 (.tmp 12), none⟩,
      ⟨some 14, .bin .neq (.tmp 11) (.tmp 13), none⟩] [2, 3, 14] []) <|
   .cond (.tmp 14)
     (.seq (.region [⟨some 4, .mv (.const (.bool false)), none⟩] [4] []) <|
     .ret)
     (.skip)) <|
  .seq (.seq (.region [⟨some 15, .fieldAddr 2 (.tmp 2), none⟩,
      ⟨some 16, .load false 1 (.tmp 15), none⟩,
      ⟨some 17, .fieldAddr 2 (.tmp 3), none⟩,
      ⟨some 18, .load false 1 (.tmp 17), none⟩,
      ⟨some 19, .bin .neq (.tmp 16) (.tmp 18), none⟩] [2, 3, 19] []) <|
   .cond (.tmp 19)
     (.seq (.region [⟨some 4, .mv (.const (.bool false)), none⟩] [4] []) <|
     .ret)
     (.skip)) <|
  .seq (.seq (.region [⟨some 20, .fieldAddr 3 (.tmp 2), none⟩,
      ⟨some 21, .load false 1 (.tmp 20), none⟩,
      ⟨some 22, .fieldAddr 3 (.tmp 3), none⟩,
      ⟨some 23, .load false 1 (.tmp 22), none⟩,
      ⟨some 24, .bin .neq (.tmp 21) (.tmp 23), none⟩] [2, 3, 24] []) <|
   .cond (.tmp 24)
     (.seq (.region [⟨some 4, .mv (.const (.bool false)), none⟩] [4] []) <|
     .ret)
     (.skip)) <|
  .seq (.seq (.region [⟨some 25, .fieldAddr 4 (.tmp 2), none⟩,
      ⟨some 26, .load true 2 (.tmp 25), none⟩,
      ⟨some 27, .fieldAddr 4 (.tmp 3), none⟩,
      ⟨some 28, .load true 2 (.tmp 27), none⟩,
      ⟨some 29, .call (.func F.laws_eqField) [(.tmp 26), (.tmp 28)] [], none⟩,
      ⟨some 30, .un .not (.tmp 29), none⟩] [2, 3, 30] []) <|
   .cond (.tmp 30)
     (.seq (.region [⟨some 4, .mv (.const (.bool false)), none⟩] [4] []) <|
     .ret)
     (.skip)) <|
  .seq (.seq (.region [⟨some 31, .fieldAddr 6 (.tmp 2), none⟩,
      ⟨some 32, .load true 2 (.tmp 31), none⟩,
      ⟨some 33, .fieldAddr 6 (.tmp 3), none⟩,
      ⟨some 34, .load true 2 (.tmp 33), none⟩,
      ⟨some 35, .call (.func F.laws_eqField) [(.tmp 32), (.tmp 34)] [], none⟩,
      ⟨some 36, .un .not (.tmp 35), none⟩] [2, 3, 36] []) <|
   .cond (.tmp 36)
     (.seq (.region [⟨some 4, .mv (.const (.bool false)), none⟩] [4] []) <|
     .ret)
     (.skip)) <|
  .seq (.seq (.region [⟨some 37, .fieldAddr 8 (.tmp 2), none⟩,
      ⟨some 38, .load false 1 (.tmp 37), none⟩,
      ⟨some 39, .fieldAddr 8 (.tmp 3), none⟩,
      ⟨some 40, .load false 1 (.tmp 39), none⟩,
      ⟨some 41, .binS .neq (.tmp 38) (.tmp 40), none⟩] [41] []) <|
   .cond (.tmp 41)
     (.seq (.region [⟨some 4, .mv (.const (.bool false)), none⟩] [4] []) <|
     .ret)
     (.skip)) <|
  .seq (.region [⟨some 4, .mv (.const (.bool true)), none⟩] [4] []) <|
  .ret
theorem Cd.laws_eqStep_rs : Try.f82.results.toList = [.tmp 4] := rfl
theorem Cd.laws_eqStep_nt : Try.f82.ntmps = 42 := rfl
theorem Cd.laws_eqStep_ok : CodeIsR Try.prog 82 Try.f82 Cd.laws_eqStep := ⟨Try.func82, by kernel_rfl, by decide +kernel⟩
/-- loop.example/g01012/impl.isPlainControl -/
def Cd.impl_isPlainControl : ACode :=
  .seq (.region [⟨some 1, .box (.tmp 0), none⟩,
     ⟨some 2, .mv (.const (.bool false)), none⟩] [1] []) <|
  .seq (.region [⟨some 3, .fieldAddr 0 (.tmp 1), none⟩,
     ⟨some 4, .load false 1 (.tmp 3), none⟩,
     ⟨some 5, .call (.func F.impl_inside) [(.tmp 4), (.const (.int .i64 (0))), (.const (.int .i64 (1000000)))] [], none⟩,
     ⟨some 6, .mv (.tmp 5), none⟩,
     ⟨some 7, .fieldAddr 1 (.tmp 1), some (6, true)⟩,
     ⟨some 8, .load false 1 (.tmp 7), some (6, true)⟩,
     ⟨some 9, .call (.func F.impl_inside) [(.tmp 8), (.const (.int .i64 (-1000000000000000))), (.const (.int .i64 (1000000000000000)))] [], some (6, true)⟩,
     ⟨some 10, .pick (.tmp 6) (.tmp 9) (.const (.bool false)), none⟩,
     ⟨some 11, .mv (.tmp 10), none⟩,
     ⟨some 12, .fieldAddr 2 (.tmp 1), some (11, true)⟩,
     ⟨some 13, .load false 1 (.tmp 12), some (11, true)⟩,
     ⟨some 14, .call (.func F.impl_inside) [(.tmp 13), (.const (.int .i64 (0))), (.const (.int .i64 (1000000000)))] [], some (11, true)⟩,
     ⟨some 15, .pick (.tmp 11) (.tmp 14) (.const (.bool false)), none⟩,
     ⟨some 2, .mv (.tmp 15), none⟩] [2] []) <|
  .ret
theorem Cd.impl_isPlainControl_rs : Try.f110.results.toList = [.tmp 2] := rfl
theorem Cd.impl_isPlainControl_nt : Try.f110.ntmps = 16 := rfl
theorem Cd.impl_isPlainControl_ok : CodeIsR Try.prog 110 Try.f110 Cd.impl_isPlainControl := ⟨Try.func110, by kernel_rfl, by decide +kernel⟩
/-- (loop.example/g01012/impl.Control).plus -/
def Cd._impl_Control__plus : ACode :=
  .seq (.region [⟨some 3, .box (.tmp 0), none⟩,
     ⟨some 4, .box (.tmp 1), none⟩,
     ⟨some 6, .alloc [.v (.int .i64 (0)), .v (.int .i64 (0)), .v (.int .i64 (0))], none⟩] [2, 3, 4, 6] []) <|
  .seq (.region [⟨some 7, .fieldAddr 0 (.tmp 3), none⟩,
     ⟨some 8, .load false 1 (.tmp 7), none⟩,
     ⟨some 9, .mv (.tmp 2), none⟩,
     ⟨some 10, .fieldAddr 0 (.tmp 4), none⟩,
     ⟨some 11, .load false 1 (.tmp 10), none⟩,
     ⟨some 12, .bin .mul (.tmp 9) (.tmp 11), none⟩,
     ⟨some 13, .bin .add (.tmp 8) (.tmp 12), none⟩,
     ⟨some 14, .fieldAddr 1 (.tmp 3), none⟩,
     ⟨some 15, .load false 1 (.tmp 14), none⟩,
     ⟨some 16, .mv (.tmp 2), none⟩,
     ⟨some 17, .fieldAddr 1 (.tmp 4), none⟩,
     ⟨some 18, .load false 1 (.tmp 17), none⟩,
     ⟨some 19, .bin .mul (.tmp 16) (.tmp 18), none⟩,
     ⟨some 20, .bin .add (.tmp 15) (.tmp 19), none⟩,
     ⟨some 21, .fieldAddr 2 (.tmp 3), none⟩,
     ⟨some 22, .load false 1 (.tmp 21), none⟩,
     ⟨some 23, .mv (.tmp 2), none⟩,
     ⟨some 24, .fieldAddr 2 (.tmp 4), none⟩,
     ⟨some 25, .load false 1 (.tmp 24), none⟩,
     ⟨some 26, .bin .mul (.tmp 23) (.tmp 25), none⟩,
     ⟨some 27, .bin .add (.tmp 22) (.tmp 26), none⟩,
     ⟨some 28, .build [.v (.int .i64 (0)), .v (.int .i64 (0)), .v (.int .i64 (0))] [(0, 1, (.tmp 13)), (1, 1, (.tmp 20)), (2, 1, (.tmp 27))], none⟩,
     ⟨none, .store 3 (.tmp 6) (.tmp 28), none⟩] [6] []) <|
  .ret
theorem Cd._impl_Control__plus_rs : Try.f111.results.toList = [.cell 6 24] := rfl
theorem Cd._impl_Control__plus_nt : Try.f111.ntmps = 29 := rfl
theorem Cd._impl_Control__plus_ok : CodeIsR Try.prog 111 Try.f111 Cd._impl_Control__plus := ⟨Try.func111, by kernel_rfl, by decide +kernel⟩
/-- loop.example/g01012/laws.eqField -/
def Cd.laws_eqField : ACode :=
  .seq (.region [⟨some 2, .box (.tmp 0), none⟩,
     ⟨some 3, .box (.tmp 1), none⟩,
     ⟨some 4, .mv (.const (.bool false)), none⟩] [2, 3] []) <|
  .seq (.seq (.region [⟨some 5, .fieldAddr 0 (.tmp 2), none⟩,
      ⟨some 6, .load false 1 (.tmp 5), none⟩,
      ⟨some 7, .fieldAddr 0 (.tmp 3), none⟩,
      ⟨some 8, .load false 1 (.tmp 7), none⟩,
      ⟨some 9, .bin .neq (.tmp 6) (.tmp 8), none⟩] [2, 3, 9] []) <|
   .cond (.tmp 9)
     (.seq (.region [⟨some 4, .mv (.const (.bool false)), none⟩] [4] []) <|
     .ret)
     (.skip)) <|
  .seq (.seq (.region [⟨some 10, .fieldAddr 1 (.tmp 2), none⟩,
      ⟨some 11, .load false 1 (.tmp 10), none⟩,
      ⟨some 12, .fieldAddr 1 (.tmp 3), none⟩,
      ⟨some 13, .load false 1 (.tmp 12), none⟩,
      ⟨some 14, .bin .neq (.tmp 11) (.tmp 13), none⟩] [14] []) <|
   .cond (.tmp 14)
     (.seq (.region [⟨some 4, .mv (.const (.bool false)), none⟩] [4] []) <|
     .ret)
     (.skip)) <|
  .seq (.region [⟨some 4, .mv (.const (.bool true)), none⟩] [4] []) <|
  .ret
theorem Cd.laws_eqField_rs : Try.f115.results.toList = [.tmp 4] := rfl
theorem Cd.laws_eqField_nt : Try.f115.ntmps = 15 := rfl
theorem Cd.laws_eqField_ok : CodeIsR Try.prog 115 Try.f115 Cd.laws_eqField := ⟨Try.func115, by kernel_rfl, by decide +kernel⟩
end Go.Proofs.Ytaegnbfboeeijaa
