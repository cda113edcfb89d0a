/- The code of each function, resolved. -/
import Derived.Test.YtaegnbfboeeijaaVtC
import Derived.Test.YtaegnbfboeeijaaRows
namespace Go.Proofs.Ytaegnbfboeeijaa
open Go.Vs
set_option maxRecDepth 100000
theorem Try.own : ownKnob Try.prog.godebug = none := by kernel_rfl
theorem Try.laidOut : laidOutB Try.prog = true := by kernel_rfl
theorem Try.mixed : Try.prog.follows .mixedOrders = true := Try.checked.mixed
namespace F
abbrev main_main : FuncId := 0
abbrev gosem_cut : FuncId := 1
abbrev gosem_cut_init : FuncId := 2
abbrev laws_FnExactAddControls : FuncId := 3
abbrev laws_FnExactTakeControls : FuncId := 4
abbrev laws_FnExactSameTotals : FuncId := 5
abbrev laws_FnExactValidSpec : FuncId := 6
abbrev laws_FnExactSameFlow : FuncId := 7
abbrev laws_FnExactValidStep : FuncId := 8
abbrev laws_FnExactValidFaults : FuncId := 9
abbrev laws_FnExactCountDecks : FuncId := 10
abbrev laws_FnExactValidFlow : FuncId := 11
abbrev laws_FnExactDeckAt : FuncId := 12
abbrev laws_FnExactFlowFor : FuncId := 13
abbrev laws_FnExactAmountsAfter : FuncId := 14
abbrev spec_AddControls : FuncId := 15
abbrev laws_toControl : FuncId := 16
abbrev impl_AddControls : FuncId := 17
abbrev laws_eqControl : FuncId := 18
abbrev spec_TakeControls : FuncId := 19
abbrev impl_TakeControls : FuncId := 20
abbrev laws_szTotalS : FuncId := 21
abbrev spec_SameTotals : FuncId := 22
abbrev laws_toTotalS : FuncId := 23
abbrev impl_SameTotals : FuncId := 24
abbrev laws_eqTotalS : FuncId := 25
abbrev laws_szSpec : FuncId := 26
abbrev spec_ValidSpec : FuncId := 27
abbrev laws_toSpec : FuncId := 28
abbrev impl_ValidSpec : FuncId := 29
abbrev laws_szStepS : FuncId := 30
abbrev spec_SameFlow : FuncId := 31
abbrev laws_toStepS : FuncId := 32
abbrev impl_SameFlow : FuncId := 33
abbrev laws_eqStepS : FuncId := 34
abbrev laws_szStep : FuncId := 35
abbrev spec_ValidStep : FuncId := 36
abbrev laws_toStep : FuncId := 37
abbrev impl_ValidStep : FuncId := 38
abbrev laws_szFaultS : FuncId := 39
abbrev spec_ValidFaults : FuncId := 40
abbrev laws_toInt64S : FuncId := 41
abbrev laws_toFaultS : FuncId := 42
abbrev impl_ValidFaults : FuncId := 43
abbrev laws_eqInt64S : FuncId := 44
abbrev laws_eqFaultS : FuncId := 45
abbrev laws_szCardS : FuncId := 46
abbrev spec_CountDecks : FuncId := 47
abbrev laws_toCardS : FuncId := 48
abbrev impl_CountDecks : FuncId := 49
abbrev laws_eqCardS : FuncId := 50
abbrev spec_ValidFlow : FuncId := 51
abbrev impl_ValidFlow : FuncId := 52
abbrev spec_DeckAt : FuncId := 53
abbrev impl_DeckAt : FuncId := 54
abbrev laws_markCardS : FuncId := 55
abbrev laws_heldCardS : FuncId := 56
abbrev spec_FlowFor : FuncId := 57
abbrev impl_FlowFor : FuncId := 58
abbrev laws_markStepS : FuncId := 59
abbrev laws_heldStepS : FuncId := 60
abbrev spec_AmountsAfter : FuncId := 61
abbrev impl_AmountsAfter : FuncId := 62
abbrev laws_markInt64S : FuncId := 63
abbrev laws_markFaultS : FuncId := 64
abbrev laws_heldInt64S : FuncId := 65
abbrev spec_l18Two : FuncId := 66
abbrev spec_l18Ok : FuncId := 67
abbrev impl_joinedControls : FuncId := 68
abbrev laws_szTotal : FuncId := 69
abbrev spec_l15Totals : FuncId := 70
abbrev laws_toTotal : FuncId := 71
abbrev slices_Equal___impl_Total_impl_Total_ : FuncId := 72
abbrev laws_eqTotal : FuncId := 73
abbrev spec_l00In : FuncId := 74
abbrev spec_l16Ok : FuncId := 75
abbrev laws_toField : FuncId := 76
abbrev impl_inside : FuncId := 77
abbrev impl_isField : FuncId := 78
abbrev impl_isNumberField : FuncId := 79
abbrev impl_areCharacters : FuncId := 80
abbrev slices_Equal___impl_Step_impl_Step_ : FuncId := 81
abbrev laws_eqStep : FuncId := 82
abbrev spec_l15Step : FuncId := 83
abbrev impl_isTray : FuncId := 84
abbrev impl_takesTwo : FuncId := 85
abbrev spec_l19Ok : FuncId := 86
abbrev spec_l19Faults : FuncId := 87
abbrev laws_toFault : FuncId := 88
abbrev impl_ValidAmounts : FuncId := 89
abbrev impl_areFaults : FuncId := 90
abbrev laws_eqFault : FuncId := 91
abbrev laws_szCard : FuncId := 92
abbrev spec_l17Code : FuncId := 93
abbrev spec_l17Count : FuncId := 94
abbrev laws_toCard : FuncId := 95
abbrev impl_sampleCode : FuncId := 96
abbrev impl_size___impl_Card_ : FuncId := 97
abbrev impl_decksOf : FuncId := 98
abbrev laws_eqCard : FuncId := 99
abbrev spec_l15Flow : FuncId := 100
abbrev slices_ContainsFunc___impl_Step_impl_Step_ : FuncId := 101
abbrev impl_ValidFlow_1 : FuncId := 102
abbrev spec_l17At : FuncId := 103
abbrev spec_l16Flow : FuncId := 104
abbrev laws_markText : FuncId := 105
abbrev spec_l19Code : FuncId := 106
abbrev spec_l19After : FuncId := 107
abbrev impl_faultCode : FuncId := 108
abbrev impl_amountsAfter : FuncId := 109
abbrev impl_isPlainControl : FuncId := 110
abbrev _impl_Control__plus : FuncId := 111
abbrev spec_l02Field : FuncId := 112
abbrev spec_l09Text : FuncId := 113
abbrev impl_isCharacter : FuncId := 114
abbrev laws_eqField : FuncId := 115
abbrev spec_l15Tray : FuncId := 116
abbrev spec_l15Both : FuncId := 117
abbrev spec_l19Fault : FuncId := 118
abbrev slices_ContainsFunc___int64_int64_ : FuncId := 119
abbrev impl_ValidAmounts_1 : FuncId := 120
abbrev impl_isFault : FuncId := 121
abbrev impl_size_int64_ : FuncId := 122
abbrev impl_digitAt : FuncId := 123
abbrev laws_szInt64S : FuncId := 124
abbrev spec_l17Sample : FuncId := 125
abbrev impl_ValidDeck : FuncId := 126
abbrev impl_size_impl_Card_ : FuncId := 127
abbrev impl_newDeck : FuncId := 128
abbrev impl_newCard : FuncId := 129
abbrev slices_IndexFunc___impl_Step_impl_Step_ : FuncId := 130
abbrev spec_l02Own : FuncId := 131
abbrev spec_l19Read : FuncId := 132
abbrev slices_IndexFunc___impl_Fault_impl_Fault_ : FuncId := 133
abbrev impl_amountsAfter_1 : FuncId := 134
abbrev impl_wheelsShow : FuncId := 135
abbrev impl_shown : FuncId := 136
abbrev spec_l03Code : FuncId := 137
abbrev strings_IndexByte : FuncId := 138
abbrev spec_l19Form : FuncId := 139
abbrev spec_l19Power : FuncId := 140
abbrev slices_IndexFunc___int64_int64_ : FuncId := 141
abbrev spec_l02Deck : FuncId := 142
abbrev impl_ValidCard : FuncId := 143
abbrev _impl_Card__columns : FuncId := 144
abbrev impl_copyInts : FuncId := 145
abbrev spec_l00Own : FuncId := 146
abbrev spec_l02Bit : FuncId := 147
abbrev spec_l01Digit : FuncId := 148
abbrev internal_stringslite_IndexByte : FuncId := 149
abbrev spec_l02Ok : FuncId := 150
abbrev impl_ValidCard_1 : FuncId := 151
abbrev internal_bytealg_IndexByteString : FuncId := 152
abbrev _runtime_boundsError__Error : FuncId := 153
abbrev _runtime_boundsError__RuntimeError : FuncId := 154
abbrev _runtime_errorString__Error : FuncId := 155
abbrev _runtime_errorString__RuntimeError : FuncId := 156
abbrev _runtime_plainError__Error : FuncId := 157
abbrev _runtime_plainError__RuntimeError : FuncId := 158
abbrev _runtime_errorAddressString__Error : FuncId := 159
abbrev _runtime_errorAddressString__RuntimeError : FuncId := 160
abbrev __runtime_TypeAssertionError__Error : FuncId := 161
abbrev __runtime_TypeAssertionError__RuntimeError : FuncId := 162
abbrev __runtime_PanicNilError__Error : FuncId := 163
abbrev __runtime_PanicNilError__RuntimeError : FuncId := 164
abbrev __internal_abi_Type__Align : FuncId := 165
abbrev _internal_runtime_maps_unhashableTypeError__Error : FuncId := 166
abbrev _internal_runtime_maps_unhashableTypeError__RuntimeError : FuncId := 167
abbrev _internal_abi_Kind__String : FuncId := 168
end F
theorem Ld.t24 : ldOf Try.prog 24 = some (true, 3) := by kernel_rfl
theorem Ld.t44 : ldOf Try.prog 44 = some (true, 7) := by kernel_rfl
theorem Ld.t58 : ldOf Try.prog 58 = some (true, 9) := by kernel_rfl
theorem Ld.t99 : ldOf Try.prog 99 = some (true, 2) := by kernel_rfl
theorem Ld.t42 : ldOf Try.prog 42 = some (true, 2) := by kernel_rfl
theorem Ld.t114 : ldOf Try.prog 114 = some (true, 4) := by kernel_rfl
theorem Ld.t123 : ldOf Try.prog 123 = some (true, 1) := by kernel_rfl
theorem Ld.t157 : ldOf Try.prog 157 = some (true, 1) := by kernel_rfl
attribute [go_sem] Ld.t24 Ld.t44 Ld.t58 Ld.t99 Ld.t42 Ld.t114 Ld.t123 Ld.t157
/-- loop.example/g01012/laws.FnExactValidFaults -/
def Cd.laws_FnExactValidFaults : ACode :=
  .seq (.region [⟨some 4, .mv (.const (.bool false)), none⟩] [0, 1] []) <|
  .seq (.seq (.region [⟨some 10, .mv (.tmp 0), none⟩,
      ⟨some 11, .len (.tmp 10), none⟩,
      ⟨some 12, .bin .gtr (.tmp 11) (.const (.int .i64 (1048576))), none⟩] [0, 1, 12] []) <|
   .cond (.tmp 12)
     (.seq (.region [⟨some 4, .mv (.const (.bool true)), none⟩] [4] []) <|
     .ret)
     (.skip)) <|
  .seq (.region [⟨some 5, .mv (.const (.int .i64 (1048576))), none⟩] [0, 1, 5] []) <|
  .seq (.region [⟨some 13, .mv (.tmp 1), none⟩,
     ⟨some 14, .mv (.tmp 5), none⟩,
     ⟨some 15, .call (.func F.laws_szFaultS) [(.tmp 13), (.tmp 14)] [], none⟩,
     ⟨some 5, .mv (.tmp 15), none⟩] [0, 1, 5] []) <|
  .seq (.seq (.region [⟨some 16, .mv (.tmp 5), none⟩,
      ⟨some 17, .bin .lss (.tmp 16) (.const (.int .i64 (0))), none⟩] [0, 1, 17] []) <|
   .cond (.tmp 17)
     (.seq (.region [⟨some 4, .mv (.const (.bool true)), none⟩] [4] []) <|
     .ret)
     (.skip)) <|
  .seq (.region [⟨some 18, .mv (.tmp 0), none⟩,
     ⟨some 19, .call (.func F.laws_toInt64S) [(.tmp 18)] [], none⟩,
     ⟨some 20, .mv (.tmp 1), none⟩,
     ⟨some 21, .call (.func F.laws_toFaultS) [(.tmp 20)] [], none⟩,
     ⟨some 22, .call (.func F.spec_ValidFaults) [(.tmp 19), (.tmp 21)] [], none⟩,
     ⟨some 6, .mv (.tmp 22), none⟩] [0, 1, 6] []) <|
  .seq (.region [⟨some 23, .mv (.tmp 0), none⟩,
     ⟨some 24, .call (.func F.laws_toInt64S) [(.tmp 23)] [], none⟩,
     ⟨some 7, .mv (.tmp 24), none⟩] [0, 1, 6, 7] []) <|
  .seq (.region [⟨some 25, .mv (.tmp 1), none⟩,
     ⟨some 26, .call (.func F.laws_toFaultS) [(.tmp 25)] [], none⟩,
     ⟨some 8, .mv (.tmp 26), none⟩] [0, 1, 6, 7, 8] []) <|
  .seq (.region [⟨some 27, .mv (.tmp 7), none⟩,
     ⟨some 28, .mv (.tmp 8), none⟩,
     ⟨some 29, .call (.func F.impl_ValidFaults) [(.tmp 27), (.tmp 28)] [], none⟩,
     ⟨some 9, .mv (.tmp 29), none⟩] [0, 1, 6, 7, 8, 9] []) <|
  .seq (.seq (.region [⟨some 30, .mv (.tmp 9), none⟩,
      ⟨some 31, .mv (.tmp 6), none⟩,
      ⟨some 32, .binB .neq (.tmp 30) (.tmp 31), none⟩] [0, 1, 7, 8, 32] []) <|
   .cond (.tmp 32)
     (.seq (.region [⟨some 4, .mv (.const (.bool false)), none⟩] [4] []) <|
     .ret)
     (.skip)) <|
  .seq (.seq (.region [⟨some 33, .mv (.tmp 7), none⟩,
      ⟨some 34, .mv (.tmp 0), none⟩,
      ⟨some 35, .call (.func F.laws_toInt64S) [(.tmp 34)] [], none⟩,
      ⟨some 36, .call (.func F.laws_eqInt64S) [(.tmp 33), (.tmp 35)] [], none⟩,
      ⟨some 37, .un .not (.tmp 36), none⟩] [1, 8, 37] []) <|
   .cond (.tmp 37)
     (.seq (.region [⟨some 4, .mv (.const (.bool false)), none⟩] [4] []) <|
     .ret)
     (.skip)) <|
  .seq (.seq (.region [⟨some 38, .mv (.tmp 8), none⟩,
      ⟨some 39, .mv (.tmp 1), none⟩,
      ⟨some 40, .call (.func F.laws_toFaultS) [(.tmp 39)] [], none⟩,
      ⟨some 41, .call (.func F.laws_eqFaultS) [(.tmp 38), (.tmp 40)] [], none⟩,
      ⟨some 42, .un .not (.tmp 41), none⟩] [42] []) <|
   .cond (.tmp 42)
     (.seq (.region [⟨some 4, .mv (.const (.bool false)), none⟩] [4] []) <|
     .ret)
     (.skip)) <|
  .seq (.region [⟨some 4, .mv (.const (.bool true)), none⟩] [4] []) <|
  .ret
theorem Cd.laws_FnExactValidFaults_rs : Try.f9.results.toList = [.tmp 4] := rfl
theorem Cd.laws_FnExactValidFaults_nt : Try.f9.ntmps = 43 := rfl
theorem Cd.laws_FnExactValidFaults_ok : CodeIsR Try.prog 9 Try.f9 Cd.laws_FnExactValidFaults := ⟨Try.func9, by kernel_rfl, by decide +kernel⟩
/-- loop.example/g01012/spec.AddControls -/
def Cd.spec_AddControls : ACode :=
  .seq (.region [⟨some 2, .box (.tmp 0), none⟩,
     ⟨some 3, .box (.tmp 1), none⟩,
     ⟨some 4, .alloc [.v (.int .i64 (0)), .v (.int .i64 (0)), .v (.int .i64 (0))], none⟩,
     ⟨some 5, .mv (.const (.int .i64 (0))), none⟩] [2, 3, 4] []) <|
  .seq (.region [⟨some 8, .load true 3 (.tmp 2), none⟩,
     ⟨some 9, .load true 3 (.tmp 3), none⟩,
     ⟨some 10, .call (.func F.spec_l18Two) [(.tmp 8), (.tmp 9)] [], none⟩,
     ⟨some 6, .mv (.tmp 10), none⟩] [2, 3, 4, 6] []) <|
  .seq (.seq (.region [⟨some 11, .mv (.tmp 6), none⟩,
      ⟨some 12, .bin .neq (.tmp 11) (.const (.int .i64 (0))), none⟩] [2, 3, 4, 6, 12] []) <|
   .cond (.tmp 12)
     (.seq (.region [⟨some 13, .build [.v (.int .i64 (0)), .v (.int .i64 (0)), .v (.int .i64 (0))] [], none⟩,
        ⟨some 14, .mv (.tmp 6), none⟩,
        ⟨none, .store 3 (.tmp 4) (.tmp 13), none⟩,
        ⟨some 5, .mv (.tmp 14), none⟩] [4, 5] []) <|
     .ret)
     (.skip)) <|
  .seq (.region [⟨some 15, .fieldAddr 0 (.tmp 2), none⟩,
     ⟨some 16, .load false 1 (.tmp 15), none⟩,
     ⟨some 17, .fieldAddr 0 (.tmp 3), none⟩,
     ⟨some 18, .load false 1 (.tmp 17), none⟩,
     ⟨some 19, .bin .add (.tmp 16) (.tmp 18), none⟩,
     ⟨some 20, .fieldAddr 1 (.tmp 2), none⟩,
     ⟨some 21, .load false 1 (.tmp 20), none⟩,
     ⟨some 22, .fieldAddr 1 (.tmp 3), none⟩,
     ⟨some 23, .load false 1 (.tmp 22), none⟩,
     ⟨some 24, .bin .add (.tmp 21) (.tmp 23), none⟩,
     ⟨some 25, .fieldAddr 2 (.tmp 2), none⟩,
     ⟨some 26, .load false 1 (.tmp 25), none⟩,
     ⟨some 27, .fieldAddr 2 (.tmp 3), none⟩,
     ⟨some 28, .load false 1 (.tmp 27), none⟩,
     ⟨some 29, .bin .add (.tmp 26) (.tmp 28), none⟩,
     ⟨some 30, .build [.v (.int .i64 (0)), .v (.int .i64 (0)), .v (.int .i64 (0))] [(0, 1, (.tmp 19)), (1, 1, (.tmp 24)), (2, 1, (.tmp 29))], none⟩,
     ⟨some 7, .alloc [.v (.int .i64 (0)), .v (.int .i64 (0)), .v (.int .i64 (0))], none⟩,
     ⟨none, .store 3 (.tmp 7) (.tmp 30), none⟩] [4, 7] []) <|
  .seq (.seq (.region [⟨some 31, .load true 3 (.tmp 7), none⟩,
      ⟨some 32, .call (.func F.spec_l18Ok) [(.tmp 31)] [], none⟩,
      ⟨some 33, .un .not (.tmp 32), none⟩] [4, 7, 33] []) <|
   .cond (.tmp 33)
     (.seq (.region [⟨some 34, .build [.v (.int .i64 (0)), .v (.int .i64 (0)), .v (.int .i64 (0))] [], none⟩,
        ⟨none, .store 3 (.tmp 4) (.tmp 34), none⟩,
        ⟨some 5, .mv (.const (.int .i64 (5))), none⟩] [4, 5] []) <|
     .ret)
     (.skip)) <|
  .seq (.region [⟨some 35, .load true 3 (.tmp 7), none⟩,
     ⟨none, .store 3 (.tmp 4) (.tmp 35), none⟩,
     ⟨some 5, .mv (.const (.int .i64 (0))), none⟩] [4, 5] []) <|
  .ret
theorem Cd.spec_AddControls_rs : Try.f15.results.toList = [.cell 4 24, .tmp 5] := rfl
theorem Cd.spec_AddControls_nt : Try.f15.ntmps = 36 := rfl
theorem Cd.spec_AddControls_ok : CodeIsR Try.prog 15 Try.f15 Cd.spec_AddControls := ⟨Try.func15, by kernel_rfl, by decide +kernel⟩
/-- loop.example/g01012/laws.toControl -/
def Cd.laws_toControl : ACode :=
  .seq (.region [⟨some 1, .box (.tmp 0), none⟩,
     ⟨some 2, .alloc [.v (.int .i64 (0)), .v (.int .i64 (0)), .v (.int .i64 (0))], none⟩] [1, 2] []) <|
  .seq (.region [⟨some 3, .alloc [.v (.int .i64 (0)), .v (.int .i64 (0)), .v (.int .i64 (0))], none⟩] [1, 2, 3] []) <|
  .seq (.region [⟨some 4, .fieldAddr 0 (.tmp 1), none⟩,
     ⟨some 5, .load false 1 (.tmp 4), none⟩,
     ⟨some 6, .fieldAddr 0 (.tmp 3), none⟩,
     ⟨none, .store 1 (.tmp 6) (.tmp 5), none⟩] [1, 2, 3] []) <|
  .seq (.region [⟨some 7, .fieldAddr 1 (.tmp 1), none⟩,
     ⟨some 8, .load false 1 (.tmp 7), none⟩,
     ⟨some 9, .fieldAddr 1 (.tmp 3), none⟩,
     ⟨none, .store 1 (.tmp 9) (.tmp 8), none⟩] [1, 2, 3] []) <|
  .seq (.region [⟨some 10, .fieldAddr 2 (.tmp 1), none⟩,
     ⟨some 11, .load false 1 (.tmp 10), none⟩,
     ⟨some 12, .fieldAddr 2 (.tmp 3), none⟩,
     ⟨none, .store 1 (.tmp 12) (.tmp 11), none⟩] [2, 3] []) <|
  .seq (.region [⟨some 13, .load true 3 (.tmp 3), none⟩,
     ⟨none, .store 3 (.tmp 2) (.tmp 13), none⟩] [2] []) <|
  .ret
theorem Cd.laws_toControl_rs : Try.f16.results.toList = [.cell 2 24] := rfl
theorem Cd.laws_toControl_nt : Try.f16.ntmps = 14 := rfl
theorem Cd.laws_toControl_ok : CodeIsR Try.prog 16 Try.f16 Cd.laws_toControl := ⟨Try.func16, by kernel_rfl, by decide +kernel⟩
/-- loop.example/g01012/impl.AddControls -/
def Cd.impl_AddControls : ACode :=
  .seq (.region [⟨some 2, .box (.tmp 0), none⟩,
     ⟨some 3, .box (.tmp 1), none⟩,
     ⟨some 4, .alloc [.v (.int .i64 (0)), .v (.int .i64 (0)), .v (.int .i64 (0))], none⟩,
     ⟨some 5, .mv (.const (.int .i64 (0))), none⟩] [2, 3, 4] []) <|
  .seq (.region [⟨some 6, .load true 3 (.tmp 2), none⟩,
     ⟨some 7, .load true 3 (.tmp 3), none⟩,
     ⟨some 8, .call (.func F.impl_joinedControls) [(.tmp 6), (.tmp 7), (.const (.int .i64 (1)))] [], none⟩,
     ⟨some 9, .extract (.tmp 8) 0, none⟩,
     ⟨some 10, .extract (.tmp 8) 1, none⟩,
     ⟨none, .store 3 (.tmp 4) (.tmp 9), none⟩,
     ⟨some 5, .mv (.tmp 10), none⟩] [4, 5] []) <|
  .ret
theorem Cd.impl_AddControls_rs : Try.f17.results.toList = [.cell 4 24, .tmp 5] := rfl
theorem Cd.impl_AddControls_nt : Try.f17.ntmps = 11 := rfl
theorem Cd.impl_AddControls_ok : CodeIsR Try.prog 17 Try.f17 Cd.impl_AddControls := ⟨Try.func17, by kernel_rfl, by decide +kernel⟩
/-- loop.example/g01012/laws.eqControl -/
def Cd.laws_eqControl : ACode :=
  .seq (.region [⟨some 2, .box (.tmp 0), none⟩,
     ⟨some 3, .box (.tmp 1), none⟩,
     ⟨some 4, .mv (.const (.bool false)), none⟩] [2, 3] []) <|
  .seq (.seq (.region [⟨some 5, .fieldAddr 0 (.tmp 2), none⟩,
      ⟨some 6, .load false 1 (.tmp 5), none⟩,
      ⟨some 7, .fieldAddr 0 (.tmp 3), none⟩,
      ⟨some 8, .load false 1 (.tmp 7), none⟩,
      ⟨some 9, .bin .neq (.tmp 6) (.tmp 8), none⟩] [2, 3, 9] []) <|
   .cond (.tmp 9)
     (.seq (.region [⟨some 4, .mv (.const (.bool false)), none⟩] [4] []) <|
     .ret)
     (.skip)) <|
  .seq (.seq (.region [⟨some 10, .fieldAddr 1 (.tmp 2), none⟩,
      ⟨some 11, .load false 1 (.tmp 10), none⟩,
      ⟨some 12, .fieldAddr 1 (.tmp 3), none⟩,
      ⟨some 13, .load false 1 (.tmp 12), none⟩,
      ⟨some 14, .bin .neq (.tmp 11) (.tmp 13), none⟩] [2, 3, 14] []) <|
   .cond (.tmp 14)
     (.seq (.region [⟨some 4, .mv (.const (.bool false)), none⟩] [4] []) <|
     .ret)
     (.skip)) <|
  .seq (.seq (.region [⟨some 15, .fieldAddr 2 (.tmp 2), none⟩,
      ⟨some 16, .load false 1 (.tmp 15), none⟩,
      ⟨some 17, .fieldAddr 2 (.tmp 3), none⟩,
      ⟨some 18, .load false 1 (.tmp 17), none⟩,
      ⟨some 19, .bin .neq (.tmp 16) (.tmp 18), none⟩] [19] []) <|
   .cond (.tmp 19)
     (.seq (.region [⟨some 4, .mv (.const (.bool false)), none⟩] [4] []) <|
     .ret)
     (.skip)) <|
  .seq (.region [⟨some 4, .mv (.const (.bool true)), none⟩] [4] []) <|
  .ret
theorem Cd.laws_eqControl_rs : Try.f18.results.toList = [.tmp 4] := rfl
theorem Cd.laws_eqControl_nt : Try.f18.ntmps = 20 := rfl
theorem Cd.laws_eqControl_ok : CodeIsR Try.prog 18 Try.f18 Cd.laws_eqControl := ⟨Try.func18, by kernel_rfl, by decide +kernel⟩
/-- loop.example/g01012/spec.TakeControls -/
def Cd.spec_TakeControls : ACode :=
  .seq (.region [⟨some 2, .box (.tmp 0), none⟩,
     ⟨some 3, .box (.tmp 1), none⟩,
     ⟨some 4, .alloc [.v (.int .i64 (0)), .v (.int .i64 (0)), .v (.int .i64 (0))], none⟩,
     ⟨some 5, .mv (.const (.int .i64 (0))), none⟩] [2, 3, 4] []) <|
  .seq (.region [⟨some 8, .load true 3 (.tmp 2), none⟩,
     ⟨some 9, .load true 3 (.tmp 3), none⟩,
     ⟨some 10, .call (.func F.spec_l18Two) [(.tmp 8), (.tmp 9)] [], none⟩,
     ⟨some 6, .mv (.tmp 10), none⟩] [2, 3, 4, 6] []) <|
  .seq (.seq (.region [⟨some 11, .mv (.tmp 6), none⟩,
      ⟨some 12, .bin .neq (.tmp 11) (.const (.int .i64 (0))), none⟩] [2, 3, 4, 6, 12] []) <|
   .cond (.tmp 12)
     (.seq (.region [⟨some 13, .build [.v (.int .i64 (0)), .v (.int .i64 (0)), .v (.int .i64 (0))] [], none⟩,
        ⟨some 14, .mv (.tmp 6), none⟩,
        ⟨none, .store 3 (.tmp 4) (.tmp 13), none⟩,
        ⟨some 5, .mv (.tmp 14), none⟩] [4, 5] []) <|
     .ret)
     (.skip)) <|
  .seq (.region [⟨some 15, .fieldAddr 0 (.tmp 2), none⟩,
     ⟨some 16, .load false 1 (.tmp 15), none⟩,
     ⟨some 17, .fieldAddr 0 (.tmp 3), none⟩,
     ⟨some 18, .load false 1 (.tmp 17), none⟩,
     ⟨some 19, .bin .sub (.tmp 16) (.tmp 18), none⟩,
     ⟨some 20, .fieldAddr 1 (.tmp 2), none⟩,
     ⟨some 21, .load false 1 (.tmp 20), none⟩,
     ⟨some 22, .fieldAddr 1 (.tmp 3), none⟩,
     ⟨some 23, .load false 1 (.tmp 22), none⟩,
     ⟨some 24, .bin .sub (.tmp 21) (.tmp 23), none⟩,
     ⟨some 25, .fieldAddr 2 (.tmp 2), none⟩,
     ⟨some 26, .load false 1 (.tmp 25), none⟩,
     ⟨some 27, .fieldAddr 2 (.tmp 3), none⟩,
     ⟨some 28, .load false 1 (.tmp 27), none⟩,
     ⟨some 29, .bin .sub (.tmp 26) (.tmp 28), none⟩,
     ⟨some 30, .build [.v (.int .i64 (0)), .v (.int .i64 (0)), .v (.int .i64 (0))] [(0, 1, (.tmp 19)), (1, 1, (.tmp 24)), (2, 1, (.tmp 29))], none⟩,
     ⟨some 7, .alloc [.v (.int .i64 (0)), .v (.int .i64 (0)), .v (.int .i64 (0))], none⟩,
     ⟨none, .store 3 (.tmp 7) (.tmp 30), none⟩] [4, 7] []) <|
  .seq (.seq (.region [⟨some 31, .load true 3 (.tmp 7), none⟩,
      ⟨some 32, .call (.func F.spec_l18Ok) [(.tmp 31)] [], none⟩,
      ⟨some 33, .un .not (.tmp 32), none⟩] [4, 7, 33] []) <|
   .cond (.tmp 33)
     (.seq (.region [⟨some 34, .build [.v (.int .i64 (0)), .v (.int .i64 (0)), .v (.int .i64 (0))] [], none⟩,
        ⟨none, .store 3 (.tmp 4) (.tmp 34), none⟩,
        ⟨some 5, .mv (.const (.int .i64 (5))), none⟩] [4, 5] []) <|
     .ret)
     (.skip)) <|
  .seq (.region [⟨some 35, .load true 3 (.tmp 7), none⟩,
     ⟨none, .store 3 (.tmp 4) (.tmp 35), none⟩,
     ⟨some 5, .mv (.const (.int .i64 (0))), none⟩] [4, 5] []) <|
  .ret
theorem Cd.spec_TakeControls_rs : Try.f19.results.toList = [.cell 4 24, .tmp 5] := rfl
theorem Cd.spec_TakeControls_nt : Try.f19.ntmps = 36 := rfl
theorem Cd.spec_TakeControls_ok : CodeIsR Try.prog 19 Try.f19 Cd.spec_TakeControls := ⟨Try.func19, by kernel_rfl, by decide +kernel⟩
/-- loop.example/g01012/impl.TakeControls -/
def Cd.impl_TakeControls : ACode :=
  .seq (.region [⟨some 2, .box (.tmp 0), none⟩,
     ⟨some 3, .box (.tmp 1), none⟩,
     ⟨some 4, .alloc [.v (.int .i64 (0)), .v (.int .i64 (0)), .v (.int .i64 (0))], none⟩,
     ⟨some 5, .mv (.const (.int .i64 (0))), none⟩] [2, 3, 4] []) <|
  .seq (.region [⟨some 6, .load true 3 (.tmp 2), none⟩,
     ⟨some 7, .load true 3 (.tmp 3), none⟩,
     ⟨some 8, .call (.func F.impl_joinedControls) [(.tmp 6), (.tmp 7), (.const (.int .i64 (-1)))] [], none⟩,
     ⟨some 9, .extract (.tmp 8) 0, none⟩,
     ⟨some 10, .extract (.tmp 8) 1, none⟩,
     ⟨none, .store 3 (.tmp 4) (.tmp 9), none⟩,
     ⟨some 5, .mv (.tmp 10), none⟩] [4, 5] []) <|
  .ret
theorem Cd.impl_TakeControls_rs : Try.f20.results.toList = [.cell 4 24, .tmp 5] := rfl
theorem Cd.impl_TakeControls_nt : Try.f20.ntmps = 11 := rfl
theorem Cd.impl_TakeControls_ok : CodeIsR Try.prog 20 Try.f20 Cd.impl_TakeControls := ⟨Try.func20, by kernel_rfl, by decide +kernel⟩
/-- loop.example/g01012/laws.szFaultS -/
def Cd.laws_szFaultS : ACode :=
  .seq (.region [⟨some 4, .mv (.const (.int .i64 (0))), none⟩] [0, 1] []) <|
  .seq (.region [⟨some 5, .mv (.tmp 1), none⟩,
     ⟨some 6, .mv (.tmp 0), none⟩,
     ⟨some 7, .len (.tmp 6), none⟩,
     ⟨some 8, .bin .sub (.tmp 5) (.tmp 7), none⟩,
     ⟨some 1, .mv (.tmp 8), none⟩] [1] []) <|
  .seq (.seq (.region [⟨some 9, .mv (.tmp 1), none⟩,
      ⟨some 10, .bin .lss (.tmp 9) (.const (.int .i64 (0))), none⟩] [1, 10] []) <|
   .cond (.tmp 10)
     (.seq (.region [⟨some 4, .mv (.const (.int .i64 (-1))), none⟩] [4] []) <|
     .ret)
     (.skip)) <|
  .seq (.region [⟨some 11, .mv (.tmp 1), none⟩,
     ⟨some 4, .mv (.tmp 11), none⟩] [4] []) <|
  .ret
theorem Cd.laws_szFaultS_rs : Try.f39.results.toList = [.tmp 4] := rfl
theorem Cd.laws_szFaultS_nt : Try.f39.ntmps = 12 := rfl
theorem Cd.laws_szFaultS_ok : CodeIsR Try.prog 39 Try.f39 Cd.laws_szFaultS := ⟨Try.func39, by kernel_rfl, by decide +kernel⟩
/-- loop.example/g01012/spec.ValidFaults -/
def Cd.spec_ValidFaults : ACode :=
  .seq (.region [⟨some 4, .mv (.const (.bool false)), none⟩] [0, 1] []) <|
  .seq (.region [⟨some 5, .mv (.tmp 0), none⟩,
     ⟨some 6, .call (.func F.spec_l19Ok) [(.tmp 5)] [], none⟩,
     ⟨some 7, .mv (.tmp 6), none⟩,
     ⟨some 8, .mv (.tmp 0), some (7, true)⟩,
     ⟨some 9, .mv (.tmp 1), some (7, true)⟩,
     ⟨some 10, .call (.func F.spec_l19Faults) [(.tmp 8), (.tmp 9)] [], some (7, true)⟩,
     ⟨some 11, .pick (.tmp 7) (.tmp 10) (.const (.bool false)), none⟩,
     ⟨some 4, .mv (.tmp 11), none⟩] [4] []) <|
  .ret
theorem Cd.spec_ValidFaults_rs : Try.f40.results.toList = [.tmp 4] := rfl
theorem Cd.spec_ValidFaults_nt : Try.f40.ntmps = 12 := rfl
theorem Cd.spec_ValidFaults_ok : CodeIsR Try.prog 40 Try.f40 Cd.spec_ValidFaults := ⟨Try.func40, by kernel_rfl, by decide +kernel⟩
/-- loop.example/g01012/laws.toInt64S -/
def Cd.laws_toInt64S : ACode :=
  .seq (.region [⟨some 2, .mv (.const (.slice none 0 0)), none⟩] [0] []) <|
  .seq (.region [⟨some 5, .mv (.tmp 0), none⟩,
     ⟨some 6, .len (.tmp 5), none⟩,
     ⟨some 7, .mk 1 8 [.v (.int .i64 (0))] (.tmp 6), none⟩,
     ⟨some 3, .mv (.tmp 7), none⟩] [0, 3] []) <|
  .seq (.seq (.region [⟨some 4, .mv (.const (.int .i64 (0))), none⟩] [0, 3, 4] []) <|
   .block 0 (
     .loop (
       .seq (.seq (.region [⟨some 8, .mv (.tmp 4), none⟩,
           ⟨some 9, .mv (.tmp 0), none⟩,
           ⟨some 10, .len (.tmp 9), none⟩,
           ⟨some 11, .bin .lss (.tmp 8) (.tmp 10), none⟩] [0, 3, 4, 11] []) <|
        .cond (.tmp 11)
          (.skip)
          (.exit 0)) <|
       .seq (.block 1 (
          .region [⟨some 14, .mv (.tmp 3), none⟩,
            ⟨some 15, .mv (.tmp 4), none⟩,
            ⟨some 16, .mv (.tmp 0), none⟩,
            ⟨some 17, .mv (.tmp 4), none⟩,
            ⟨some 18, .idxSl 1 (.tmp 16) (.tmp 17), none⟩,
            ⟨some 19, .load false 1 (.tmp 18), none⟩,
            ⟨some 20, .idxSl 1 (.tmp 14) (.tmp 15), none⟩,
            ⟨none, .store 1 (.tmp 20) (.tmp 19), none⟩] [0, 3, 4] [])) <|
       .region [⟨some 12, .mv (.tmp 4), none⟩,
         ⟨some 13, .bin .add (.tmp 12) (.const (.int .i64 (1))), none⟩,
         ⟨some 4, .mv (.tmp 13), none⟩] [0, 3, 4] []))) <|
  .seq (.region [⟨some 21, .mv (.tmp 3), none⟩,
     ⟨some 2, .mv (.tmp 21), none⟩] [2] []) <|
  .ret
theorem Cd.laws_toInt64S_rs : Try.f41.results.toList = [.tmp 2] := rfl
theorem Cd.laws_toInt64S_nt : Try.f41.ntmps = 22 := rfl
theorem Cd.laws_toInt64S_ok : CodeIsR Try.prog 41 Try.f41 Cd.laws_toInt64S := ⟨Try.func41, by kernel_rfl, by decide +kernel⟩
/-- loop.example/g01012/laws.toFaultS -/
def Cd.laws_toFaultS : ACode :=
  .seq (.region [⟨some 2, .mv (.const (.slice none 0 0)), none⟩] [0] []) <|
  .seq (.region [⟨some 5, .mv (.tmp 0), none⟩,
     ⟨some 6, .len (.tmp 5), none⟩,
     ⟨some 7, .mk 4 32 [.v (.int .i64 (0)), .v (.int .i64 (0)), .v (.int .i64 (0)), .v (.int .i64 (0))] (.tmp 6), none⟩,
     ⟨some 3, .mv (.tmp 7), none⟩] [0, 3] []) <|
  .seq (.seq (.region [⟨some 4, .mv (.const (.int .i64 (0))), none⟩] [0, 3, 4] []) <|
   .block 0 (
     .loop (
       .seq (.seq (.region [⟨some 8, .mv (.tmp 4), none⟩,
           ⟨some 9, .mv (.tmp 0), none⟩,
           ⟨some 10, .len (.tmp 9), none⟩,
           ⟨some 11, .bin .lss (.tmp 8) (.tmp 10), none⟩] [0, 3, 4, 11] []) <|
        .cond (.tmp 11)
          (.skip)
          (.exit 0)) <|
       .seq (.block 1 (
          .region [⟨some 14, .mv (.tmp 3), none⟩,
            ⟨some 15, .mv (.tmp 4), none⟩,
            ⟨some 16, .mv (.tmp 0), none⟩,
            ⟨some 17, .mv (.tmp 4), none⟩,
            ⟨some 18, .idxSl 4 (.tmp 16) (.tmp 17), none⟩,
            ⟨some 19, .load true 4 (.tmp 18), none⟩,
            ⟨some 20, .call (.func F.laws_toFault) [(.tmp 19)] [], none⟩,
            ⟨some 21, .idxSl 4 (.tmp 14) (.tmp 15), none⟩,
            ⟨none, .store 4 (.tmp 21) (.tmp 20), none⟩] [0, 3, 4] [])) <|
       .region [⟨some 12, .mv (.tmp 4), none⟩,
         ⟨some 13, .bin .add (.tmp 12) (.const (.int .i64 (1))), none⟩,
         ⟨some 4, .mv (.tmp 13), none⟩] [0, 3, 4] []))) <|
  .seq (.region [⟨some 22, .mv (.tmp 3), none⟩,
     ⟨some 2, .mv (.tmp 22), none⟩] [2] []) <|
  .ret
theorem Cd.laws_toFaultS_rs : Try.f42.results.toList = [.tmp 2] := rfl
theorem Cd.laws_toFaultS_nt : Try.f42.ntmps = 23 := rfl
theorem Cd.laws_toFaultS_ok : CodeIsR Try.prog 42 Try.f42 Cd.laws_toFaultS := ⟨Try.func42, by kernel_rfl, by decide +kernel⟩
/-- loop.example/g01012/impl.ValidFaults -/
def Cd.impl_ValidFaults : ACode :=
  .seq (.region [⟨some 4, .mv (.const (.bool false)), none⟩] [0, 1] []) <|
  .seq (.region [⟨some 5, .mv (.tmp 0), none⟩,
     ⟨some 6, .call (.func F.impl_ValidAmounts) [(.tmp 5)] [], none⟩,
     ⟨some 7, .mv (.tmp 6), none⟩,
     ⟨some 8, .mv (.tmp 0), some (7, true)⟩,
     ⟨some 9, .mv (.tmp 1), some (7, true)⟩,
     ⟨some 10, .call (.func F.impl_areFaults) [(.tmp 8), (.tmp 9)] [], some (7, true)⟩,
     ⟨some 11, .pick (.tmp 7) (.tmp 10) (.const (.bool false)), none⟩,
     ⟨some 4, .mv (.tmp 11), none⟩] [4] []) <|
  .ret
theorem Cd.impl_ValidFaults_rs : Try.f43.results.toList = [.tmp 4] := rfl
theorem Cd.impl_ValidFaults_nt : Try.f43.ntmps = 12 := rfl
theorem Cd.impl_ValidFaults_ok : CodeIsR Try.prog 43 Try.f43 Cd.impl_ValidFaults := ⟨Try.func43, by kernel_rfl, by decide +kernel⟩
/-- loop.example/g01012/laws.eqInt64S DRAWS -/
def Cd.laws_eqInt64S : ACode :=
  .seq (.region [⟨some 4, .mv (.const (.bool false)), none⟩] [0, 1] []) <|
  .seq (.seq (.region [⟨some 6, .mv (.tmp 0), none⟩,
      ⟨some 7, .len (.tmp 6), none⟩,
      ⟨some 8, .mv (.tmp 1), none⟩,
      ⟨some 9, .len (.tmp 8), none⟩,
      ⟨some 10, .bin .neq (.tmp 7) (.tmp 9), none⟩] [0, 1, 10] []) <|
   .cond (.tmp 10)
     (.seq (.region [⟨some 4, .mv (.const (.bool false)), none⟩] [4] []) <|
     .ret)
     (.skip)) <|
  .seq (.seq (.region [⟨some 5, .mv (.const (.int .i64 (0))), none⟩] [0, 1, 5] []) <|
   .block 0 (
     .loop (
       .seq (.seq (.region [⟨some 11, .mv (.tmp 5), none⟩,
           ⟨some 12, .mv (.tmp 0), none⟩,
           ⟨some 13, .len (.tmp 12), none⟩,
           ⟨some 14, .bin .lss (.tmp 11) (.tmp 13), none⟩] [0, 1, 5, 14] []) <|
        .cond (.tmp 14)
          (.skip)
          (.exit 0)) <|
       .seq (.block 1 (
          .seq (.region [⟨some 17, .mv (.tmp 0), none⟩,
             ⟨some 18, .mv (.tmp 5), none⟩,
             ⟨some 19, .idxSl 1 (.tmp 17) (.tmp 18), none⟩,
             ⟨some 20, .load false 1 (.tmp 19), none⟩,
             ⟨some 21, .mv (.tmp 1), none⟩,
             ⟨some 22, .mv (.tmp 5), none⟩,
             ⟨some 23, .idxSl 1 (.tmp 21) (.tmp 22), none⟩,
             ⟨some 24, .load false 1 (.tmp 23), none⟩,
             ⟨some 25, .bin .neq (.tmp 20) (.tmp 24), none⟩] [0, 1, 5, 25] [17, 18, 20, 21, 19, 22, 23, 24, 25]) <|
          .cond (.tmp 25)
            (.seq (.region [⟨some 4, .mv (.const (.bool false)), none⟩] [4] []) <|
            .ret)
            (.skip))) <|
       .region [⟨some 15, .mv (.tmp 5), none⟩,
         ⟨some 16, .bin .add (.tmp 15) (.const (.int .i64 (1))), none⟩,
         ⟨some 5, .mv (.tmp 16), none⟩] [0, 1, 5] []))) <|
  .seq (.region [⟨some 4, .mv (.const (.bool true)), none⟩] [4] []) <|
  .ret
theorem Cd.laws_eqInt64S_rs : Try.f44.results.toList = [.tmp 4] := rfl
theorem Cd.laws_eqInt64S_nt : Try.f44.ntmps = 26 := rfl
theorem Cd.laws_eqInt64S_ok : CodeIsR Try.prog 44 Try.f44 Cd.laws_eqInt64S := ⟨Try.func44, by kernel_rfl, by decide +kernel⟩
/-- loop.example/g01012/laws.eqFaultS DRAWS -/
def Cd.laws_eqFaultS : ACode :=
  .seq (.region [⟨some 4, .mv (.const (.bool false)), none⟩] [0, 1] []) <|
  .seq (.seq (.region [⟨some 6, .mv (.tmp 0), none⟩,
      ⟨some 7, .len (.tmp 6), none⟩,
      ⟨some 8, .mv (.tmp 1), none⟩,
      ⟨some 9, .len (.tmp 8), none⟩,
      ⟨some 10, .bin .neq (.tmp 7) (.tmp 9), none⟩] [0, 1, 10] []) <|
   .cond (.tmp 10)
     (.seq (.region [⟨some 4, .mv (.const (.bool false)), none⟩] [4] []) <|
     .ret)
     (.skip)) <|
  .seq (.seq (.region [⟨some 5, .mv (.const (.int .i64 (0))), none⟩] [0, 1, 5] []) <|
   .block 0 (
     .loop (
       .seq (.seq (.region [⟨some 11, .mv (.tmp 5), none⟩,
           ⟨some 12, .mv (.tmp 0), none⟩,
           ⟨some 13, .len (.tmp 12), none⟩,
           ⟨some 14, .bin .lss (.tmp 11) (.tmp 13), none⟩] [0, 1, 5, 14] []) <|
        .cond (.tmp 14)
          (.skip)
          (.exit 0)) <|
       .seq (.block 1 (
          .seq (.region [⟨some 17, .mv (.tmp 0), none⟩,
             ⟨some 18, .mv (.tmp 5), none⟩,
             ⟨some 19, .idxSl 4 (.tmp 17) (.tmp 18), none⟩,
             ⟨some 20, .load true 4 (.tmp 19), none⟩,
             ⟨some 21, .mv (.tmp 1), none⟩,
             ⟨some 22, .mv (.tmp 5), none⟩,
             ⟨some 23, .idxSl 4 (.tmp 21) (.tmp 22), none⟩,
             ⟨some 24, .load true 4 (.tmp 23), none⟩,
             ⟨some 25, .call (.func F.laws_eqFault) [(.tmp 20), (.tmp 24)] [], none⟩,
             ⟨some 26, .un .not (.tmp 25), none⟩] [0, 1, 5, 26] [17, 18, 20, 21, 19, 22, 23, 24, 25, 26]) <|
          .cond (.tmp 26)
            (.seq (.region [⟨some 4, .mv (.const (.bool false)), none⟩] [4] []) <|
            .ret)
            (.skip))) <|
       .region [⟨some 15, .mv (.tmp 5), none⟩,
         ⟨some 16, .bin .add (.tmp 15) (.const (.int .i64 (1))), none⟩,
         ⟨some 5, .mv (.tmp 16), none⟩] [0, 1, 5] []))) <|
  .seq (.region [⟨some 4, .mv (.const (.bool true)), none⟩] [4] []) <|
  .ret
theorem Cd.laws_eqFaultS_rs : Try.f45.results.toList = [.tmp 4] := rfl
theorem Cd.laws_eqFaultS_nt : Try.f45.ntmps = 27 := rfl
theorem Cd.laws_eqFaultS_ok : CodeIsR Try.prog 45 Try.f45 Cd.laws_eqFaultS := ⟨Try.func45, by kernel_rfl, by decide +kernel⟩
/-- loop.example/g01012/laws.szCardS -/
def Cd.laws_szCardS : ACode :=
  .seq (.region [⟨some 4, .mv (.const (.int .i64 (0))), none⟩] [0, 1] []) <|
  .seq (.region [⟨some 6, .mv (.tmp 1), none⟩,
     ⟨some 7, .mv (.tmp 0), none⟩,
     ⟨some 8, .len (.tmp 7), none⟩,
     ⟨some 9, .bin .sub (.tmp 6) (.tmp 8), none⟩,
     ⟨some 1, .mv (.tmp 9), none⟩] [0, 1] []) <|
  .seq (.seq (.region [⟨some 10, .mv (.tmp 1), none⟩,
      ⟨some 11, .bin .lss (.tmp 10) (.const (.int .i64 (0))), none⟩] [0, 1, 11] []) <|
   .cond (.tmp 11)
     (.seq (.region [⟨some 4, .mv (.const (.int .i64 (-1))), none⟩] [4] []) <|
     .ret)
     (.skip)) <|
  .seq (.seq (.region [⟨some 5, .mv (.const (.int .i64 (0))), none⟩] [0, 1, 5] []) <|
   .block 0 (
     .loop (
       .seq (.seq (.region [⟨some 12, .mv (.tmp 5), none⟩,
           ⟨some 13, .mv (.tmp 0), none⟩,
           ⟨some 14, .len (.tmp 13), none⟩,
           ⟨some 15, .bin .lss (.tmp 12) (.tmp 14), none⟩] [0, 1, 5, 15] []) <|
        .cond (.tmp 15)
          (.skip)
          (.exit 0)) <|
       .seq (.block 1 (
          .seq (.region [⟨some 18, .mv (.tmp 0), none⟩,
             ⟨some 19, .mv (.tmp 5), none⟩,
             ⟨some 20, .idxSl 1 (.tmp 18) (.tmp 19), none⟩,
             ⟨some 21, .load true 1 (.tmp 20), none⟩,
             ⟨some 22, .mv (.tmp 1), none⟩,
             ⟨some 23, .call (.func F.laws_szCard) [(.tmp 21), (.tmp 22)] [], none⟩,
             ⟨some 1, .mv (.tmp 23), none⟩] [0, 1, 5] []) <|
          .seq (.region [⟨some 24, .mv (.tmp 1), none⟩,
             ⟨some 25, .bin .lss (.tmp 24) (.const (.int .i64 (0))), none⟩] [0, 1, 5, 25] []) <|
          .cond (.tmp 25)
            (.seq (.region [⟨some 4, .mv (.const (.int .i64 (-1))), none⟩] [4] []) <|
            .ret)
            (.skip))) <|
       .region [⟨some 16, .mv (.tmp 5), none⟩,
         ⟨some 17, .bin .add (.tmp 16) (.const (.int .i64 (1))), none⟩,
         ⟨some 5, .mv (.tmp 17), none⟩] [0, 1, 5] []))) <|
  .seq (.region [⟨some 26, .mv (.tmp 1), none⟩,
     ⟨some 4, .mv (.tmp 26), none⟩] [4] []) <|
  .ret
theorem Cd.laws_szCardS_rs : Try.f46.results.toList = [.tmp 4] := rfl
theorem Cd.laws_szCardS_nt : Try.f46.ntmps = 27 := rfl
theorem Cd.laws_szCardS_ok : CodeIsR Try.prog 46 Try.f46 Cd.laws_szCardS := ⟨Try.func46, by kernel_rfl, by decide +kernel⟩
/-- loop.example/g01012/laws.toCardS -/
def Cd.laws_toCardS : ACode :=
  .seq (.region [⟨some 2, .mv (.const (.slice none 0 0)), none⟩] [0] []) <|
  .seq (.region [⟨some 5, .mv (.tmp 0), none⟩,
     ⟨some 6, .len (.tmp 5), none⟩,
     ⟨some 7, .mk 1 24 [.v (.slice none 0 0)] (.tmp 6), none⟩,
     ⟨some 3, .mv (.tmp 7), none⟩] [0, 3] []) <|
  .seq (.seq (.region [⟨some 4, .mv (.const (.int .i64 (0))), none⟩] [0, 3, 4] []) <|
   .block 0 (
     .loop (
       .seq (.seq (.region [⟨some 8, .mv (.tmp 4), none⟩,
           ⟨some 9, .mv (.tmp 0), none⟩,
           ⟨some 10, .len (.tmp 9), none⟩,
           ⟨some 11, .bin .lss (.tmp 8) (.tmp 10), none⟩] [0, 3, 4, 11] []) <|
        .cond (.tmp 11)
          (.skip)
          (.exit 0)) <|
       .seq (.block 1 (
          .region [⟨some 14, .mv (.tmp 3), none⟩,
            ⟨some 15, .mv (.tmp 4), none⟩,
            ⟨some 16, .mv (.tmp 0), none⟩,
            ⟨some 17, .mv (.tmp 4), none⟩,
            ⟨some 18, .idxSl 1 (.tmp 16) (.tmp 17), none⟩,
            ⟨some 19, .load true 1 (.tmp 18), none⟩,
            ⟨some 20, .call (.func F.laws_toCard) [(.tmp 19)] [], none⟩,
            ⟨some 21, .idxSl 1 (.tmp 14) (.tmp 15), none⟩,
            ⟨none, .store 1 (.tmp 21) (.tmp 20), none⟩] [0, 3, 4] [])) <|
       .region [⟨some 12, .mv (.tmp 4), none⟩,
         ⟨some 13, .bin .add (.tmp 12) (.const (.int .i64 (1))), none⟩,
         ⟨some 4, .mv (.tmp 13), none⟩] [0, 3, 4] []))) <|
  .seq (.region [⟨some 22, .mv (.tmp 3), none⟩,
     ⟨some 2, .mv (.tmp 22), none⟩] [2] []) <|
  .ret
theorem Cd.laws_toCardS_rs : Try.f48.results.toList = [.tmp 2] := rfl
theorem Cd.laws_toCardS_nt : Try.f48.ntmps = 23 := rfl
theorem Cd.laws_toCardS_ok : CodeIsR Try.prog 48 Try.f48 Cd.laws_toCardS := ⟨Try.func48, by kernel_rfl, by decide +kernel⟩
/-- loop.example/g01012/laws.eqCardS DRAWS -/
def Cd.laws_eqCardS : ACode :=
  .seq (.region [⟨some 4, .mv (.const (.bool false)), none⟩] [0, 1] []) <|
  .seq (.seq (.region [⟨some 6, .mv (.tmp 0), none⟩,
      ⟨some 7, .len (.tmp 6), none⟩,
      ⟨some 8, .mv (.tmp 1), none⟩,
      ⟨some 9, .len (.tmp 8), none⟩,
      ⟨some 10, .bin .neq (.tmp 7) (.tmp 9), none⟩] [0, 1, 10] []) <|
   .cond (.tmp 10)
     (.seq (.region [⟨some 4, .mv (.const (.bool false)), none⟩] [4] []) <|
     .ret)
     (.skip)) <|
  .seq (.seq (.region [⟨some 5, .mv (.const (.int .i64 (0))), none⟩] [0, 1, 5] []) <|
   .block 0 (
     .loop (
       .seq (.seq (.region [⟨some 11, .mv (.tmp 5), none⟩,
           ⟨some 12, .mv (.tmp 0), none⟩,
           ⟨some 13, .len (.tmp 12), none⟩,
           ⟨some 14, .bin .lss (.tmp 11) (.tmp 13), none⟩] [0, 1, 5, 14] []) <|
        .cond (.tmp 14)
          (.skip)
          (.exit 0)) <|
       .seq (.block 1 (
          .seq (.region [⟨some 17, .mv (.tmp 0), none⟩,
             ⟨some 18, .mv (.tmp 5), none⟩,
             ⟨some 19, .idxSl 1 (.tmp 17) (.tmp 18), none⟩,
             ⟨some 20, .load true 1 (.tmp 19), none⟩,
             ⟨some 21, .mv (.tmp 1), none⟩,
             ⟨some 22, .mv (.tmp 5), none⟩,
             ⟨some 23, .idxSl 1 (.tmp 21) (.tmp 22), none⟩,
             ⟨some 24, .load true 1 (.tmp 23), none⟩,
             ⟨some 25, .call (.func F.laws_eqCard) [(.tmp 20), (.tmp 24)] [], none⟩,
             ⟨some 26, .un .not (.tmp 25), none⟩] [0, 1, 5, 26] [17, 18, 20, 21, 19, 22, 23, 24, 25, 26]) <|
          .cond (.tmp 26)
            (.seq (.region [⟨some 4, .mv (.const (.bool false)), none⟩] [4] []) <|
            .ret)
            (.skip))) <|
       .region [⟨some 15, .mv (.tmp 5), none⟩,
         ⟨some 16, .bin .add (.tmp 15) (.const (.int .i64 (1))), none⟩,
         ⟨some 5, .mv (.tmp 16), none⟩] [0, 1, 5] []))) <|
  .seq (.region [⟨some 4, .mv (.const (.bool true)), none⟩] [4] []) <|
  .ret
theorem Cd.laws_eqCardS_rs : Try.f50.results.toList = [.tmp 4] := rfl
theorem Cd.laws_eqCardS_nt : Try.f50.ntmps = 27 := rfl
theorem Cd.laws_eqCardS_ok : CodeIsR Try.prog 50 Try.f50 Cd.laws_eqCardS := ⟨Try.func50, by kernel_rfl, by decide +kernel⟩
/-- loop.example/g01012/spec.l18Two -/
def Cd.spec_l18Two : ACode :=
  .seq (.region [⟨some 2, .box (.tmp 0), none⟩,
     ⟨some 3, .box (.tmp 1), none⟩,
     ⟨some 4, .mv (.const (.int .i64 (0))), none⟩] [2, 3] []) <|
  .seq (.seq (.region [⟨some 5, .load true 3 (.tmp 2), none⟩,
      ⟨some 6, .call (.func F.spec_l18Ok) [(.tmp 5)] [], none⟩,
      ⟨some 7, .un .not (.tmp 6), none⟩,
      ⟨some 8, .mv (.tmp 7), none⟩,
      ⟨some 9, .load true 3 (.tmp 3), some (8, false)⟩,
      ⟨some 10, .call (.func F.spec_l18Ok) [(.tmp 9)] [], some (8, false)⟩,
      ⟨some 11, .un .not (.tmp 10), some (8, false)⟩,
      ⟨some 12, .pick (.tmp 8) (.const (.bool true)) (.tmp 11), none⟩] [12] []) <|
   .cond (.tmp 12)
     (.seq (.region [⟨some 4, .mv (.const (.int .i64 (1))), none⟩] [4] []) <|
     .ret)
     (.skip)) <|
  .seq (.region [⟨some 4, .mv (.const (.int .i64 (0))), none⟩] [4] []) <|
  .ret
theorem Cd.spec_l18Two_rs : Try.f66.results.toList = [.tmp 4] := rfl
theorem Cd.spec_l18Two_nt : Try.f66.ntmps = 13 := rfl
theorem Cd.spec_l18Two_ok : CodeIsR Try.prog 66 Try.f66 Cd.spec_l18Two := ⟨Try.func66, by kernel_rfl, by decide +kernel⟩
/-- loop.example/g01012/spec.l18Ok -/
def Cd.spec_l18Ok : ACode :=
  .seq (.region [⟨some 1, .box (.tmp 0), none⟩,
     ⟨some 2, .mv (.const (.bool false)), none⟩] [1] []) <|
  .seq (.region [⟨some 3, .fieldAddr 0 (.tmp 1), none⟩,
     ⟨some 4, .load false 1 (.tmp 3), none⟩,
     ⟨some 5, .call (.func F.spec_l00In) [(.tmp 4), (.const (.int .i64 (0))), (.const (.int .i64 (1000000)))] [], none⟩,
     ⟨some 6, .mv (.tmp 5), none⟩,
     ⟨some 7, .fieldAddr 1 (.tmp 1), some (6, true)⟩,
     ⟨some 8, .load false 1 (.tmp 7), some (6, true)⟩,
     ⟨some 9, .call (.func F.spec_l00In) [(.tmp 8), (.const (.int .i64 (-1000000000000000))), (.const (.int .i64 (1000000000000000)))] [], some (6, true)⟩,
     ⟨some 10, .pick (.tmp 6) (.tmp 9) (.const (.bool false)), none⟩,
     ⟨some 11, .mv (.tmp 10), none⟩,
     ⟨some 12, .fieldAddr 2 (.tmp 1), some (11, true)⟩,
     ⟨some 13, .load false 1 (.tmp 12), some (11, true)⟩,
     ⟨some 14, .call (.func F.spec_l00In) [(.tmp 13), (.const (.int .i64 (0))), (.const (.int .i64 (1000000000)))] [], some (11, true)⟩,
     ⟨some 15, .pick (.tmp 11) (.tmp 14) (.const (.bool false)), none⟩,
     ⟨some 2, .mv (.tmp 15), none⟩] [2] []) <|
  .ret
theorem Cd.spec_l18Ok_rs : Try.f67.results.toList = [.tmp 2] := rfl
theorem Cd.spec_l18Ok_nt : Try.f67.ntmps = 16 := rfl
theorem Cd.spec_l18Ok_ok : CodeIsR Try.prog 67 Try.f67 Cd.spec_l18Ok := ⟨Try.func67, by kernel_rfl, by decide +kernel⟩
/-- loop.example/g01012/impl.joinedControls -/
def Cd.impl_joinedControls : ACode :=
  .seq (.region [⟨some 3, .box (.tmp 0), none⟩,
     ⟨some 4, .box (.tmp 1), none⟩,
     ⟨some 6, .alloc [.v (.int .i64 (0)), .v (.int .i64 (0)), .v (.int .i64 (0))], none⟩,
     ⟨some 7, .mv (.const (.int .i64 (0))), none⟩] [2, 3, 4, 6] []) <|
  .seq (.seq (.region [⟨some 9, .load true 3 (.tmp 3), none⟩,
      ⟨some 10, .call (.func F.impl_isPlainControl) [(.tmp 9)] [], none⟩,
      ⟨some 11, .un .not (.tmp 10), none⟩,
      ⟨some 12, .mv (.tmp 11), none⟩,
      ⟨some 13, .load true 3 (.tmp 4), some (12, false)⟩,
      ⟨some 14, .call (.func F.impl_isPlainControl) [(.tmp 13)] [], some (12, false)⟩,
      ⟨some 15, .un .not (.tmp 14), some (12, false)⟩,
      ⟨some 16, .pick (.tmp 12) (.const (.bool true)) (.tmp 15), none⟩] [2, 3, 4, 6, 16] []) <|
   .cond (.tmp 16)
     (.seq (.region [⟨some 17, .build [.v (.int .i64 (0)), .v (.int .i64 (0)), .v (.int .i64 (0))] [], none⟩,
        ⟨none, .store 3 (.tmp 6) (.tmp 17), none⟩,
        ⟨some 7, .mv (.const (.int .i64 (1))), none⟩] [6, 7] []) <|
     .ret)
     (.skip)) <|
  .seq (.region [⟨some 18, .load true 3 (.tmp 3), none⟩,
     ⟨some 19, .load true 3 (.tmp 4), none⟩,
     ⟨some 20, .mv (.tmp 2), none⟩,
     ⟨some 21, .call (.func F._impl_Control__plus) [(.tmp 18), (.tmp 19), (.tmp 20)] [], none⟩,
     ⟨some 8, .alloc [.v (.int .i64 (0)), .v (.int .i64 (0)), .v (.int .i64 (0))], none⟩,
     ⟨none, .store 3 (.tmp 8) (.tmp 21), none⟩] [6, 8] []) <|
  .seq (.seq (.region [⟨some 22, .load true 3 (.tmp 8), none⟩,
      ⟨some 23, .call (.func F.impl_isPlainControl) [(.tmp 22)] [], none⟩,
      ⟨some 24, .un .not (.tmp 23), none⟩] [6, 8, 24] []) <|
   .cond (.tmp 24)
     (.seq (.region [⟨some 25, .build [.v (.int .i64 (0)), .v (.int .i64 (0)), .v (.int .i64 (0))] [], none⟩,
        ⟨none, .store 3 (.tmp 6) (.tmp 25), none⟩,
        ⟨some 7, .mv (.const (.int .i64 (5))), none⟩] [6, 7] []) <|
     .ret)
     (.skip)) <|
  .seq (.region [⟨some 26, .load true 3 (.tmp 8), none⟩,
     ⟨none, .store 3 (.tmp 6) (.tmp 26), none⟩,
     ⟨some 7, .mv (.const (.int .i64 (0))), none⟩] [6, 7] []) <|
  .ret
theorem Cd.impl_joinedControls_rs : Try.f68.results.toList = [.cell 6 24, .tmp 7] := rfl
theorem Cd.impl_joinedControls_nt : Try.f68.ntmps = 27 := rfl
theorem Cd.impl_joinedControls_ok : CodeIsR Try.prog 68 Try.f68 Cd.impl_joinedControls := ⟨Try.func68, by kernel_rfl, by decide +kernel⟩
/-- loop.example/g01012/spec.l00In -/
def Cd.spec_l00In : ACode :=
  .seq (.region [⟨some 6, .mv (.const (.bool false)), none⟩] [0, 1, 2] []) <|
  .seq (.region [⟨some 7, .mv (.tmp 0), none⟩,
     ⟨some 8, .mv (.tmp 1), none⟩,
     ⟨some 9, .bin .geq (.tmp 7) (.tmp 8), none⟩,
     ⟨some 10, .mv (.tmp 9), none⟩,
     ⟨some 11, .mv (.tmp 0), some (10, true)⟩,
     ⟨some 12, .mv (.tmp 2), some (10, true)⟩,
     ⟨some 13, .bin .leq (.tmp 11) (.tmp 12), some (10, true)⟩,
     ⟨some 14, .pick (.tmp 10) (.tmp 13) (.const (.bool false)), none⟩,
     ⟨some 6, .mv (.tmp 14), none⟩] [6] []) <|
  .ret
theorem Cd.spec_l00In_rs : Try.f74.results.toList = [.tmp 6] := rfl
theorem Cd.spec_l00In_nt : Try.f74.ntmps = 15 := rfl
theorem Cd.spec_l00In_ok : CodeIsR Try.prog 74 Try.f74 Cd.spec_l00In := ⟨Try.func74, by kernel_rfl, by decide +kernel⟩
/-- loop.example/g01012/impl.inside -/
def Cd.impl_inside : ACode :=
  .seq (.region [⟨some 6, .mv (.const (.bool false)), none⟩] [0, 1, 2] []) <|
  .seq (.region [⟨some 7, .mv (.tmp 0), none⟩,
     ⟨some 8, .mv (.tmp 1), none⟩,
     ⟨some 9, .bin .geq (.tmp 7) (.tmp 8), none⟩,
     ⟨some 10, .mv (.tmp 9), none⟩,
     ⟨some 11, .mv (.tmp 0), some (10, true)⟩,
     ⟨some 12, .mv (.tmp 2), some (10, true)⟩,
     ⟨some 13, .bin .leq (.tmp 11) (.tmp 12), some (10, true)⟩,
     ⟨some 14, .pick (.tmp 10) (.tmp 13) (.const (.bool false)), none⟩,
     ⟨some 6, .mv (.tmp 14), none⟩] [6] []) <|
  .ret
theorem Cd.impl_inside_rs : Try.f77.results.toList = [.tmp 6] := rfl
theorem Cd.impl_inside_nt : Try.f77.ntmps = 15 := rfl
theorem Cd.impl_inside_ok : CodeIsR Try.prog 77 Try.f77 Cd.impl_inside := ⟨Try.func77, by kernel_rfl, by decide +kernel⟩
/-- loop.example/g01012/spec.l19Ok -/
def Cd.spec_l19Ok : ACode :=
  .seq (.region [⟨some 2, .mv (.const (.bool false)), none⟩] [0] []) <|
  .seq (.seq (.region [⟨some 3, .mv (.const (.int .i64 (0))), none⟩] [0, 3] []) <|
   .block 0 (
     .loop (
       .seq (.seq (.region [⟨some 4, .mv (.tmp 3), none⟩,
           ⟨some 5, .mv (.tmp 0), none⟩,
           ⟨some 6, .len (.tmp 5), none⟩,
           ⟨some 7, .bin .lss (.tmp 4) (.tmp 6), none⟩] [0, 3, 7] []) <|
        .cond (.tmp 7)
          (.skip)
          (.exit 0)) <|
       .seq (.block 1 (
          .seq (.region [⟨some 10, .mv (.tmp 0), none⟩,
             ⟨some 11, .mv (.tmp 3), none⟩,
             ⟨some 12, .idxSl 1 (.tmp 10) (.tmp 11), none⟩,
             ⟨some 13, .load false 1 (.tmp 12), none⟩,
             ⟨some 14, .call (.func F.spec_l00In) [(.tmp 13), (.const (.int .i64 (0))), (.const (.int .i64 (9999)))] [], none⟩,
             ⟨some 15, .un .not (.tmp 14), none⟩] [0, 3, 15] []) <|
          .cond (.tmp 15)
            (.seq (.region [⟨some 2, .mv (.const (.bool false)), none⟩] [2] []) <|
            .ret)
            (.skip))) <|
       .region [⟨some 8, .mv (.tmp 3), none⟩,
         ⟨some 9, .bin .add (.tmp 8) (.const (.int .i64 (1))), none⟩,
         ⟨some 3, .mv (.tmp 9), none⟩] [0, 3] []))) <|
  .seq (.region [⟨some 16, .mv (.tmp 0), none⟩,
     ⟨some 17, .len (.tmp 16), none⟩,
     ⟨some 18, .bin .leq (.tmp 17) (.const (.int .i64 (12))), none⟩,
     ⟨some 2, .mv (.tmp 18), none⟩] [2] []) <|
  .ret
theorem Cd.spec_l19Ok_rs : Try.f86.results.toList = [.tmp 2] := rfl
theorem Cd.spec_l19Ok_nt : Try.f86.ntmps = 19 := rfl
theorem Cd.spec_l19Ok_ok : CodeIsR Try.prog 86 Try.f86 Cd.spec_l19Ok := ⟨Try.func86, by kernel_rfl, by decide +kernel⟩
/-- loop.example/g01012/spec.l19Faults DRAWS -/
def Cd.spec_l19Faults : ACode :=
  .seq (.region [⟨some 4, .mv (.const (.bool false)), none⟩] [0, 1] []) <|
  .seq (.seq (.region [⟨some 5, .mv (.const (.int .i64 (0))), none⟩] [0, 1, 5] []) <|
   .block 0 (
     .loop (
       .seq (.seq (.region [⟨some 6, .mv (.tmp 5), none⟩,
           ⟨some 7, .mv (.tmp 1), none⟩,
           ⟨some 8, .len (.tmp 7), none⟩,
           ⟨some 9, .bin .lss (.tmp 6) (.tmp 8), none⟩] [0, 1, 5, 9] []) <|
        .cond (.tmp 9)
          (.skip)
          (.exit 0)) <|
       .seq (.block 1 (
          .seq (.region [⟨some 12, .mv (.tmp 0), none⟩,
             ⟨some 13, .mv (.tmp 1), none⟩,
             ⟨some 14, .mv (.tmp 5), none⟩,
             ⟨some 15, .idxSl 4 (.tmp 13) (.tmp 14), none⟩,
             ⟨some 16, .load true 4 (.tmp 15), none⟩,
             ⟨some 17, .call (.func F.spec_l19Fault) [(.tmp 12), (.tmp 16)] [], none⟩,
             ⟨some 18, .un .not (.tmp 17), none⟩,
             ⟨some 19, .mv (.tmp 18), none⟩,
             ⟨some 20, .mv (.tmp 5), some (19, false)⟩,
             ⟨some 21, .bin .gtr (.tmp 20) (.const (.int .i64 (0))), some (19, false)⟩,
             ⟨some 22, .mv (.tmp 21), some (19, false)⟩,
             ⟨some 23, .mv (.tmp 1), some (22, true)⟩,
             ⟨some 24, .mv (.tmp 5), some (22, true)⟩,
             ⟨some 25, .bin .sub (.tmp 24) (.const (.int .i64 (1))), some (22, true)⟩,
             ⟨some 26, .idxSl 4 (.tmp 23) (.tmp 25), some (22, true)⟩,
             ⟨some 27, .fieldAddr 1 (.tmp 26), some (22, true)⟩,
             ⟨some 28, .load false 1 (.tmp 27), some (22, true)⟩,
             ⟨some 29, .mv (.tmp 1), some (22, true)⟩,
             ⟨some 30, .mv (.tmp 5), some (22, true)⟩,
             ⟨some 31, .idxSl 4 (.tmp 29) (.tmp 30), some (22, true)⟩,
             ⟨some 32, .fieldAddr 1 (.tmp 31), some (22, true)⟩,
             ⟨some 33, .load false 1 (.tmp 32), some (22, true)⟩,
             ⟨some 34, .bin .geq (.tmp 28) (.tmp 33), some (22, true)⟩,
             ⟨some 35, .pick (.tmp 22) (.tmp 34) (.const (.bool false)), some (19, false)⟩,
             ⟨some 36, .pick (.tmp 19) (.const (.bool true)) (.tmp 35), none⟩] [0, 1, 5, 36] [12, 13, 14, 15, 16, 17, 18, 19, 20, 21, 22, 23, 24, 25, 26, 27, 28, 29, 30, 31, 32, 33, 34, 35, 36]) <|
          .cond (.tmp 36)
            (.seq (.region [⟨some 4, .mv (.const (.bool false)), none⟩] [4] []) <|
            .ret)
            (.skip))) <|
       .region [⟨some 10, .mv (.tmp 5), none⟩,
         ⟨some 11, .bin .add (.tmp 10) (.const (.int .i64 (1))), none⟩,
         ⟨some 5, .mv (.tmp 11), none⟩] [0, 1, 5] []))) <|
  .seq (.region [⟨some 37, .mv (.tmp 1), none⟩,
     ⟨some 38, .len (.tmp 37), none⟩,
     ⟨some 39, .bin .leq (.tmp 38) (.const (.int .i64 (2))), none⟩,
     ⟨some 4, .mv (.tmp 39), none⟩] [4] []) <|
  .ret
theorem Cd.spec_l19Faults_rs : Try.f87.results.toList = [.tmp 4] := rfl
theorem Cd.spec_l19Faults_nt : Try.f87.ntmps = 40 := rfl
theorem Cd.spec_l19Faults_ok : CodeIsR Try.prog 87 Try.f87 Cd.spec_l19Faults := ⟨Try.func87, by kernel_rfl, by decide +kernel⟩
/-- loop.example/g01012/laws.toFault -/
def Cd.laws_toFault : ACode :=
  .seq (.region [⟨some 1, .box (.tmp 0), none⟩,
     ⟨some 2, .alloc [.v (.int .i64 (0)), .v (.int .i64 (0)), .v (.int .i64 (0)), .v (.int .i64 (0))], none⟩] [1, 2] []) <|
  .seq (.region [⟨some 3, .alloc [.v (.int .i64 (0)), .v (.int .i64 (0)), .v (.int .i64 (0)), .v (.int .i64 (0))], none⟩] [1, 2, 3] []) <|
  .seq (.region [⟨some 4, .fieldAddr 0 (.tmp 1), none⟩,
     ⟨some 5, .load false 1 (.tmp 4), none⟩,
     ⟨some 6, .fieldAddr 0 (.tmp 3), none⟩,
     ⟨none, .store 1 (.tmp 6) (.tmp 5), none⟩] [1, 2, 3] []) <|
  .seq (.region [⟨some 7, .fieldAddr 1 (.tmp 1), none⟩,
     ⟨some 8, .load false 1 (.tmp 7), none⟩,
     ⟨some 9, .fieldAddr 1 (.tmp 3), none⟩,
     ⟨none, .store 1 (.tmp 9) (.tmp 8), none⟩] [1, 2, 3] []) <|
  .seq (.region [⟨some 10, .fieldAddr 2 (.tmp 1), none⟩,
     ⟨some 11, .load false 1 (.tmp 10), none⟩,
     ⟨some 12, .fieldAddr 2 (.tmp 3), none⟩,
     ⟨none, .store 1 (.tmp 12) (.tmp 11), none⟩] [1, 2, 3] []) <|
  .seq (.region [⟨some 13, .fieldAddr 3 (.tmp 1), none⟩,
     ⟨some 14, .load false 1 (.tmp 13), none⟩,
     ⟨some 15, .fieldAddr 3 (.tmp 3), none⟩,
     ⟨none, .store 1 (.tmp 15) (.tmp 14), none⟩] [2, 3] []) <|
  .seq (.region [⟨some 16, .load true 4 (.tmp 3), none⟩,
     ⟨none, .store 4 (.tmp 2) (.tmp 16), none⟩] [2] []) <|
  .ret
theorem Cd.laws_toFault_rs : Try.f88.results.toList = [.cell 2 114] := rfl
theorem Cd.laws_toFault_nt : Try.f88.ntmps = 17 := rfl
theorem Cd.laws_toFault_ok : CodeIsR Try.prog 88 Try.f88 Cd.laws_toFault := ⟨Try.func88, by kernel_rfl, by decide +kernel⟩
/-- loop.example/g01012/impl.ValidAmounts -/
def Cd.impl_ValidAmounts : ACode :=
  .seq (.region [⟨some 2, .mv (.const (.bool false)), none⟩] [0] []) <|
  .seq (.region [⟨some 3, .mv (.tmp 0), none⟩,
     ⟨some 4, .len (.tmp 3), none⟩,
     ⟨some 5, .bin .leq (.tmp 4) (.const (.int .i64 (12))), none⟩,
     ⟨some 6, .mv (.tmp 5), none⟩,
     ⟨some 7, .mv (.tmp 0), some (6, true)⟩,
     ⟨some 8, .call (.func F.slices_ContainsFunc___int64_int64_) [(.tmp 7), (.func F.impl_ValidAmounts_1)] [], some (6, true)⟩,
     ⟨some 9, .un .not (.tmp 8), some (6, true)⟩,
     ⟨some 10, .pick (.tmp 6) (.tmp 9) (.const (.bool false)), none⟩,
     ⟨some 2, .mv (.tmp 10), none⟩] [2] []) <|
  .ret
theorem Cd.impl_ValidAmounts_rs : Try.f89.results.toList = [.tmp 2] := rfl
theorem Cd.impl_ValidAmounts_nt : Try.f89.ntmps = 11 := rfl
theorem Cd.impl_ValidAmounts_ok : CodeIsR Try.prog 89 Try.f89 Cd.impl_ValidAmounts := ⟨Try.func89, by kernel_rfl, by decide +kernel⟩
/-- loop.example/g01012/impl.areFaults DRAWS -/
def Cd.impl_areFaults : ACode :=
  .seq (.region [⟨some 4, .mv (.const (.bool false)), none⟩] [0, 1] []) <|
  .seq (.seq (.region [⟨some 7, .mv (.tmp 1), none⟩,
      ⟨some 8, .len (.tmp 7), none⟩,
      ⟨some 9, .mv (.const (.int .i64 (0))), none⟩] [0, 1, 7, 8, 9] []) <|
   .block 0 (
     .loop (
       .seq (.region [⟨some 10, .bin .lss (.tmp 9) (.tmp 8), none⟩] [0, 1, 7, 8, 9, 10] []) <|
       .seq (.cond (.tmp 10)
          (.skip)
          (.exit 0)) <|
       .seq (.block 1 (
          .seq (.region [⟨some 11, .mv (.tmp 9), none⟩,
             ⟨some 12, .idxSl 4 (.tmp 7) (.tmp 9), none⟩,
             ⟨some 13, .load true 4 (.tmp 12), none⟩,
             ⟨some 6, .alloc [.v (.int .i64 (0)), .v (.int .i64 (0)), .v (.int .i64 (0)), .v (.int .i64 (0))], none⟩,
             ⟨some 5, .mv (.tmp 11), none⟩,
             ⟨none, .store 4 (.tmp 6) (.tmp 13), none⟩] [0, 1, 5, 6, 7, 8, 9] []) <|
          .seq (.seq (.region [⟨some 14, .load true 4 (.tmp 6), none⟩,
              ⟨some 15, .call (.func F.impl_isFault) [(.tmp 14)] [], none⟩,
              ⟨some 16, .un .not (.tmp 15), none⟩,
              ⟨some 17, .mv (.tmp 16), none⟩,
              ⟨some 18, .fieldAddr 1 (.tmp 6), some (17, false)⟩,
              ⟨some 19, .load false 1 (.tmp 18), some (17, false)⟩,
              ⟨some 20, .mv (.tmp 0), some (17, false)⟩,
              ⟨some 21, .call (.func F.impl_size_int64_) [(.tmp 20)] [], some (17, false)⟩,
              ⟨some 22, .bin .sub (.tmp 21) (.const (.int .i64 (1))), some (17, false)⟩,
              ⟨some 23, .call (.func F.impl_inside) [(.tmp 19), (.const (.int .i64 (0))), (.tmp 22)] [], some (17, false)⟩,
              ⟨some 24, .un .not (.tmp 23), some (17, false)⟩,
              ⟨some 25, .pick (.tmp 17) (.const (.bool true)) (.tmp 24), none⟩,
              ⟨some 26, .mv (.tmp 25), none⟩,
              ⟨some 27, .mv (.tmp 5), some (26, false)⟩,
              ⟨some 28, .bin .gtr (.tmp 27) (.const (.int .i64 (0))), some (26, false)⟩,
              ⟨some 29, .mv (.tmp 28), some (26, false)⟩,
              ⟨some 30, .mv (.tmp 1), some (29, true)⟩,
              ⟨some 31, .mv (.tmp 5), some (29, true)⟩,
              ⟨some 32, .bin .sub (.tmp 31) (.const (.int .i64 (1))), some (29, true)⟩,
              ⟨some 33, .idxSl 4 (.tmp 30) (.tmp 32), some (29, true)⟩,
              ⟨some 34, .fieldAddr 1 (.tmp 33), some (29, true)⟩,
              ⟨some 35, .load false 1 (.tmp 34), some (29, true)⟩,
              ⟨some 36, .fieldAddr 1 (.tmp 6), some (29, true)⟩,
              ⟨some 37, .load false 1 (.tmp 36), some (29, true)⟩,
              ⟨some 38, .bin .geq (.tmp 35) (.tmp 37), some (29, true)⟩,
              ⟨some 39, .pick (.tmp 29) (.tmp 38) (.const (.bool false)), some (26, false)⟩,
              ⟨some 40, .pick (.tmp 26) (.const (.bool true)) (.tmp 39), none⟩] [0, 1, 6, 7, 8, 9, 40] [14, 16, 17, 18, 15, 19, 20, 21, 22, 23, 24, 25, 26, 27, 28, 29, 30, 31, 32, 33, 34, 35, 36, 37, 38, 39, 40]) <|
           .cond (.tmp 40)
             (.seq (.region [⟨some 4, .mv (.const (.bool false)), none⟩] [4] []) <|
             .ret)
             (.skip)) <|
          .seq (.region [⟨some 41, .fieldAddr 0 (.tmp 6), none⟩,
             ⟨some 42, .load false 1 (.tmp 41), none⟩,
             ⟨some 43, .bin .eql (.tmp 42) (.const (.int .i64 (3))), none⟩,
             ⟨some 44, .mv (.tmp 43), none⟩,
             ⟨some 45, .mv (.tmp 0), some (44, true)⟩,
             ⟨some 46, .fieldAddr 1 (.tmp 6), some (44, true)⟩,
             ⟨some 47, .load false 1 (.tmp 46), some (44, true)⟩,
             ⟨some 48, .idxSl 1 (.tmp 45) (.tmp 47), some (44, true)⟩,
             ⟨some 49, .load false 1 (.tmp 48), some (44, true)⟩,
             ⟨some 50, .fieldAddr 2 (.tmp 6), some (44, true)⟩,
             ⟨some 51, .load false 1 (.tmp 50), some (44, true)⟩,
             ⟨some 52, .call (.func F.impl_digitAt) [(.tmp 49), (.tmp 51)] [], some (44, true)⟩,
             ⟨some 53, .fieldAddr 3 (.tmp 6), some (44, true)⟩,
             ⟨some 54, .load false 1 (.tmp 53), some (44, true)⟩,
             ⟨some 55, .bin .eql (.tmp 52) (.tmp 54), some (44, true)⟩,
             ⟨some 56, .pick (.tmp 44) (.tmp 55) (.const (.bool false)), none⟩] [0, 1, 7, 8, 9, 56] [41, 43, 44, 42, 45, 46, 47, 48, 49, 50, 51, 52, 53, 54, 55, 56]) <|
          .cond (.tmp 56)
            (.seq (.region [⟨some 4, .mv (.const (.bool false)), none⟩] [4] []) <|
            .ret)
            (.skip))) <|
       .region [⟨some 57, .bin .add (.tmp 9) (.const (.int .i64 (1))), none⟩,
         ⟨some 9, .mv (.tmp 57), none⟩] [0, 1, 7, 8, 9] []))) <|
  .seq (.region [⟨some 58, .mv (.tmp 1), none⟩,
     ⟨some 59, .len (.tmp 58), none⟩,
     ⟨some 60, .bin .leq (.tmp 59) (.const (.int .i64 (2))), none⟩,
     ⟨some 4, .mv (.tmp 60), none⟩] [4] []) <|
  .ret
theorem Cd.impl_areFaults_rs : Try.f90.results.toList = [.tmp 4] := rfl
theorem Cd.impl_areFaults_nt : Try.f90.ntmps = 61 := rfl
theorem Cd.impl_areFaults_ok : CodeIsR Try.prog 90 Try.f90 Cd.impl_areFaults := ⟨Try.func90, by kernel_rfl, by decide +kernel⟩
/-- loop.example/g01012/laws.eqFault -/
def Cd.laws_eqFault : ACode :=
  .seq (.region [⟨some 2, .box (.tmp 0), none⟩,
     ⟨some 3, .box (.tmp 1), none⟩,
     ⟨some 4, .mv (.const (.bool false)), none⟩] [2, 3] []) <|
  .seq (.seq (.region [⟨some 5, .fieldAddr 0 (.tmp 2), none⟩,
      ⟨some 6, .load false 1 (.tmp 5), none⟩,
      ⟨some 7, .fieldAddr 0 (.tmp 3), none⟩,
      ⟨some 8, .load false 1 (.tmp 7), none⟩,
      ⟨some 9, .bin .neq (.tmp 6) (.tmp 8), none⟩] [2, 3, 9] []) <|
   .cond (.tmp 9)
     (.seq (.region [⟨some 4, .mv (.const (.bool false)), none⟩] [4] []) <|
     .ret)
     (.skip)) <|
  .seq (.seq (.region [⟨some 10, .fieldAddr 1 (.tmp 2), none⟩,
      ⟨some 11, .load false 1 (.tmp 10), none⟩,
      ⟨some 12, .fieldAddr 1 (.tmp 3), none⟩,
      ⟨some 13, .load false 1 (.tmp 12), none⟩,
      ⟨some 14, .bin .neq (.tmp 11) (.tmp 13), none⟩] [2, 3, 14] []) <|
   .cond (.tmp 14)
     (.seq (.region [⟨some 4, .mv (.const (.bool false)), none⟩] [4] []) <|
     .ret)
     (.skip)) <|
  .seq (.seq (.region [⟨some 15, .fieldAddr 2 (.tmp 2), none⟩,
      ⟨some 16, .load false 1 (.tmp 15), none⟩,
      ⟨some 17, .fieldAddr 2 (.tmp 3), none⟩,
      ⟨some 18, .load false 1 (.tmp 17), none⟩,
      ⟨some 19, .bin .neq (.tmp 16) (.tmp 18), none⟩] [2, 3, 19] []) <|
   .cond (.tmp 19)
     (.seq (.region [⟨some 4, .mv (.const (.bool false)), none⟩] [4] []) <|
     .ret)
     (.skip)) <|
  .seq (.seq (.region [⟨some 20, .fieldAddr 3 (.tmp 2), none⟩,
      ⟨some 21, .load false 1 (.tmp 20), none⟩,
      ⟨some 22, .fieldAddr 3 (.tmp 3), none⟩,
      ⟨some 23, .load false 1 (.tmp 22), none⟩,
      ⟨some 24, .bin .neq (.tmp 21) (.tmp 23), none⟩] [24] []) <|
   .cond (.tmp 24)
     (.seq (.region [⟨some 4, .mv (.const (.bool false)), none⟩] [4] []) <|
     .ret)
     (.skip)) <|
  .seq (.region [⟨some 4, .mv (.const (.bool true)), none⟩] [4] []) <|
  .ret
theorem Cd.laws_eqFault_rs : Try.f91.results.toList = [.tmp 4] := rfl
theorem Cd.laws_eqFault_nt : Try.f91.ntmps = 25 := rfl
theorem Cd.laws_eqFault_ok : CodeIsR Try.prog 91 Try.f91 Cd.laws_eqFault := ⟨Try.func91, by kernel_rfl, by decide +kernel⟩
/-- loop.example/g01012/laws.szCard -/
def Cd.laws_szCard : ACode :=
  .seq (.region [⟨some 2, .box (.tmp 0), none⟩,
     ⟨some 4, .mv (.const (.int .i64 (0))), none⟩] [1, 2] []) <|
  .seq (.region [⟨some 5, .fieldAddr 0 (.tmp 2), none⟩,
     ⟨some 6, .load false 1 (.tmp 5), none⟩,
     ⟨some 7, .mv (.tmp 1), none⟩,
     ⟨some 8, .call (.func F.laws_szInt64S) [(.tmp 6), (.tmp 7)] [], none⟩,
     ⟨some 1, .mv (.tmp 8), none⟩] [1] []) <|
  .seq (.seq (.region [⟨some 9, .mv (.tmp 1), none⟩,
      ⟨some 10, .bin .lss (.tmp 9) (.const (.int .i64 (0))), none⟩] [1, 10] []) <|
   .cond (.tmp 10)
     (.seq (.region [⟨some 4, .mv (.const (.int .i64 (-1))), none⟩] [4] []) <|
     .ret)
     (.skip)) <|
  .seq (.region [⟨some 11, .mv (.tmp 1), none⟩,
     ⟨some 4, .mv (.tmp 11), none⟩] [4] []) <|
  .ret
theorem Cd.laws_szCard_rs : Try.f92.results.toList = [.tmp 4] := rfl
theorem Cd.laws_szCard_nt : Try.f92.ntmps = 12 := rfl
theorem Cd.laws_szCard_ok : CodeIsR Try.prog 92 Try.f92 Cd.laws_szCard := ⟨Try.func92, by kernel_rfl, by decide +kernel⟩
/-- loop.example/g01012/spec.l17Code -/
def Cd.spec_l17Code : ACode :=
  .seq (.region [⟨some 4, .mv (.const (.int .i64 (0))), none⟩] [0, 1] []) <|
  .seq (.seq (.region [⟨some 5, .mv (.tmp 0), none⟩,
      ⟨some 6, .call (.func F.spec_l17Sample) [(.tmp 5)] [], none⟩,
      ⟨some 7, .un .not (.tmp 6), none⟩] [1, 7] []) <|
   .cond (.tmp 7)
     (.seq (.region [⟨some 4, .mv (.const (.int .i64 (1))), none⟩] [4] []) <|
     .ret)
     (.skip)) <|
  .seq (.seq (.region [⟨some 8, .mv (.tmp 1), none⟩,
      ⟨some 9, .call (.func F.spec_l00In) [(.tmp 8), (.const (.int .i64 (0))), (.const (.int .i64 (3)))] [], none⟩,
      ⟨some 10, .un .not (.tmp 9), none⟩] [10] []) <|
   .cond (.tmp 10)
     (.seq (.region [⟨some 4, .mv (.const (.int .i64 (2))), none⟩] [4] []) <|
     .ret)
     (.skip)) <|
  .seq (.region [⟨some 4, .mv (.const (.int .i64 (0))), none⟩] [4] []) <|
  .ret
theorem Cd.spec_l17Code_rs : Try.f93.results.toList = [.tmp 4] := rfl
theorem Cd.spec_l17Code_nt : Try.f93.ntmps = 11 := rfl
theorem Cd.spec_l17Code_ok : CodeIsR Try.prog 93 Try.f93 Cd.spec_l17Code := ⟨Try.func93, by kernel_rfl, by decide +kernel⟩
/-- loop.example/g01012/laws.toCard -/
def Cd.laws_toCard : ACode :=
  .seq (.region [⟨some 1, .box (.tmp 0), none⟩,
     ⟨some 2, .alloc [.v (.slice none 0 0)], none⟩] [1, 2] []) <|
  .seq (.region [⟨some 3, .alloc [.v (.slice none 0 0)], none⟩] [1, 2, 3] []) <|
  .seq (.region [⟨some 4, .fieldAddr 0 (.tmp 1), none⟩,
     ⟨some 5, .load false 1 (.tmp 4), none⟩,
     ⟨some 6, .call (.func F.laws_toInt64S) [(.tmp 5)] [], none⟩,
     ⟨some 7, .fieldAddr 0 (.tmp 3), none⟩,
     ⟨none, .store 1 (.tmp 7) (.tmp 6), none⟩] [2, 3] []) <|
  .seq (.region [⟨some 8, .load true 1 (.tmp 3), none⟩,
     ⟨none, .store 1 (.tmp 2) (.tmp 8), none⟩] [2] []) <|
  .ret
theorem Cd.laws_toCard_rs : Try.f95.results.toList = [.cell 2 123] := rfl
theorem Cd.laws_toCard_nt : Try.f95.ntmps = 9 := rfl
theorem Cd.laws_toCard_ok : CodeIsR Try.prog 95 Try.f95 Cd.laws_toCard := ⟨Try.func95, by kernel_rfl, by decide +kernel⟩
/-- loop.example/g01012/laws.eqCard -/
def Cd.laws_eqCard : ACode :=
  .seq (.region [⟨some 2, .box (.tmp 0), none⟩,
     ⟨some 3, .box (.tmp 1), none⟩,
     ⟨some 4, .mv (.const (.bool false)), none⟩] [2, 3] []) <|
  .seq (.seq (.region [⟨some 5, .fieldAddr 0 (.tmp 2), none⟩,
      ⟨some 6, .load false 1 (.tmp 5), none⟩,
      ⟨some 7, .fieldAddr 0 (.tmp 3), none⟩,
      ⟨some 8, .load false 1 (.tmp 7), none⟩,
      ⟨some 9, .call (.func F.laws_eqInt64S) [(.tmp 6), (.tmp 8)] [], none⟩,
      ⟨some 10, .un .not (.tmp 9), none⟩] [10] []) <|
   .cond (.tmp 10)
     (.seq (.region [⟨some 4, .mv (.const (.bool false)), none⟩] [4] []) <|
     .ret)
     (.skip)) <|
  .seq (.region [⟨some 4, .mv (.const (.bool true)), none⟩] [4] []) <|
  .ret
theorem Cd.laws_eqCard_rs : Try.f99.results.toList = [.tmp 4] := rfl
theorem Cd.laws_eqCard_nt : Try.f99.ntmps = 11 := rfl
theorem Cd.laws_eqCard_ok : CodeIsR Try.prog 99 Try.f99 Cd.laws_eqCard := ⟨Try.func99, by kernel_rfl, by decide +kernel⟩
/-- loop.example/g01012/impl.isPlainControl -/
def Cd.impl_isPlainControl : ACode :=
  .seq (.region [⟨some 1, .box (.tmp 0), none⟩,
     ⟨some 2, .mv (.const (.bool false)), none⟩] [1] []) <|
  .seq (.region [⟨some 3, .fieldAddr 0 (.tmp 1), none⟩,
     ⟨some 4, .load false 1 (.tmp 3), none⟩,
     ⟨some 5, .call (.func F.impl_inside) [(.tmp 4), (.const (.int .i64 (0))), (.const (.int .i64 (1000000)))] [], none⟩,
     ⟨some 6, .mv (.tmp 5), none⟩,
     ⟨some 7, .fieldAddr 1 (.tmp 1), some (6, true)⟩,
     ⟨some 8, .load false 1 (.tmp 7), some (6, true)⟩,
     ⟨some 9, .call (.func F.impl_inside) [(.tmp 8), (.const (.int .i64 (-1000000000000000))), (.const (.int .i64 (1000000000000000)))] [], some (6, true)⟩,
     ⟨some 10, .pick (.tmp 6) (.tmp 9) (.const (.bool false)), none⟩,
     ⟨some 11, .mv (.tmp 10), none⟩,
     ⟨some 12, .fieldAddr 2 (.tmp 1), some (11, true)⟩,
     ⟨some 13, .load false 1 (.tmp 12), some (11, true)⟩,
     ⟨some 14, .call (.func F.impl_inside) [(.tmp 13), (.const (.int .i64 (0))), (.const (.int .i64 (1000000000)))] [], some (11, true)⟩,
     ⟨some 15, .pick (.tmp 11) (.tmp 14) (.const (.bool false)), none⟩,
     ⟨some 2, .mv (.tmp 15), none⟩] [2] []) <|
  .ret
theorem Cd.impl_isPlainControl_rs : Try.f110.results.toList = [.tmp 2] := rfl
theorem Cd.impl_isPlainControl_nt : Try.f110.ntmps = 16 := rfl
theorem Cd.impl_isPlainControl_ok : CodeIsR Try.prog 110 Try.f110 Cd.impl_isPlainControl := ⟨Try.func110, by kernel_rfl, by decide +kernel⟩
/-- (loop.example/g01012/impl.Control).plus -/
def Cd._impl_Control__plus : ACode :=
  .seq (.region [⟨some 3, .box (.tmp 0), none⟩,
     ⟨some 4, .box (.tmp 1), none⟩,
     ⟨some 6, .alloc [.v (.int .i64 (0)), .v (.int .i64 (0)), .v (.int .i64 (0))], none⟩] [2, 3, 4, 6] []) <|
  .seq (.region [⟨some 7, .fieldAddr 0 (.tmp 3), none⟩,
     ⟨some 8, .load false 1 (.tmp 7), none⟩,
     ⟨some 9, .mv (.tmp 2), none⟩,
     ⟨some 10, .fieldAddr 0 (.tmp 4), none⟩,
     ⟨some 11, .load false 1 (.tmp 10), none⟩,
     ⟨some 12, .bin .mul (.tmp 9) (.tmp 11), none⟩,
     ⟨some 13, .bin .add (.tmp 8) (.tmp 12), none⟩,
     ⟨some 14, .fieldAddr 1 (.tmp 3), none⟩,
     ⟨some 15, .load false 1 (.tmp 14), none⟩,
     ⟨some 16, .mv (.tmp 2), none⟩,
     ⟨some 17, .fieldAddr 1 (.tmp 4), none⟩,
     ⟨some 18, .load false 1 (.tmp 17), none⟩,
     ⟨some 19, .bin .mul (.tmp 16) (.tmp 18), none⟩,
     ⟨some 20, .bin .add (.tmp 15) (.tmp 19), none⟩,
     ⟨some 21, .fieldAddr 2 (.tmp 3), none⟩,
     ⟨some 22, .load false 1 (.tmp 21), none⟩,
     ⟨some 23, .mv (.tmp 2), none⟩,
     ⟨some 24, .fieldAddr 2 (.tmp 4), none⟩,
     ⟨some 25, .load false 1 (.tmp 24), none⟩,
     ⟨some 26, .bin .mul (.tmp 23) (.tmp 25), none⟩,
     ⟨some 27, .bin .add (.tmp 22) (.tmp 26), none⟩,
     ⟨some 28, .build [.v (.int .i64 (0)), .v (.int .i64 (0)), .v (.int .i64 (0))] [(0, 1, (.tmp 13)), (1, 1, (.tmp 20)), (2, 1, (.tmp 27))], none⟩,
     ⟨none, .store 3 (.tmp 6) (.tmp 28), none⟩] [6] []) <|
  .ret
theorem Cd._impl_Control__plus_rs : Try.f111.results.toList = [.cell 6 24] := rfl
theorem Cd._impl_Control__plus_nt : Try.f111.ntmps = 29 := rfl
theorem Cd._impl_Control__plus_ok : CodeIsR Try.prog 111 Try.f111 Cd._impl_Control__plus := ⟨Try.func111, by kernel_rfl, by decide +kernel⟩
/-- loop.example/g01012/spec.l19Fault DRAWS -/
def Cd.spec_l19Fault : ACode :=
  .seq (.region [⟨some 3, .box (.tmp 1), none⟩,
     ⟨some 4, .mv (.const (.bool false)), none⟩] [0, 3] []) <|
  .seq (.seq (.region [⟨some 5, .load true 4 (.tmp 3), none⟩,
      ⟨some 6, .call (.func F.spec_l19Form) [(.tmp 5)] [], none⟩,
      ⟨some 7, .un .not (.tmp 6), none⟩,
      ⟨some 8, .mv (.tmp 7), none⟩,
      ⟨some 9, .fieldAddr 1 (.tmp 3), some (8, false)⟩,
      ⟨some 10, .load false 1 (.tmp 9), some (8, false)⟩,
      ⟨some 11, .mv (.tmp 0), some (8, false)⟩,
      ⟨some 12, .len (.tmp 11), some (8, false)⟩,
      ⟨some 13, .bin .geq (.tmp 10) (.tmp 12), some (8, false)⟩,
      ⟨some 14, .pick (.tmp 8) (.const (.bool true)) (.tmp 13), none⟩] [0, 3, 14] []) <|
   .cond (.tmp 14)
     (.seq (.region [⟨some 4, .mv (.const (.bool false)), none⟩] [4] []) <|
     .ret)
     (.skip)) <|
  .seq (.region [⟨some 15, .fieldAddr 0 (.tmp 3), none⟩,
     ⟨some 16, .load false 1 (.tmp 15), none⟩,
     ⟨some 17, .bin .neq (.tmp 16) (.const (.int .i64 (3))), none⟩,
     ⟨some 18, .mv (.tmp 17), none⟩,
     ⟨some 19, .mv (.tmp 0), some (18, false)⟩,
     ⟨some 20, .fieldAddr 1 (.tmp 3), some (18, false)⟩,
     ⟨some 21, .load false 1 (.tmp 20), some (18, false)⟩,
     ⟨some 22, .idxSl 1 (.tmp 19) (.tmp 21), some (18, false)⟩,
     ⟨some 23, .load false 1 (.tmp 22), some (18, false)⟩,
     ⟨some 24, .fieldAddr 2 (.tmp 3), some (18, false)⟩,
     ⟨some 25, .load false 1 (.tmp 24), some (18, false)⟩,
     ⟨some 26, .call (.func F.spec_l19Power) [(.tmp 25)] [], some (18, false)⟩,
     ⟨some 27, .bin .quo (.tmp 23) (.tmp 26), some (18, false)⟩,
     ⟨some 28, .bin .rem (.tmp 27) (.const (.int .i64 (10))), some (18, false)⟩,
     ⟨some 29, .fieldAddr 3 (.tmp 3), some (18, false)⟩,
     ⟨some 30, .load false 1 (.tmp 29), some (18, false)⟩,
     ⟨some 31, .bin .neq (.tmp 28) (.tmp 30), some (18, false)⟩,
     ⟨some 32, .pick (.tmp 18) (.const (.bool true)) (.tmp 31), none⟩,
     ⟨some 4, .mv (.tmp 32), none⟩] [4] [15, 17, 18, 16, 19, 20, 21, 22, 23, 24, 25, 26, 27, 28, 29, 30, 31, 32]) <|
  .ret
theorem Cd.spec_l19Fault_rs : Try.f118.results.toList = [.tmp 4] := rfl
theorem Cd.spec_l19Fault_nt : Try.f118.ntmps = 33 := rfl
theorem Cd.spec_l19Fault_ok : CodeIsR Try.prog 118 Try.f118 Cd.spec_l19Fault := ⟨Try.func118, by kernel_rfl, by decide +kernel⟩
/-- slices.ContainsFunc[[]int64,int64] -/
def Cd.slices_ContainsFunc___int64_int64_ : ACode :=
  .seq (.region [⟨some 4, .mv (.const (.bool false)), none⟩] [0, 1] []) <|
  .seq (.region [⟨some 5, .mv (.tmp 0), none⟩,
     ⟨some 6, .mv (.tmp 1), none⟩,
     ⟨some 7, .call (.func F.slices_IndexFunc___int64_int64_) [(.tmp 5), (.tmp 6)] [], none⟩,
     ⟨some 8, .bin .geq (.tmp 7) (.const (.int .i64 (0))), none⟩,
     ⟨some 4, .mv (.tmp 8), none⟩] [4] []) <|
  .ret
theorem Cd.slices_ContainsFunc___int64_int64__rs : Try.f119.results.toList = [.tmp 4] := rfl
theorem Cd.slices_ContainsFunc___int64_int64__nt : Try.f119.ntmps = 9 := rfl
theorem Cd.slices_ContainsFunc___int64_int64__ok : CodeIsR Try.prog 119 Try.f119 Cd.slices_ContainsFunc___int64_int64_ := ⟨Try.func119, by kernel_rfl, by decide +kernel⟩
/-- loop.example/g01012/impl.ValidAmounts$1 -/
def Cd.impl_ValidAmounts_1 : ACode :=
  .seq (.region [⟨some 2, .mv (.const (.bool false)), none⟩] [0] []) <|
  .seq (.region [⟨some 3, .mv (.tmp 0), none⟩,
     ⟨some 4, .call (.func F.impl_inside) [(.tmp 3), (.const (.int .i64 (0))), (.const (.int .i64 (9999)))] [], none⟩,
     ⟨some 5, .un .not (.tmp 4), none⟩,
     ⟨some 2, .mv (.tmp 5), none⟩] [2] []) <|
  .ret
theorem Cd.impl_ValidAmounts_1_rs : Try.f120.results.toList = [.tmp 2] := rfl
theorem Cd.impl_ValidAmounts_1_nt : Try.f120.ntmps = 6 := rfl
theorem Cd.impl_ValidAmounts_1_ok : CodeIsR Try.prog 120 Try.f120 Cd.impl_ValidAmounts_1 := ⟨Try.func120, by kernel_rfl, by decide +kernel⟩
/-- loop.example/g01012/impl.isFault -/
def Cd.impl_isFault : ACode :=
  .seq (.region [⟨some 1, .box (.tmp 0), none⟩,
     ⟨some 2, .mv (.const (.bool false)), none⟩] [1] []) <|
  .seq (.seq (.region [⟨some 3, .fieldAddr 0 (.tmp 1), none⟩,
      ⟨some 4, .load false 1 (.tmp 3), none⟩,
      ⟨some 5, .bin .eql (.tmp 4) (.const (.int .i64 (3))), none⟩] [1, 5] []) <|
   .cond (.tmp 5)
     (.seq (.region [⟨some 6, .fieldAddr 2 (.tmp 1), none⟩,
        ⟨some 7, .load false 1 (.tmp 6), none⟩,
        ⟨some 8, .call (.func F.impl_inside) [(.tmp 7), (.const (.int .i64 (0))), (.const (.int .i64 (3)))] [], none⟩,
        ⟨some 9, .mv (.tmp 8), none⟩,
        ⟨some 10, .fieldAddr 3 (.tmp 1), some (9, true)⟩,
        ⟨some 11, .load false 1 (.tmp 10), some (9, true)⟩,
        ⟨some 12, .call (.func F.impl_inside) [(.tmp 11), (.const (.int .i64 (0))), (.const (.int .i64 (9)))] [], some (9, true)⟩,
        ⟨some 13, .pick (.tmp 9) (.tmp 12) (.const (.bool false)), none⟩,
        ⟨some 2, .mv (.tmp 13), none⟩] [2] []) <|
     .ret)
     (.skip)) <|
  .seq (.region [⟨some 14, .fieldAddr 0 (.tmp 1), none⟩,
     ⟨some 15, .load false 1 (.tmp 14), none⟩,
     ⟨some 16, .call (.func F.impl_inside) [(.tmp 15), (.const (.int .i64 (1))), (.const (.int .i64 (2)))] [], none⟩,
     ⟨some 17, .mv (.tmp 16), none⟩,
     ⟨some 18, .fieldAddr 2 (.tmp 1), some (17, true)⟩,
     ⟨some 19, .load false 1 (.tmp 18), some (17, true)⟩,
     ⟨some 20, .bin .eql (.tmp 19) (.const (.int .i64 (0))), some (17, true)⟩,
     ⟨some 21, .pick (.tmp 17) (.tmp 20) (.const (.bool false)), none⟩,
     ⟨some 22, .mv (.tmp 21), none⟩,
     ⟨some 23, .fieldAddr 3 (.tmp 1), some (22, true)⟩,
     ⟨some 24, .load false 1 (.tmp 23), some (22, true)⟩,
     ⟨some 25, .bin .eql (.tmp 24) (.const (.int .i64 (0))), some (22, true)⟩,
     ⟨some 26, .pick (.tmp 22) (.tmp 25) (.const (.bool false)), none⟩,
     ⟨some 2, .mv (.tmp 26), none⟩] [2] []) <|
  .ret
theorem Cd.impl_isFault_rs : Try.f121.results.toList = [.tmp 2] := rfl
theorem Cd.impl_isFault_nt : Try.f121.ntmps = 27 := rfl
theorem Cd.impl_isFault_ok : CodeIsR Try.prog 121 Try.f121 Cd.impl_isFault := ⟨Try.func121, by kernel_rfl, by decide +kernel⟩
/-- loop.example/g01012/impl.size[int64] -/
def Cd.impl_size_int64_ : ACode :=
  .seq (.region [⟨some 2, .mv (.const (.int .i64 (0))), none⟩] [0] []) <|
  .seq (.region [⟨some 3, .mv (.tmp 0), none⟩,
     ⟨some 4, .len (.tmp 3), none⟩,
     ⟨some 2, .mv (.tmp 4), none⟩] [2] []) <|
  .ret
theorem Cd.impl_size_int64__rs : Try.f122.results.toList = [.tmp 2] := rfl
theorem Cd.impl_size_int64__nt : Try.f122.ntmps = 5 := rfl
theorem Cd.impl_size_int64__ok : CodeIsR Try.prog 122 Try.f122 Cd.impl_size_int64_ := ⟨Try.func122, by kernel_rfl, by decide +kernel⟩
/-- loop.example/g01012/impl.digitAt -/
def Cd.impl_digitAt : ACode :=
  .seq (.region [⟨some 4, .mv (.const (.int .i64 (0))), none⟩] [0, 1] []) <|
  .seq (.region [⟨some 5, .mv (.tmp 0), none⟩,
     ⟨some 6, .call (.func F.impl_wheelsShow) [(.const (.int .i64 (4))), (.tmp 5)] [], none⟩,
     ⟨some 7, .field false 0 1 (.tmp 6), none⟩,
     ⟨some 8, .mv (.tmp 1), none⟩,
     ⟨some 9, .idxSl 1 (.tmp 7) (.tmp 8), none⟩,
     ⟨some 10, .load false 1 (.tmp 9), none⟩,
     ⟨some 4, .mv (.tmp 10), none⟩] [4] []) <|
  .ret
theorem Cd.impl_digitAt_rs : Try.f123.results.toList = [.tmp 4] := rfl
theorem Cd.impl_digitAt_nt : Try.f123.ntmps = 11 := rfl
theorem Cd.impl_digitAt_ok : CodeIsR Try.prog 123 Try.f123 Cd.impl_digitAt := ⟨Try.func123, by kernel_rfl, by decide +kernel⟩
/-- loop.example/g01012/laws.szInt64S -/
def Cd.laws_szInt64S : ACode :=
  .seq (.region [⟨some 4, .mv (.const (.int .i64 (0))), none⟩] [0, 1] []) <|
  .seq (.region [⟨some 5, .mv (.tmp 1), none⟩,
     ⟨some 6, .mv (.tmp 0), none⟩,
     ⟨some 7, .len (.tmp 6), none⟩,
     ⟨some 8, .bin .sub (.tmp 5) (.tmp 7), none⟩,
     ⟨some 1, .mv (.tmp 8), none⟩] [1] []) <|
  .seq (.seq (.region [⟨some 9, .mv (.tmp 1), none⟩,
      ⟨some 10, .bin .lss (.tmp 9) (.const (.int .i64 (0))), none⟩] [1, 10] []) <|
   .cond (.tmp 10)
     (.seq (.region [⟨some 4, .mv (.const (.int .i64 (-1))), none⟩] [4] []) <|
     .ret)
     (.skip)) <|
  .seq (.region [⟨some 11, .mv (.tmp 1), none⟩,
     ⟨some 4, .mv (.tmp 11), none⟩] [4] []) <|
  .ret
theorem Cd.laws_szInt64S_rs : Try.f124.results.toList = [.tmp 4] := rfl
theorem Cd.laws_szInt64S_nt : Try.f124.ntmps = 12 := rfl
theorem Cd.laws_szInt64S_ok : CodeIsR Try.prog 124 Try.f124 Cd.laws_szInt64S := ⟨Try.func124, by kernel_rfl, by decide +kernel⟩
/-- loop.example/g01012/spec.l17Sample -/
def Cd.spec_l17Sample : ACode :=
  .seq (.region [⟨some 2, .mv (.const (.bool false)), none⟩] [0] []) <|
  .seq (.region [⟨some 3, .mv (.tmp 0), none⟩,
     ⟨some 4, .call (.func F.spec_l02Deck) [(.tmp 3)] [], none⟩,
     ⟨some 5, .mv (.tmp 4), none⟩,
     ⟨some 6, .mv (.tmp 0), some (5, true)⟩,
     ⟨some 7, .len (.tmp 6), some (5, true)⟩,
     ⟨some 8, .call (.func F.spec_l00In) [(.tmp 7), (.const (.int .i64 (1))), (.const (.int .i64 (5)))] [], some (5, true)⟩,
     ⟨some 9, .pick (.tmp 5) (.tmp 8) (.const (.bool false)), none⟩,
     ⟨some 2, .mv (.tmp 9), none⟩] [2] []) <|
  .ret
theorem Cd.spec_l17Sample_rs : Try.f125.results.toList = [.tmp 2] := rfl
theorem Cd.spec_l17Sample_nt : Try.f125.ntmps = 10 := rfl
theorem Cd.spec_l17Sample_ok : CodeIsR Try.prog 125 Try.f125 Cd.spec_l17Sample := ⟨Try.func125, by kernel_rfl, by decide +kernel⟩
/-- loop.example/g01012/impl.wheelsShow -/
def Cd.impl_wheelsShow : ACode :=
  .seq (.region [⟨some 4, .alloc [.v (.slice none 0 0)], none⟩] [0, 1, 4] []) <|
  .seq (.region [⟨some 6, .bslice 1 0 [.v (.int .i64 (0))] [], none⟩,
     ⟨some 7, .build [.v (.slice none 0 0)] [(0, 1, (.tmp 6))], none⟩,
     ⟨some 5, .alloc [.v (.slice none 0 0)], none⟩,
     ⟨none, .store 1 (.tmp 5) (.tmp 7), none⟩] [0, 1, 4, 5] []) <|
  .seq (.seq (.region [⟨some 8, .mv (.tmp 0), none⟩,
      ⟨some 9, .mv (.const (.int .i64 (0))), none⟩] [1, 4, 5, 8, 9] []) <|
   .block 0 (
     .loop (
       .seq (.region [⟨some 10, .bin .lss (.tmp 9) (.tmp 8), none⟩] [1, 4, 5, 8, 9, 10] []) <|
       .seq (.cond (.tmp 10)
          (.skip)
          (.exit 0)) <|
       .seq (.block 1 (
          .seq (.region [⟨some 11, .fieldAddr 0 (.tmp 5), none⟩,
             ⟨some 12, .load false 1 (.tmp 11), none⟩,
             ⟨some 13, .mv (.tmp 1), none⟩,
             ⟨some 14, .bin .rem (.tmp 13) (.const (.int .i64 (10))), none⟩,
             ⟨some 15, .bslice 1 1 [.v (.int .i64 (0))] [(0, (.tmp 14))], none⟩,
             ⟨some 16, .append 1 8 (.tmp 12) (.tmp 15), none⟩,
             ⟨some 17, .fieldAddr 0 (.tmp 5), none⟩,
             ⟨none, .store 1 (.tmp 17) (.tmp 16), none⟩] [1, 4, 5, 8, 9] []) <|
          .region [⟨some 18, .mv (.tmp 1), none⟩,
            ⟨some 19, .bin .quo (.tmp 18) (.const (.int .i64 (10))), none⟩,
            ⟨some 1, .mv (.tmp 19), none⟩] [1, 4, 5, 8, 9] [])) <|
       .region [⟨some 20, .bin .add (.tmp 9) (.const (.int .i64 (1))), none⟩,
         ⟨some 9, .mv (.tmp 20), none⟩] [1, 4, 5, 8, 9] []))) <|
  .seq (.region [⟨some 21, .load true 1 (.tmp 5), none⟩,
     ⟨none, .store 1 (.tmp 4) (.tmp 21), none⟩] [4] []) <|
  .ret
theorem Cd.impl_wheelsShow_rs : Try.f135.results.toList = [.cell 4 157] := rfl
theorem Cd.impl_wheelsShow_nt : Try.f135.ntmps = 22 := rfl
theorem Cd.impl_wheelsShow_ok : CodeIsR Try.prog 135 Try.f135 Cd.impl_wheelsShow := ⟨Try.func135, by kernel_rfl, by decide +kernel⟩
/-- loop.example/g01012/spec.l19Form -/
def Cd.spec_l19Form : ACode :=
  .seq (.region [⟨some 1, .box (.tmp 0), none⟩,
     ⟨some 2, .mv (.const (.bool false)), none⟩] [1] []) <|
  .seq (.seq (.region [⟨some 3, .fieldAddr 0 (.tmp 1), none⟩,
      ⟨some 4, .load false 1 (.tmp 3), none⟩,
      ⟨some 5, .call (.func F.spec_l00In) [(.tmp 4), (.const (.int .i64 (1))), (.const (.int .i64 (3)))] [], none⟩,
      ⟨some 6, .un .not (.tmp 5), none⟩,
      ⟨some 7, .mv (.tmp 6), none⟩,
      ⟨some 8, .fieldAddr 1 (.tmp 1), some (7, false)⟩,
      ⟨some 9, .load false 1 (.tmp 8), some (7, false)⟩,
      ⟨some 10, .call (.func F.spec_l00In) [(.tmp 9), (.const (.int .i64 (0))), (.const (.int .i64 (11)))] [], some (7, false)⟩,
      ⟨some 11, .un .not (.tmp 10), some (7, false)⟩,
      ⟨some 12, .pick (.tmp 7) (.const (.bool true)) (.tmp 11), none⟩] [1, 12] []) <|
   .cond (.tmp 12)
     (.seq (.region [⟨some 2, .mv (.const (.bool false)), none⟩] [2] []) <|
     .ret)
     (.skip)) <|
  .seq (.seq (.region [⟨some 13, .fieldAddr 0 (.tmp 1), none⟩,
      ⟨some 14, .load false 1 (.tmp 13), none⟩,
      ⟨some 15, .bin .eql (.tmp 14) (.const (.int .i64 (3))), none⟩] [1, 15] []) <|
   .cond (.tmp 15)
     (.seq (.region [⟨some 16, .fieldAddr 2 (.tmp 1), none⟩,
        ⟨some 17, .load false 1 (.tmp 16), none⟩,
        ⟨some 18, .call (.func F.spec_l00In) [(.tmp 17), (.const (.int .i64 (0))), (.const (.int .i64 (3)))] [], none⟩,
        ⟨some 19, .mv (.tmp 18), none⟩,
        ⟨some 20, .fieldAddr 3 (.tmp 1), some (19, true)⟩,
        ⟨some 21, .load false 1 (.tmp 20), some (19, true)⟩,
        ⟨some 22, .call (.func F.spec_l00In) [(.tmp 21), (.const (.int .i64 (0))), (.const (.int .i64 (9)))] [], some (19, true)⟩,
        ⟨some 23, .pick (.tmp 19) (.tmp 22) (.const (.bool false)), none⟩,
        ⟨some 2, .mv (.tmp 23), none⟩] [2] []) <|
     .ret)
     (.skip)) <|
  .seq (.region [⟨some 24, .fieldAddr 2 (.tmp 1), none⟩,
     ⟨some 25, .load false 1 (.tmp 24), none⟩,
     ⟨some 26, .bin .eql (.tmp 25) (.const (.int .i64 (0))), none⟩,
     ⟨some 27, .mv (.tmp 26), none⟩,
     ⟨some 28, .fieldAddr 3 (.tmp 1), some (27, true)⟩,
     ⟨some 29, .load false 1 (.tmp 28), some (27, true)⟩,
     ⟨some 30, .bin .eql (.tmp 29) (.const (.int .i64 (0))), some (27, true)⟩,
     ⟨some 31, .pick (.tmp 27) (.tmp 30) (.const (.bool false)), none⟩,
     ⟨some 2, .mv (.tmp 31), none⟩] [2] []) <|
  .ret
theorem Cd.spec_l19Form_rs : Try.f139.results.toList = [.tmp 2] := rfl
theorem Cd.spec_l19Form_nt : Try.f139.ntmps = 32 := rfl
theorem Cd.spec_l19Form_ok : CodeIsR Try.prog 139 Try.f139 Cd.spec_l19Form := ⟨Try.func139, by kernel_rfl, by decide +kernel⟩
/-- loop.example/g01012/spec.l19Power -/
def Cd.spec_l19Power : ACode :=
  .seq (.region [⟨some 2, .mv (.const (.int .i64 (0))), none⟩] [0] []) <|
  .seq (.region [⟨some 3, .mv (.const (.int .i64 (1))), none⟩] [0, 3] []) <|
  .seq (.block 0 (
     .loop (
       .seq (.seq (.region [⟨some 4, .mv (.tmp 0), none⟩,
           ⟨some 5, .bin .gtr (.tmp 4) (.const (.int .i64 (0))), none⟩] [0, 3, 5] []) <|
        .cond (.tmp 5)
          (.skip)
          (.exit 0)) <|
       .seq (.block 1 (
          .region [⟨some 8, .mv (.tmp 3), none⟩,
            ⟨some 9, .bin .mul (.tmp 8) (.const (.int .i64 (10))), none⟩,
            ⟨some 3, .mv (.tmp 9), none⟩] [0, 3] [])) <|
       .region [⟨some 6, .mv (.tmp 0), none⟩,
         ⟨some 7, .bin .sub (.tmp 6) (.const (.int .i64 (1))), none⟩,
         ⟨some 0, .mv (.tmp 7), none⟩] [0, 3] []))) <|
  .seq (.region [⟨some 10, .mv (.tmp 3), none⟩,
     ⟨some 2, .mv (.tmp 10), none⟩] [2] []) <|
  .ret
theorem Cd.spec_l19Power_rs : Try.f140.results.toList = [.tmp 2] := rfl
theorem Cd.spec_l19Power_nt : Try.f140.ntmps = 11 := rfl
theorem Cd.spec_l19Power_ok : CodeIsR Try.prog 140 Try.f140 Cd.spec_l19Power := ⟨Try.func140, by kernel_rfl, by decide +kernel⟩
/-- slices.IndexFunc[[]int64,int64] -/
def Cd.slices_IndexFunc___int64_int64_ : ACode :=
  .seq (.region [⟨some 4, .mv (.const (.int .i64 (0))), none⟩] [0, 1] []) <|
  .seq (.seq (.region [⟨some 6, .mv (.tmp 0), none⟩,
      ⟨some 7, .len (.tmp 6), none⟩,
      ⟨some 8, .mv (.const (.int .i64 (0))), none⟩] [0, 1, 7, 8] []) <|
   .block 0 (
     .loop (
       .seq (.region [⟨some 9, .bin .lss (.tmp 8) (.tmp 7), none⟩] [0, 1, 7, 8, 9] []) <|
       .seq (.cond (.tmp 9)
          (.skip)
          (.exit 0)) <|
       .seq (.block 1 (
          .seq (.region [⟨some 10, .mv (.tmp 8), none⟩,
             ⟨some 5, .mv (.tmp 10), none⟩] [0, 1, 5, 7, 8] []) <|
          .seq (.region [⟨some 11, .mv (.tmp 1), none⟩,
             ⟨some 12, .mv (.tmp 0), none⟩,
             ⟨some 13, .mv (.tmp 5), none⟩,
             ⟨some 14, .idxSl 1 (.tmp 12) (.tmp 13), none⟩,
             ⟨some 15, .load false 1 (.tmp 14), none⟩,
             ⟨some 16, .call (.tmp 11) [(.tmp 15)] [], none⟩] [0, 1, 5, 7, 8, 16] []) <|
          .cond (.tmp 16)
            (.seq (.region [⟨some 17, .mv (.tmp 5), none⟩,
               ⟨some 4, .mv (.tmp 17), none⟩] [4] []) <|
            .ret)
            (.skip))) <|
       .region [⟨some 18, .bin .add (.tmp 8) (.const (.int .i64 (1))), none⟩,
         ⟨some 8, .mv (.tmp 18), none⟩] [0, 1, 7, 8] []))) <|
  .seq (.region [⟨some 4, .mv (.const (.int .i64 (-1))), none⟩] [4] []) <|
  .ret
theorem Cd.slices_IndexFunc___int64_int64__rs : Try.f141.results.toList = [.tmp 4] := rfl
theorem Cd.slices_IndexFunc___int64_int64__nt : Try.f141.ntmps = 19 := rfl
theorem Cd.slices_IndexFunc___int64_int64__ok : CodeIsR Try.prog 141 Try.f141 Cd.slices_IndexFunc___int64_int64_ := ⟨Try.func141, by kernel_rfl, by decide +kernel⟩
/-- loop.example/g01012/spec.l02Deck DRAWS -/
def Cd.spec_l02Deck : ACode :=
  .seq (.region [⟨some 2, .mv (.const (.bool false)), none⟩] [0] []) <|
  .seq (.seq (.region [⟨some 3, .mv (.const (.int .i64 (0))), none⟩] [0, 3] []) <|
   .block 0 (
     .loop (
       .seq (.seq (.region [⟨some 4, .mv (.tmp 3), none⟩,
           ⟨some 5, .mv (.tmp 0), none⟩,
           ⟨some 6, .len (.tmp 5), none⟩,
           ⟨some 7, .bin .lss (.tmp 4) (.tmp 6), none⟩] [0, 3, 7] []) <|
        .cond (.tmp 7)
          (.skip)
          (.exit 0)) <|
       .seq (.block 1 (
          .seq (.region [⟨some 10, .mv (.tmp 0), none⟩,
             ⟨some 11, .mv (.tmp 3), none⟩,
             ⟨some 12, .idxSl 1 (.tmp 10) (.tmp 11), none⟩,
             ⟨some 13, .call (.func F.spec_l02Ok) [(.tmp 12)] [], none⟩,
             ⟨some 14, .un .not (.tmp 13), none⟩,
             ⟨some 15, .mv (.tmp 14), none⟩,
             ⟨some 16, .mv (.tmp 0), some (15, false)⟩,
             ⟨some 17, .mv (.tmp 3), some (15, false)⟩,
             ⟨some 18, .idxSl 1 (.tmp 16) (.tmp 17), some (15, false)⟩,
             ⟨some 19, .fieldAddr 0 (.tmp 18), some (15, false)⟩,
             ⟨some 20, .load false 1 (.tmp 19), some (15, false)⟩,
             ⟨some 21, .len (.tmp 20), some (15, false)⟩,
             ⟨some 22, .mv (.tmp 0), some (15, false)⟩,
             ⟨some 23, .idxSl 1 (.tmp 22) (.const (.int .i64 (0))), some (15, false)⟩,
             ⟨some 24, .fieldAddr 0 (.tmp 23), some (15, false)⟩,
             ⟨some 25, .load false 1 (.tmp 24), some (15, false)⟩,
             ⟨some 26, .len (.tmp 25), some (15, false)⟩,
             ⟨some 27, .bin .neq (.tmp 21) (.tmp 26), some (15, false)⟩,
             ⟨some 28, .pick (.tmp 15) (.const (.bool true)) (.tmp 27), none⟩] [0, 3, 28] [10, 11, 13, 14, 12, 15, 16, 17, 18, 19, 20, 21, 22, 23, 24, 25, 26, 27, 28]) <|
          .cond (.tmp 28)
            (.seq (.region [⟨some 2, .mv (.const (.bool false)), none⟩] [2] []) <|
            .ret)
            (.skip))) <|
       .region [⟨some 8, .mv (.tmp 3), none⟩,
         ⟨some 9, .bin .add (.tmp 8) (.const (.int .i64 (1))), none⟩,
         ⟨some 3, .mv (.tmp 9), none⟩] [0, 3] []))) <|
  .seq (.region [⟨some 29, .mv (.tmp 0), none⟩,
     ⟨some 30, .len (.tmp 29), none⟩,
     ⟨some 31, .bin .leq (.tmp 30) (.const (.int .i64 (40))), none⟩,
     ⟨some 2, .mv (.tmp 31), none⟩] [2] []) <|
  .ret
theorem Cd.spec_l02Deck_rs : Try.f142.results.toList = [.tmp 2] := rfl
theorem Cd.spec_l02Deck_nt : Try.f142.ntmps = 32 := rfl
theorem Cd.spec_l02Deck_ok : CodeIsR Try.prog 142 Try.f142 Cd.spec_l02Deck := ⟨Try.func142, by kernel_rfl, by decide +kernel⟩
/-- loop.example/g01012/impl.ValidCard -/
def Cd.impl_ValidCard : ACode :=
  .seq (.region [⟨some 1, .box (.tmp 0), none⟩,
     ⟨some 2, .mv (.const (.bool false)), none⟩] [1] []) <|
  .seq (.region [⟨some 3, .load true 1 (.tmp 1), none⟩,
     ⟨some 4, .call (.func F._impl_Card__columns) [(.tmp 3)] [], none⟩,
     ⟨some 5, .call (.func F.impl_inside) [(.tmp 4), (.const (.int .i64 (1))), (.const (.int .i64 (20)))] [], none⟩,
     ⟨some 6, .mv (.tmp 5), none⟩,
     ⟨some 7, .fieldAddr 0 (.tmp 1), some (6, true)⟩,
     ⟨some 8, .load false 1 (.tmp 7), some (6, true)⟩,
     ⟨some 9, .call (.func F.slices_ContainsFunc___int64_int64_) [(.tmp 8), (.func F.impl_ValidCard_1)] [], some (6, true)⟩,
     ⟨some 10, .un .not (.tmp 9), some (6, true)⟩,
     ⟨some 11, .pick (.tmp 6) (.tmp 10) (.const (.bool false)), none⟩,
     ⟨some 2, .mv (.tmp 11), none⟩] [2] []) <|
  .ret
theorem Cd.impl_ValidCard_rs : Try.f143.results.toList = [.tmp 2] := rfl
theorem Cd.impl_ValidCard_nt : Try.f143.ntmps = 12 := rfl
theorem Cd.impl_ValidCard_ok : CodeIsR Try.prog 143 Try.f143 Cd.impl_ValidCard := ⟨Try.func143, by kernel_rfl, by decide +kernel⟩
/-- (loop.example/g01012/impl.Card).columns -/
def Cd._impl_Card__columns : ACode :=
  .seq (.region [⟨some 1, .box (.tmp 0), none⟩,
     ⟨some 2, .mv (.const (.int .i64 (0))), none⟩] [1] []) <|
  .seq (.region [⟨some 3, .fieldAddr 0 (.tmp 1), none⟩,
     ⟨some 4, .load false 1 (.tmp 3), none⟩,
     ⟨some 5, .call (.func F.impl_size_int64_) [(.tmp 4)] [], none⟩,
     ⟨some 2, .mv (.tmp 5), none⟩] [2] []) <|
  .ret
theorem Cd._impl_Card__columns_rs : Try.f144.results.toList = [.tmp 2] := rfl
theorem Cd._impl_Card__columns_nt : Try.f144.ntmps = 6 := rfl
theorem Cd._impl_Card__columns_ok : CodeIsR Try.prog 144 Try.f144 Cd._impl_Card__columns := ⟨Try.func144, by kernel_rfl, by decide +kernel⟩
/-- loop.example/g01012/spec.l02Ok -/
def Cd.spec_l02Ok : ACode :=
  .seq (.region [⟨some 2, .mv (.const (.bool false)), none⟩] [0] []) <|
  .seq (.seq (.region [⟨some 3, .mv (.const (.int .i64 (0))), none⟩] [0, 3] []) <|
   .block 0 (
     .loop (
       .seq (.seq (.region [⟨some 4, .mv (.tmp 3), none⟩,
           ⟨some 5, .mv (.tmp 0), none⟩,
           ⟨some 6, .nilc (.tmp 5), none⟩,
           ⟨some 7, .fieldAddr 0 (.tmp 6), none⟩,
           ⟨some 8, .load false 1 (.tmp 7), none⟩,
           ⟨some 9, .len (.tmp 8), none⟩,
           ⟨some 10, .bin .lss (.tmp 4) (.tmp 9), none⟩] [0, 3, 10] []) <|
        .cond (.tmp 10)
          (.skip)
          (.exit 0)) <|
       .seq (.block 1 (
          .seq (.region [⟨some 13, .mv (.tmp 0), none⟩,
             ⟨some 14, .nilc (.tmp 13), none⟩,
             ⟨some 15, .fieldAddr 0 (.tmp 14), none⟩,
             ⟨some 16, .load false 1 (.tmp 15), none⟩,
             ⟨some 17, .mv (.tmp 3), none⟩,
             ⟨some 18, .idxSl 1 (.tmp 16) (.tmp 17), none⟩,
             ⟨some 19, .load false 1 (.tmp 18), none⟩,
             ⟨some 20, .call (.func F.spec_l00In) [(.tmp 19), (.const (.int .i64 (0))), (.const (.int .i64 (4095)))] [], none⟩,
             ⟨some 21, .un .not (.tmp 20), none⟩] [0, 3, 21] []) <|
          .cond (.tmp 21)
            (.seq (.region [⟨some 2, .mv (.const (.bool false)), none⟩] [2] []) <|
            .ret)
            (.skip))) <|
       .region [⟨some 11, .mv (.tmp 3), none⟩,
         ⟨some 12, .bin .add (.tmp 11) (.const (.int .i64 (1))), none⟩,
         ⟨some 3, .mv (.tmp 12), none⟩] [0, 3] []))) <|
  .seq (.region [⟨some 22, .mv (.tmp 0), none⟩,
     ⟨some 23, .nilc (.tmp 22), none⟩,
     ⟨some 24, .fieldAddr 0 (.tmp 23), none⟩,
     ⟨some 25, .load false 1 (.tmp 24), none⟩,
     ⟨some 26, .len (.tmp 25), none⟩,
     ⟨some 27, .call (.func F.spec_l00In) [(.tmp 26), (.const (.int .i64 (1))), (.const (.int .i64 (20)))] [], none⟩,
     ⟨some 2, .mv (.tmp 27), none⟩] [2] []) <|
  .ret
theorem Cd.spec_l02Ok_rs : Try.f150.results.toList = [.tmp 2] := rfl
theorem Cd.spec_l02Ok_nt : Try.f150.ntmps = 28 := rfl
theorem Cd.spec_l02Ok_ok : CodeIsR Try.prog 150 Try.f150 Cd.spec_l02Ok := ⟨Try.func150, by kernel_rfl, by decide +kernel⟩
/-- loop.example/g01012/impl.ValidCard$1 -/
def Cd.impl_ValidCard_1 : ACode :=
  .seq (.region [⟨some 2, .mv (.const (.bool false)), none⟩] [0] []) <|
  .seq (.region [⟨some 3, .mv (.tmp 0), none⟩,
     ⟨some 4, .call (.func F.impl_inside) [(.tmp 3), (.const (.int .i64 (0))), (.const (.int .i64 (4095)))] [], none⟩,
     ⟨some 5, .un .not (.tmp 4), none⟩,
     ⟨some 2, .mv (.tmp 5), none⟩] [2] []) <|
  .ret
theorem Cd.impl_ValidCard_1_rs : Try.f151.results.toList = [.tmp 2] := rfl
theorem Cd.impl_ValidCard_1_nt : Try.f151.ntmps = 6 := rfl
theorem Cd.impl_ValidCard_1_ok : CodeIsR Try.prog 151 Try.f151 Cd.impl_ValidCard_1 := ⟨Try.func151, by kernel_rfl, by decide +kernel⟩
end Go.Proofs.Ytaegnbfboeeijaa
