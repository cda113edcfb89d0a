/- The code of each function, resolved. -/
import Derived.Test.YthpokkcbbpapdaaVtC
import Derived.Test.YthpokkcbbpapdaaRows
namespace Go.Proofs.Ythpokkcbbpapdaa
open Go.Vs
set_option maxRecDepth 100000
theorem Try.own : ownKnob Try.prog.godebug = none := by kernel_rfl
theorem Try.laidOut : laidOutB Try.prog = true := by kernel_rfl
theorem Try.mixed : Try.prog.follows .mixedOrders = true := Try.checked.mixed
namespace F
abbrev main_main : FuncId := 0
abbrev gosem_cut : FuncId := 1
abbrev gosem_cut_init : FuncId := 2
abbrev laws_FnExactAmountsAfter : FuncId := 3
abbrev laws_FnExactFlowFor : FuncId := 4
abbrev laws_FnExactFlowUses : FuncId := 5
abbrev laws_szFaultS : FuncId := 6
abbrev spec_AmountsAfter : FuncId := 7
abbrev laws_toInt64S : FuncId := 8
abbrev laws_toFaultS : FuncId := 9
abbrev impl_AmountsAfter : FuncId := 10
abbrev laws_eqInt64S : FuncId := 11
abbrev laws_eqFaultS : FuncId := 12
abbrev laws_markInt64S : FuncId := 13
abbrev laws_markFaultS : FuncId := 14
abbrev laws_heldInt64S : FuncId := 15
abbrev laws_szSpec : FuncId := 16
abbrev spec_FlowFor : FuncId := 17
abbrev laws_toSpec : FuncId := 18
abbrev impl_FlowFor : FuncId := 19
abbrev laws_eqStepS : FuncId := 20
abbrev laws_markStepS : FuncId := 21
abbrev laws_heldStepS : FuncId := 22
abbrev laws_szStepS : FuncId := 23
abbrev spec_FlowUses : FuncId := 24
abbrev laws_toStepS : FuncId := 25
abbrev impl_FlowUses : FuncId := 26
abbrev spec_l19Code : FuncId := 27
abbrev spec_l19After : FuncId := 28
abbrev laws_toFault : FuncId := 29
abbrev impl_faultCode : FuncId := 30
abbrev impl_amountsAfter : FuncId := 31
abbrev laws_eqFault : FuncId := 32
abbrev spec_l16Ok : FuncId := 33
abbrev spec_l16Flow : FuncId := 34
abbrev laws_toField : FuncId := 35
abbrev impl_ValidSpec : FuncId := 36
abbrev laws_eqStep : FuncId := 37
abbrev laws_markText : FuncId := 38
abbrev laws_szStep : FuncId := 39
abbrev spec_l15Flow : FuncId := 40
abbrev spec_l00Has : FuncId := 41
abbrev spec_l00Put : FuncId := 42
abbrev spec_l15Both : FuncId := 43
abbrev laws_toStep : FuncId := 44
abbrev impl_ValidFlow : FuncId := 45
abbrev impl_takesTwo : FuncId := 46
abbrev impl_columnsWhere : FuncId := 47
abbrev impl_FlowUses_1 : FuncId := 48
abbrev spec_l19Ok : FuncId := 49
abbrev spec_l19Faults : FuncId := 50
abbrev spec_l19Read : FuncId := 51
abbrev impl_ValidAmounts : FuncId := 52
abbrev impl_areFaults : FuncId := 53
abbrev slices_IndexFunc___impl_Fault_impl_Fault_ : FuncId := 54
abbrev impl_amountsAfter_1 : FuncId := 55
abbrev impl_wheelsShow : FuncId := 56
abbrev impl_shown : FuncId := 57
abbrev spec_l02Field : FuncId := 58
abbrev spec_l09Text : FuncId := 59
abbrev impl_inside : FuncId := 60
abbrev impl_isField : FuncId := 61
abbrev impl_isNumberField : FuncId := 62
abbrev impl_areCharacters : FuncId := 63
abbrev laws_eqField : FuncId := 64
abbrev spec_l15Step : FuncId := 65
abbrev spec_l00In : FuncId := 66
abbrev slices_ContainsFunc___impl_Step_impl_Step_ : FuncId := 67
abbrev impl_ValidFlow_1 : FuncId := 68
abbrev impl_ValidStep : FuncId := 69
abbrev spec_l19Fault : FuncId := 70
abbrev spec_l19Power : FuncId := 71
abbrev slices_ContainsFunc___int64_int64_ : FuncId := 72
abbrev impl_ValidAmounts_1 : FuncId := 73
abbrev impl_isFault : FuncId := 74
abbrev impl_size_int64_ : FuncId := 75
abbrev impl_digitAt : FuncId := 76
abbrev spec_l03Code : FuncId := 77
abbrev impl_isCharacter : FuncId := 78
abbrev spec_l15Tray : FuncId := 79
abbrev slices_IndexFunc___impl_Step_impl_Step_ : FuncId := 80
abbrev impl_isTray : FuncId := 81
abbrev spec_l19Form : FuncId := 82
abbrev slices_IndexFunc___int64_int64_ : FuncId := 83
abbrev spec_l02Bit : FuncId := 84
abbrev spec_l01Digit : FuncId := 85
abbrev strings_IndexByte : FuncId := 86
abbrev internal_stringslite_IndexByte : FuncId := 87
abbrev internal_bytealg_IndexByteString : FuncId := 88
abbrev _runtime_boundsError__Error : FuncId := 89
abbrev _runtime_boundsError__RuntimeError : FuncId := 90
abbrev _runtime_errorString__Error : FuncId := 91
abbrev _runtime_errorString__RuntimeError : FuncId := 92
abbrev _runtime_plainError__Error : FuncId := 93
abbrev _runtime_plainError__RuntimeError : FuncId := 94
abbrev _runtime_errorAddressString__Error : FuncId := 95
abbrev _runtime_errorAddressString__RuntimeError : FuncId := 96
abbrev __runtime_TypeAssertionError__Error : FuncId := 97
abbrev __runtime_TypeAssertionError__RuntimeError : FuncId := 98
abbrev __runtime_PanicNilError__Error : FuncId := 99
abbrev __runtime_PanicNilError__RuntimeError : FuncId := 100
abbrev __internal_abi_Type__Align : FuncId := 101
abbrev _internal_runtime_maps_unhashableTypeError__Error : FuncId := 102
abbrev _internal_runtime_maps_unhashableTypeError__RuntimeError : FuncId := 103
abbrev _internal_abi_Kind__String : FuncId := 104
end F
theorem Ld.t45 : ldOf Try.prog 45 = some (true, 7) := by kernel_rfl
theorem Ld.t58 : ldOf Try.prog 58 = some (true, 4) := by kernel_rfl
theorem Ld.t43 : ldOf Try.prog 43 = some (true, 2) := by kernel_rfl
theorem Ld.t68 : ldOf Try.prog 68 = some (true, 9) := by kernel_rfl
theorem Ld.t89 : ldOf Try.prog 89 = some (true, 1) := by kernel_rfl
attribute [go_sem] Ld.t45 Ld.t58 Ld.t43 Ld.t68 Ld.t89
/-- loop.example/g01012/laws.FnExactAmountsAfter -/
def Cd.laws_FnExactAmountsAfter : ACode :=
  .seq (.region [⟨some 4, .mv (.const (.bool false)), none⟩] [0, 1] []) <|
  .seq (.seq (.region [⟨some 17, .mv (.tmp 0), none⟩,
      ⟨some 18, .len (.tmp 17), none⟩,
      ⟨some 19, .bin .gtr (.tmp 18) (.const (.int .i64 (1048576))), none⟩] [0, 1, 19] []) <|
   .cond (.tmp 19)
     (.seq (.region [⟨some 4, .mv (.const (.bool true)), none⟩] [4] []) <|
     .ret)
     (.skip)) <|
  .seq (.region [⟨some 5, .mv (.const (.int .i64 (1048576))), none⟩] [0, 1, 5] []) <|
  .seq (.region [⟨some 20, .mv (.tmp 1), none⟩,
     ⟨some 21, .mv (.tmp 5), none⟩,
     ⟨some 22, .call (.func F.laws_szFaultS) [(.tmp 20), (.tmp 21)] [], none⟩,
     ⟨some 5, .mv (.tmp 22), none⟩] [0, 1, 5] []) <|
  .seq (.seq (.region [⟨some 23, .mv (.tmp 5), none⟩,
      ⟨some 24, .bin .lss (.tmp 23) (.const (.int .i64 (0))), none⟩] [0, 1, 24] []) <|
   .cond (.tmp 24)
     (.seq (.region [⟨some 4, .mv (.const (.bool true)), none⟩] [4] []) <|
     .ret)
     (.skip)) <|
  .seq (.region [⟨some 26, .mv (.tmp 0), none⟩,
     ⟨some 27, .call (.func F.laws_toInt64S) [(.tmp 26)] [], none⟩,
     ⟨some 28, .mv (.tmp 1), none⟩,
     ⟨some 29, .call (.func F.laws_toFaultS) [(.tmp 28)] [], none⟩,
     ⟨some 30, .call (.func F.spec_AmountsAfter) [(.tmp 27), (.tmp 29)] [], none⟩,
     ⟨some 25, .mv (.tmp 30), none⟩,
     ⟨some 31, .extract (.tmp 25) 0, none⟩,
     ⟨some 32, .extract (.tmp 25) 1, none⟩,
     ⟨some 6, .mv (.tmp 31), none⟩,
     ⟨some 7, .mv (.tmp 32), none⟩] [0, 1, 6, 7] []) <|
  .seq (.region [⟨some 33, .mv (.tmp 0), none⟩,
     ⟨some 34, .call (.func F.laws_toInt64S) [(.tmp 33)] [], none⟩,
     ⟨some 8, .mv (.tmp 34), none⟩] [0, 1, 6, 7, 8] []) <|
  .seq (.region [⟨some 35, .mv (.tmp 1), none⟩,
     ⟨some 36, .call (.func F.laws_toFaultS) [(.tmp 35)] [], none⟩,
     ⟨some 9, .mv (.tmp 36), none⟩] [0, 1, 6, 7, 8, 9] []) <|
  .seq (.region [⟨some 38, .mv (.tmp 8), none⟩,
     ⟨some 39, .mv (.tmp 9), none⟩,
     ⟨some 40, .call (.func F.impl_AmountsAfter) [(.tmp 38), (.tmp 39)] [], none⟩,
     ⟨some 37, .mv (.tmp 40), none⟩,
     ⟨some 41, .extract (.tmp 37) 0, none⟩,
     ⟨some 42, .extract (.tmp 37) 1, none⟩,
     ⟨some 10, .mv (.tmp 41), none⟩,
     ⟨some 11, .mv (.tmp 42), none⟩] [0, 1, 6, 7, 8, 9, 10, 11] []) <|
  .seq (.seq (.region [⟨some 43, .mv (.tmp 10), none⟩,
      ⟨some 44, .mv (.tmp 6), none⟩,
      ⟨some 45, .call (.func F.laws_eqInt64S) [(.tmp 43), (.tmp 44)] [], none⟩,
      ⟨some 46, .un .not (.tmp 45), none⟩,
      ⟨some 47, .mv (.tmp 46), none⟩,
      ⟨some 48, .mv (.tmp 11), some (47, false)⟩,
      ⟨some 49, .mv (.tmp 7), some (47, false)⟩,
      ⟨some 50, .bin .neq (.tmp 48) (.tmp 49), some (47, false)⟩,
      ⟨some 51, .pick (.tmp 47) (.const (.bool true)) (.tmp 50), none⟩] [0, 1, 6, 7, 8, 9, 10, 11, 51] []) <|
   .cond (.tmp 51)
     (.seq (.region [⟨some 4, .mv (.const (.bool false)), none⟩] [4] []) <|
     .ret)
     (.skip)) <|
  .seq (.seq (.region [⟨some 52, .mv (.tmp 8), none⟩,
      ⟨some 53, .mv (.tmp 0), none⟩,
      ⟨some 54, .call (.func F.laws_toInt64S) [(.tmp 53)] [], none⟩,
      ⟨some 55, .call (.func F.laws_eqInt64S) [(.tmp 52), (.tmp 54)] [], none⟩,
      ⟨some 56, .un .not (.tmp 55), none⟩] [0, 1, 6, 7, 8, 9, 10, 11, 56] []) <|
   .cond (.tmp 56)
     (.seq (.region [⟨some 4, .mv (.const (.bool false)), none⟩] [4] []) <|
     .ret)
     (.skip)) <|
  .seq (.seq (.region [⟨some 57, .mv (.tmp 9), none⟩,
      ⟨some 58, .mv (.tmp 1), none⟩,
      ⟨some 59, .call (.func F.laws_toFaultS) [(.tmp 58)] [], none⟩,
      ⟨some 60, .call (.func F.laws_eqFaultS) [(.tmp 57), (.tmp 59)] [], none⟩,
      ⟨some 61, .un .not (.tmp 60), none⟩] [0, 1, 6, 7, 8, 9, 10, 11, 61] []) <|
   .cond (.tmp 61)
     (.seq (.region [⟨some 4, .mv (.const (.bool false)), none⟩] [4] []) <|
     .ret)
     (.skip)) <|
  .seq (.region [⟨some 12, .mv (.const (.int .i64 (1))), none⟩] [0, 1, 6, 7, 8, 9, 10, 11, 12] []) <|
  .seq (.region [⟨some 62, .mv (.tmp 8), none⟩,
     ⟨some 63, .mv (.tmp 12), none⟩,
     ⟨some 64, .call (.func F.laws_markInt64S) [(.tmp 62), (.tmp 63)] [0], none⟩,
     ⟨some 12, .mv (.tmp 64), none⟩] [0, 1, 6, 7, 9, 10, 11, 12] []) <|
  .seq (.region [⟨some 65, .mv (.tmp 9), none⟩,
     ⟨some 66, .mv (.tmp 12), none⟩,
     ⟨some 67, .call (.func F.laws_markFaultS) [(.tmp 65), (.tmp 66)] [0], none⟩,
     ⟨some 12, .mv (.tmp 67), none⟩] [0, 1, 6, 7, 10, 11, 12] []) <|
  .seq (.seq (.region [⟨some 68, .mv (.tmp 12), none⟩,
      ⟨some 69, .bin .lss (.tmp 68) (.const (.int .i64 (0))), none⟩,
      ⟨some 70, .mv (.tmp 69), none⟩,
      ⟨some 71, .mv (.tmp 10), some (70, false)⟩,
      ⟨some 72, .mv (.tmp 6), some (70, false)⟩,
      ⟨some 73, .call (.func F.laws_eqInt64S) [(.tmp 71), (.tmp 72)] [], some (70, false)⟩,
      ⟨some 74, .un .not (.tmp 73), some (70, false)⟩,
      ⟨some 75, .pick (.tmp 70) (.const (.bool true)) (.tmp 74), none⟩,
      ⟨some 76, .mv (.tmp 75), none⟩,
      ⟨some 77, .mv (.tmp 11), some (76, false)⟩,
      ⟨some 78, .mv (.tmp 7), some (76, false)⟩,
      ⟨some 79, .bin .neq (.tmp 77) (.tmp 78), some (76, false)⟩,
      ⟨some 80, .pick (.tmp 76) (.const (.bool true)) (.tmp 79), none⟩] [0, 1, 6, 7, 10, 80] []) <|
   .cond (.tmp 80)
     (.seq (.region [⟨some 4, .mv (.const (.bool false)), none⟩] [4] []) <|
     .ret)
     (.skip)) <|
  .seq (.region [⟨some 13, .mv (.const (.int .i64 (1))), none⟩] [0, 1, 6, 7, 10, 13] []) <|
  .seq (.region [⟨some 81, .mv (.tmp 10), none⟩,
     ⟨some 82, .mv (.tmp 13), none⟩,
     ⟨some 83, .call (.func F.laws_markInt64S) [(.tmp 81), (.tmp 82)] [0], none⟩,
     ⟨some 13, .mv (.tmp 83), none⟩] [0, 1, 6, 7, 10, 13] []) <|
  .seq (.region [⟨some 14, .mv (.const (.int .i64 (1))), none⟩] [0, 1, 6, 7, 10, 13, 14] []) <|
  .seq (.region [⟨some 84, .mv (.tmp 10), none⟩,
     ⟨some 85, .mv (.tmp 14), none⟩,
     ⟨some 86, .call (.func F.laws_heldInt64S) [(.tmp 84), (.tmp 85)] [], none⟩,
     ⟨some 14, .mv (.tmp 86), none⟩] [0, 1, 6, 7, 10, 13, 14] []) <|
  .seq (.seq (.region [⟨some 87, .mv (.tmp 14), none⟩,
      ⟨some 88, .bin .lss (.tmp 87) (.const (.int .i64 (0))), none⟩] [0, 1, 6, 7, 10, 13, 14, 88] []) <|
   .cond (.tmp 88)
     (.seq (.region [⟨some 4, .mv (.const (.bool false)), none⟩] [4] []) <|
     .ret)
     (.skip)) <|
  .seq (.seq (.region [⟨some 89, .mv (.tmp 14), none⟩,
      ⟨some 90, .mv (.tmp 13), none⟩,
      ⟨some 91, .bin .neq (.tmp 89) (.tmp 90), none⟩] [0, 1, 6, 7, 10, 13, 91] []) <|
   .cond (.tmp 91)
     (.seq (.region [⟨some 4, .mv (.const (.bool false)), none⟩] [4] []) <|
     .ret)
     (.skip)) <|
  .seq (.region [⟨some 93, .mv (.tmp 0), none⟩,
     ⟨some 94, .call (.func F.laws_toInt64S) [(.tmp 93)] [], none⟩,
     ⟨some 95, .mv (.tmp 1), none⟩,
     ⟨some 96, .call (.func F.laws_toFaultS) [(.tmp 95)] [], none⟩,
     ⟨some 97, .call (.func F.impl_AmountsAfter) [(.tmp 94), (.tmp 96)] [], none⟩,
     ⟨some 92, .mv (.tmp 97), none⟩,
     ⟨some 98, .extract (.tmp 92) 0, none⟩,
     ⟨some 99, .extract (.tmp 92) 1, none⟩,
     ⟨some 15, .mv (.tmp 98), none⟩,
     ⟨some 16, .mv (.tmp 99), none⟩] [6, 7, 10, 13, 15, 16] []) <|
  .seq (.seq (.region [⟨some 100, .mv (.tmp 15), none⟩,
      ⟨some 101, .mv (.tmp 6), none⟩,
      ⟨some 102, .call (.func F.laws_eqInt64S) [(.tmp 100), (.tmp 101)] [], none⟩,
      ⟨some 103, .un .not (.tmp 102), none⟩,
      ⟨some 104, .mv (.tmp 103), none⟩,
      ⟨some 105, .mv (.tmp 16), some (104, false)⟩,
      ⟨some 106, .mv (.tmp 7), some (104, false)⟩,
      ⟨some 107, .bin .neq (.tmp 105) (.tmp 106), some (104, false)⟩,
      ⟨some 108, .pick (.tmp 104) (.const (.bool true)) (.tmp 107), none⟩] [10, 13, 108] []) <|
   .cond (.tmp 108)
     (.seq (.region [⟨some 4, .mv (.const (.bool false)), none⟩] [4] []) <|
     .ret)
     (.skip)) <|
  .seq (.region [⟨some 14, .mv (.const (.int .i64 (1))), none⟩] [10, 13, 14] []) <|
  .seq (.region [⟨some 109, .mv (.tmp 10), none⟩,
     ⟨some 110, .mv (.tmp 14), none⟩,
     ⟨some 111, .call (.func F.laws_heldInt64S) [(.tmp 109), (.tmp 110)] [], none⟩,
     ⟨some 14, .mv (.tmp 111), none⟩] [13, 14] []) <|
  .seq (.seq (.region [⟨some 112, .mv (.tmp 14), none⟩,
      ⟨some 113, .bin .lss (.tmp 112) (.const (.int .i64 (0))), none⟩] [13, 14, 113] []) <|
   .cond (.tmp 113)
     (.seq (.region [⟨some 4, .mv (.const (.bool false)), none⟩] [4] []) <|
     .ret)
     (.skip)) <|
  .seq (.seq (.region [⟨some 114, .mv (.tmp 14), none⟩,
      ⟨some 115, .mv (.tmp 13), none⟩,
      ⟨some 116, .bin .neq (.tmp 114) (.tmp 115), none⟩] [116] []) <|
   .cond (.tmp 116)
     (.seq (.region [⟨some 4, .mv (.const (.bool false)), none⟩] [4] []) <|
     .ret)
     (.skip)) <|
  .seq (.region [⟨some 4, .mv (.const (.bool true)), none⟩] [4] []) <|
  .ret
theorem Cd.laws_FnExactAmountsAfter_rs : Try.f3.results.toList = [.tmp 4] := rfl
theorem Cd.laws_FnExactAmountsAfter_nt : Try.f3.ntmps = 117 := rfl
theorem Cd.laws_FnExactAmountsAfter_ok : CodeIsR Try.prog 3 Try.f3 Cd.laws_FnExactAmountsAfter := ⟨Try.func3, by kernel_rfl, by decide +kernel⟩
/-- loop.example/g01012/laws.szFaultS -/
def Cd.laws_szFaultS : ACode :=
  .seq (.region [⟨some 4, .mv (.const (.int .i64 (0))), none⟩] [0, 1] []) <|
  .seq (.region [⟨some 5, .mv (.tmp 1), none⟩,
     ⟨some 6, .mv (.tmp 0), none⟩,
     ⟨some 7, .len (.tmp 6), none⟩,
     ⟨some 8, .bin .sub (.tmp 5) (.tmp 7), none⟩,
     ⟨some 1, .mv (.tmp 8), none⟩] [1] []) <|
  .seq (.seq (.region [⟨some 9, .mv (.tmp 1), none⟩,
      ⟨some 10, .bin .lss (.tmp 9) (.const (.int .i64 (0))), none⟩] [1, 10] []) <|
   .cond (.tmp 10)
     (.seq (.region [⟨some 4, .mv (.const (.int .i64 (-1))), none⟩] [4] []) <|
     .ret)
     (.skip)) <|
  .seq (.region [⟨some 11, .mv (.tmp 1), none⟩,
     ⟨some 4, .mv (.tmp 11), none⟩] [4] []) <|
  .ret
theorem Cd.laws_szFaultS_rs : Try.f6.results.toList = [.tmp 4] := rfl
theorem Cd.laws_szFaultS_nt : Try.f6.ntmps = 12 := rfl
theorem Cd.laws_szFaultS_ok : CodeIsR Try.prog 6 Try.f6 Cd.laws_szFaultS := ⟨Try.func6, by kernel_rfl, by decide +kernel⟩
/-- loop.example/g01012/spec.AmountsAfter -/
def Cd.spec_AmountsAfter : ACode :=
  .seq (.region [⟨some 4, .mv (.const (.slice none 0 0)), none⟩,
     ⟨some 5, .mv (.const (.int .i64 (0))), none⟩] [0, 1] []) <|
  .seq (.region [⟨some 7, .mv (.tmp 0), none⟩,
     ⟨some 8, .mv (.tmp 1), none⟩,
     ⟨some 9, .call (.func F.spec_l19Code) [(.tmp 7), (.tmp 8)] [], none⟩,
     ⟨some 6, .mv (.tmp 9), none⟩] [0, 1, 6] []) <|
  .seq (.seq (.region [⟨some 10, .mv (.tmp 6), none⟩,
      ⟨some 11, .bin .neq (.tmp 10) (.const (.int .i64 (0))), none⟩] [0, 1, 6, 11] []) <|
   .cond (.tmp 11)
     (.seq (.region [⟨some 12, .mv (.tmp 6), none⟩,
        ⟨some 4, .mv (.const (.slice none 0 0)), none⟩,
        ⟨some 5, .mv (.tmp 12), none⟩] [4, 5] []) <|
     .ret)
     (.skip)) <|
  .seq (.region [⟨some 13, .mv (.tmp 0), none⟩,
     ⟨some 14, .mv (.tmp 1), none⟩,
     ⟨some 15, .call (.func F.spec_l19After) [(.tmp 13), (.tmp 14)] [], none⟩,
     ⟨some 4, .mv (.tmp 15), none⟩,
     ⟨some 5, .mv (.const (.int .i64 (0))), none⟩] [4, 5] []) <|
  .ret
theorem Cd.spec_AmountsAfter_rs : Try.f7.results.toList = [.tmp 4, .tmp 5] := rfl
theorem Cd.spec_AmountsAfter_nt : Try.f7.ntmps = 16 := rfl
theorem Cd.spec_AmountsAfter_ok : CodeIsR Try.prog 7 Try.f7 Cd.spec_AmountsAfter := ⟨Try.func7, by kernel_rfl, by decide +kernel⟩
/-- loop.example/g01012/laws.toInt64S -/
def Cd.laws_toInt64S : ACode :=
  .seq (.region [⟨some 2, .mv (.const (.slice none 0 0)), none⟩] [0] []) <|
  .seq (.region [⟨some 5, .mv (.tmp 0), none⟩,
     ⟨some 6, .len (.tmp 5), none⟩,
     ⟨some 7, .mk 1 8 [.v (.int .i64 (0))] (.tmp 6), none⟩,
     ⟨some 3, .mv (.tmp 7), none⟩] [0, 3] []) <|
  .seq (.seq (.region [⟨some 4, .mv (.const (.int .i64 (0))), none⟩] [0, 3, 4] []) <|
   .block 0 (
     .loop (
       .seq (.seq (.region [⟨some 8, .mv (.tmp 4), none⟩,
           ⟨some 9, .mv (.tmp 0), none⟩,
           ⟨some 10, .len (.tmp 9), none⟩,
           ⟨some 11, .bin .lss (.tmp 8) (.tmp 10), none⟩] [0, 3, 4, 11] []) <|
        .cond (.tmp 11)
          (.skip)
          (.exit 0)) <|
       .seq (.block 1 (
          .region [⟨some 14, .mv (.tmp 3), none⟩,
            ⟨some 15, .mv (.tmp 4), none⟩,
            ⟨some 16, .mv (.tmp 0), none⟩,
            ⟨some 17, .mv (.tmp 4), none⟩,
            ⟨some 18, .idxSl 1 (.tmp 16) (.tmp 17), none⟩,
            ⟨some 19, .load false 1 (.tmp 18), none⟩,
            ⟨some 20, .idxSl 1 (.tmp 14) (.tmp 15), none⟩,
            ⟨none, .store 1 (.tmp 20) (.tmp 19), none⟩] [0, 3, 4] [])) <|
       .region [⟨some 12, .mv (.tmp 4), none⟩,
         ⟨some 13, .bin .add (.tmp 12) (.const (.int .i64 (1))), none⟩,
         ⟨some 4, .mv (.tmp 13), none⟩] [0, 3, 4] []))) <|
  .seq (.region [⟨some 21, .mv (.tmp 3), none⟩,
     ⟨some 2, .mv (.tmp 21), none⟩] [2] []) <|
  .ret
theorem Cd.laws_toInt64S_rs : Try.f8.results.toList = [.tmp 2] := rfl
theorem Cd.laws_toInt64S_nt : Try.f8.ntmps = 22 := rfl
theorem Cd.laws_toInt64S_ok : CodeIsR Try.prog 8 Try.f8 Cd.laws_toInt64S := ⟨Try.func8, by kernel_rfl, by decide +kernel⟩
/-- loop.example/g01012/laws.toFaultS -/
def Cd.laws_toFaultS : ACode :=
  .seq (.region [⟨some 2, .mv (.const (.slice none 0 0)), none⟩] [0] []) <|
  .seq (.region [⟨some 5, .mv (.tmp 0), none⟩,
     ⟨some 6, .len (.tmp 5), none⟩,
     ⟨some 7, .mk 4 32 [.v (.int .i64 (0)), .v (.int .i64 (0)), .v (.int .i64 (0)), .v (.int .i64 (0))] (.tmp 6), none⟩,
     ⟨some 3, .mv (.tmp 7), none⟩] [0, 3] []) <|
  .seq (.seq (.region [⟨some 4, .mv (.const (.int .i64 (0))), none⟩] [0, 3, 4] []) <|
   .block 0 (
     .loop (
       .seq (.seq (.region [⟨some 8, .mv (.tmp 4), none⟩,
           ⟨some 9, .mv (.tmp 0), none⟩,
           ⟨some 10, .len (.tmp 9), none⟩,
           ⟨some 11, .bin .lss (.tmp 8) (.tmp 10), none⟩] [0, 3, 4, 11] []) <|
        .cond (.tmp 11)
          (.skip)
          (.exit 0)) <|
       .seq (.block 1 (
          .region [⟨some 14, .mv (.tmp 3), none⟩,
            ⟨some 15, .mv (.tmp 4), none⟩,
            ⟨some 16, .mv (.tmp 0), none⟩,
            ⟨some 17, .mv (.tmp 4), none⟩,
            ⟨some 18, .idxSl 4 (.tmp 16) (.tmp 17), none⟩,
            ⟨some 19, .load true 4 (.tmp 18), none⟩,
            ⟨some 20, .call (.func F.laws_toFault) [(.tmp 19)] [], none⟩,
            ⟨some 21, .idxSl 4 (.tmp 14) (.tmp 15), none⟩,
            ⟨none, .store 4 (.tmp 21) (.tmp 20), none⟩] [0, 3, 4] [])) <|
       .region [⟨some 12, .mv (.tmp 4), none⟩,
         ⟨some 13, .bin .add (.tmp 12) (.const (.int .i64 (1))), none⟩,
         ⟨some 4, .mv (.tmp 13), none⟩] [0, 3, 4] []))) <|
  .seq (.region [⟨some 22, .mv (.tmp 3), none⟩,
     ⟨some 2, .mv (.tmp 22), none⟩] [2] []) <|
  .ret
theorem Cd.laws_toFaultS_rs : Try.f9.results.toList = [.tmp 2] := rfl
theorem Cd.laws_toFaultS_nt : Try.f9.ntmps = 23 := rfl
theorem Cd.laws_toFaultS_ok : CodeIsR Try.prog 9 Try.f9 Cd.laws_toFaultS := ⟨Try.func9, by kernel_rfl, by decide +kernel⟩
/-- loop.example/g01012/impl.AmountsAfter -/
def Cd.impl_AmountsAfter : ACode :=
  .seq (.region [⟨some 4, .mv (.const (.slice none 0 0)), none⟩,
     ⟨some 5, .mv (.const (.int .i64 (0))), none⟩] [0, 1] []) <|
  .seq (.seq (.region [⟨some 7, .mv (.tmp 0), none⟩,
      ⟨some 8, .mv (.tmp 1), none⟩,
      ⟨some 9, .call (.func F.impl_faultCode) [(.tmp 7), (.tmp 8)] [], none⟩,
      ⟨some 6, .mv (.tmp 9), none⟩] [0, 1, 6] []) <|
   .seq (.region [⟨some 10, .mv (.tmp 6), none⟩,
      ⟨some 11, .bin .neq (.tmp 10) (.const (.int .i64 (0))), none⟩] [0, 1, 6, 11] []) <|
   .cond (.tmp 11)
     (.seq (.region [⟨some 12, .mv (.tmp 6), none⟩,
        ⟨some 4, .mv (.const (.slice none 0 0)), none⟩,
        ⟨some 5, .mv (.tmp 12), none⟩] [4, 5] []) <|
     .ret)
     (.skip)) <|
  .seq (.region [⟨some 13, .mv (.tmp 0), none⟩,
     ⟨some 14, .mv (.tmp 1), none⟩,
     ⟨some 15, .call (.func F.impl_amountsAfter) [(.tmp 13), (.tmp 14)] [], none⟩,
     ⟨some 4, .mv (.tmp 15), none⟩,
     ⟨some 5, .mv (.const (.int .i64 (0))), none⟩] [4, 5] []) <|
  .ret
theorem Cd.impl_AmountsAfter_rs : Try.f10.results.toList = [.tmp 4, .tmp 5] := rfl
theorem Cd.impl_AmountsAfter_nt : Try.f10.ntmps = 16 := rfl
theorem Cd.impl_AmountsAfter_ok : CodeIsR Try.prog 10 Try.f10 Cd.impl_AmountsAfter := ⟨Try.func10, by kernel_rfl, by decide +kernel⟩
/-- loop.example/g01012/laws.eqInt64S DRAWS -/
def Cd.laws_eqInt64S : ACode :=
  .seq (.region [⟨some 4, .mv (.const (.bool false)), none⟩] [0, 1] []) <|
  .seq (.seq (.region [⟨some 6, .mv (.tmp 0), none⟩,
      ⟨some 7, .len (.tmp 6), none⟩,
      ⟨some 8, .mv (.tmp 1), none⟩,
      ⟨some 9, .len (.tmp 8), none⟩,
      ⟨some 10, .bin .neq (.tmp 7) (.tmp 9), none⟩] [0, 1, 10] []) <|
   .cond (.tmp 10)
     (.seq (.region [⟨some 4, .mv (.const (.bool false)), none⟩] [4] []) <|
     .ret)
     (.skip)) <|
  .seq (.seq (.region [⟨some 5, .mv (.const (.int .i64 (0))), none⟩] [0, 1, 5] []) <|
   .block 0 (
     .loop (
       .seq (.seq (.region [⟨some 11, .mv (.tmp 5), none⟩,
           ⟨some 12, .mv (.tmp 0), none⟩,
           ⟨some 13, .len (.tmp 12), none⟩,
           ⟨some 14, .bin .lss (.tmp 11) (.tmp 13), none⟩] [0, 1, 5, 14] []) <|
        .cond (.tmp 14)
          (.skip)
          (.exit 0)) <|
       .seq (.block 1 (
          .seq (.region [⟨some 17, .mv (.tmp 0), none⟩,
             ⟨some 18, .mv (.tmp 5), none⟩,
             ⟨some 19, .idxSl 1 (.tmp 17) (.tmp 18), none⟩,
             ⟨some 20, .load false 1 (.tmp 19), none⟩,
             ⟨some 21, .mv (.tmp 1), none⟩,
             ⟨some 22, .mv (.tmp 5), none⟩,
             ⟨some 23, .idxSl 1 (.tmp 21) (.tmp 22), none⟩,
             ⟨some 24, .load false 1 (.tmp 23), none⟩,
             ⟨some 25, .bin .neq (.tmp 20) (.tmp 24), none⟩] [0, 1, 5, 25] [17, 18, 20, 21, 19, 22, 23, 24, 25]) <|
          .cond (.tmp 25)
            (.seq (.region [⟨some 4, .mv (.const (.bool false)), none⟩] [4] []) <|
            .ret)
            (.skip))) <|
       .region [⟨some 15, .mv (.tmp 5), none⟩,
         ⟨some 16, .bin .add (.tmp 15) (.const (.int .i64 (1))), none⟩,
         ⟨some 5, .mv (.tmp 16), none⟩] [0, 1, 5] []))) <|
  .seq (.region [⟨some 4, .mv (.const (.bool true)), none⟩] [4] []) <|
  .ret
theorem Cd.laws_eqInt64S_rs : Try.f11.results.toList = [.tmp 4] := rfl
theorem Cd.laws_eqInt64S_nt : Try.f11.ntmps = 26 := rfl
theorem Cd.laws_eqInt64S_ok : CodeIsR Try.prog 11 Try.f11 Cd.laws_eqInt64S := ⟨Try.func11, by kernel_rfl, by decide +kernel⟩
/-- loop.example/g01012/laws.eqFaultS DRAWS -/
def Cd.laws_eqFaultS : ACode :=
  .seq (.region [⟨some 4, .mv (.const (.bool false)), none⟩] [0, 1] []) <|
  .seq (.seq (.region [⟨some 6, .mv (.tmp 0), none⟩,
      ⟨some 7, .len (.tmp 6), none⟩,
      ⟨some 8, .mv (.tmp 1), none⟩,
      ⟨some 9, .len (.tmp 8), none⟩,
      ⟨some 10, .bin .neq (.tmp 7) (.tmp 9), none⟩] [0, 1, 10] []) <|
   .cond (.tmp 10)
     (.seq (.region [⟨some 4, .mv (.const (.bool false)), none⟩] [4] []) <|
     .ret)
     (.skip)) <|
  .seq (.seq (.region [⟨some 5, .mv (.const (.int .i64 (0))), none⟩] [0, 1, 5] []) <|
   .block 0 (
     .loop (
       .seq (.seq (.region [⟨some 11, .mv (.tmp 5), none⟩,
           ⟨some 12, .mv (.tmp 0), none⟩,
           ⟨some 13, .len (.tmp 12), none⟩,
           ⟨some 14, .bin .lss (.tmp 11) (.tmp 13), none⟩] [0, 1, 5, 14] []) <|
        .cond (.tmp 14)
          (.skip)
          (.exit 0)) <|
       .seq (.block 1 (
          .seq (.region [⟨some 17, .mv (.tmp 0), none⟩,
             ⟨some 18, .mv (.tmp 5), none⟩,
             ⟨some 19, .idxSl 4 (.tmp 17) (.tmp 18), none⟩,
             ⟨some 20, .load true 4 (.tmp 19), none⟩,
             ⟨some 21, .mv (.tmp 1), none⟩,
             ⟨some 22, .mv (.tmp 5), none⟩,
             ⟨some 23, .idxSl 4 (.tmp 21) (.tmp 22), none⟩,
             ⟨some 24, .load true 4 (.tmp 23), none⟩,
             ⟨some 25, .call (.func F.laws_eqFault) [(.tmp 20), (.tmp 24)] [], none⟩,
             ⟨some 26, .un .not (.tmp 25), none⟩] [0, 1, 5, 26] [17, 18, 20, 21, 19, 22, 23, 24, 25, 26]) <|
          .cond (.tmp 26)
            (.seq (.region [⟨some 4, .mv (.const (.bool false)), none⟩] [4] []) <|
            .ret)
            (.skip))) <|
       .region [⟨some 15, .mv (.tmp 5), none⟩,
         ⟨some 16, .bin .add (.tmp 15) (.const (.int .i64 (1))), none⟩,
         ⟨some 5, .mv (.tmp 16), none⟩] [0, 1, 5] []))) <|
  .seq (.region [⟨some 4, .mv (.const (.bool true)), none⟩] [4] []) <|
  .ret
theorem Cd.laws_eqFaultS_rs : Try.f12.results.toList = [.tmp 4] := rfl
theorem Cd.laws_eqFaultS_nt : Try.f12.ntmps = 27 := rfl
theorem Cd.laws_eqFaultS_ok : CodeIsR Try.prog 12 Try.f12 Cd.laws_eqFaultS := ⟨Try.func12, by kernel_rfl, by decide +kernel⟩
/-- loop.example/g01012/laws.markInt64S -/
def Cd.laws_markInt64S : ACode :=
  .seq (.region [⟨some 4, .mv (.const (.int .i64 (0))), none⟩] [0, 1] []) <|
  .seq (.seq (.region [⟨some 5, .mv (.const (.int .i64 (0))), none⟩] [0, 1, 5] []) <|
   .block 0 (
     .loop (
       .seq (.seq (.region [⟨some 6, .mv (.tmp 5), none⟩,
           ⟨some 7, .mv (.tmp 0), none⟩,
           ⟨some 8, .len (.tmp 7), none⟩,
           ⟨some 9, .bin .lss (.tmp 6) (.tmp 8), none⟩] [0, 1, 5, 9] []) <|
        .cond (.tmp 9)
          (.skip)
          (.exit 0)) <|
       .seq (.block 1 (
          .seq (.region [⟨some 12, .mv (.tmp 0), none⟩,
             ⟨some 13, .mv (.tmp 5), none⟩,
             ⟨some 14, .mv (.tmp 1), none⟩,
             ⟨some 15, .idxSl 1 (.tmp 12) (.tmp 13), none⟩,
             ⟨none, .store 1 (.tmp 15) (.tmp 14), none⟩] [0, 1, 5] []) <|
          .region [⟨some 16, .mv (.tmp 1), none⟩,
            ⟨some 17, .bin .add (.tmp 16) (.const (.int .i64 (1))), none⟩,
            ⟨some 1, .mv (.tmp 17), none⟩] [0, 1, 5] [])) <|
       .region [⟨some 10, .mv (.tmp 5), none⟩,
         ⟨some 11, .bin .add (.tmp 10) (.const (.int .i64 (1))), none⟩,
         ⟨some 5, .mv (.tmp 11), none⟩] [0, 1, 5] []))) <|
  .seq (.region [⟨some 18, .mv (.tmp 1), none⟩,
     ⟨some 4, .mv (.tmp 18), none⟩] [4] []) <|
  .ret
theorem Cd.laws_markInt64S_rs : Try.f13.results.toList = [.tmp 4] := rfl
theorem Cd.laws_markInt64S_nt : Try.f13.ntmps = 19 := rfl
theorem Cd.laws_markInt64S_ok : CodeIsR Try.prog 13 Try.f13 Cd.laws_markInt64S := ⟨Try.func13, by kernel_rfl, by decide +kernel⟩
/-- loop.example/g01012/laws.markFaultS -/
def Cd.laws_markFaultS : ACode :=
  .seq (.region [⟨some 4, .mv (.const (.int .i64 (0))), none⟩] [0, 1] []) <|
  .seq (.seq (.region [⟨some 5, .mv (.const (.int .i64 (0))), none⟩] [0, 1, 5] []) <|
   .block 0 (
     .loop (
       .seq (.seq (.region [⟨some 6, .mv (.tmp 5), none⟩,
           ⟨some 7, .mv (.tmp 0), none⟩,
           ⟨some 8, .len (.tmp 7), none⟩,
           ⟨some 9, .bin .lss (.tmp 6) (.tmp 8), none⟩] [0, 1, 5, 9] []) <|
        .cond (.tmp 9)
          (.skip)
          (.exit 0)) <|
       .seq (.block 1 (
          .seq (.region [⟨some 12, .mv (.tmp 0), none⟩,
             ⟨some 13, .mv (.tmp 5), none⟩,
             ⟨some 14, .mv (.tmp 1), none⟩,
             ⟨some 15, .idxSl 4 (.tmp 12) (.tmp 13), none⟩,
             ⟨some 16, .fieldAddr 0 (.tmp 15), none⟩,
             ⟨none, .store 1 (.tmp 16) (.tmp 14), none⟩] [0, 1, 5] []) <|
          .seq (.region [⟨some 17, .mv (.tmp 1), none⟩,
             ⟨some 18, .bin .add (.tmp 17) (.const (.int .i64 (1))), none⟩,
             ⟨some 1, .mv (.tmp 18), none⟩] [0, 1, 5] []) <|
          .seq (.region [⟨some 19, .mv (.tmp 0), none⟩,
             ⟨some 20, .mv (.tmp 5), none⟩,
             ⟨some 21, .mv (.tmp 1), none⟩,
             ⟨some 22, .idxSl 4 (.tmp 19) (.tmp 20), none⟩,
             ⟨some 23, .fieldAddr 1 (.tmp 22), none⟩,
             ⟨none, .store 1 (.tmp 23) (.tmp 21), none⟩] [0, 1, 5] []) <|
          .seq (.region [⟨some 24, .mv (.tmp 1), none⟩,
             ⟨some 25, .bin .add (.tmp 24) (.const (.int .i64 (1))), none⟩,
             ⟨some 1, .mv (.tmp 25), none⟩] [0, 1, 5] []) <|
          .seq (.region [⟨some 26, .mv (.tmp 0), none⟩,
             ⟨some 27, .mv (.tmp 5), none⟩,
             ⟨some 28, .mv (.tmp 1), none⟩,
             ⟨some 29, .idxSl 4 (.tmp 26) (.tmp 27), none⟩,
             ⟨some 30, .fieldAddr 2 (.tmp 29), none⟩,
             ⟨none, .store 1 (.tmp 30) (.tmp 28), none⟩] [0, 1, 5] []) <|
          .seq (.region [⟨some 31, .mv (.tmp 1), none⟩,
             ⟨some 32, .bin .add (.tmp 31) (.const (.int .i64 (1))), none⟩,
             ⟨some 1, .mv (.tmp 32), none⟩] [0, 1, 5] []) <|
          .seq (.region [⟨some 33, .mv (.tmp 0), none⟩,
             ⟨some 34, .mv (.tmp 5), none⟩,
             ⟨some 35, .mv (.tmp 1), none⟩,
             ⟨some 36, .idxSl 4 (.tmp 33) (.tmp 34), none⟩,
             ⟨some 37, .fieldAddr 3 (.tmp 36), none⟩,
             ⟨none, .store 1 (.tmp 37) (.tmp 35), none⟩] [0, 1, 5] []) <|
          .region [⟨some 38, .mv (.tmp 1), none⟩,
            ⟨some 39, .bin .add (.tmp 38) (.const (.int .i64 (1))), none⟩,
            ⟨some 1, .mv (.tmp 39), none⟩] [0, 1, 5] [])) <|
       .region [⟨some 10, .mv (.tmp 5), none⟩,
         ⟨some 11, .bin .add (.tmp 10) (.const (.int .i64 (1))), none⟩,
         ⟨some 5, .mv (.tmp 11), none⟩] [0, 1, 5] []))) <|
  .seq (.region [⟨some 40, .mv (.tmp 1), none⟩,
     ⟨some 4, .mv (.tmp 40), none⟩] [4] []) <|
  .ret
theorem Cd.laws_markFaultS_rs : Try.f14.results.toList = [.tmp 4] := rfl
theorem Cd.laws_markFaultS_nt : Try.f14.ntmps = 41 := rfl
theorem Cd.laws_markFaultS_ok : CodeIsR Try.prog 14 Try.f14 Cd.laws_markFaultS := ⟨Try.func14, by kernel_rfl, by decide +kernel⟩
/-- loop.example/g01012/laws.heldInt64S -/
def Cd.laws_heldInt64S : ACode :=
  .seq (.region [⟨some 4, .mv (.const (.int .i64 (0))), none⟩] [0, 1] []) <|
  .seq (.seq (.region [⟨some 5, .mv (.const (.int .i64 (0))), none⟩] [0, 1, 5] []) <|
   .block 0 (
     .loop (
       .seq (.seq (.region [⟨some 6, .mv (.tmp 5), none⟩,
           ⟨some 7, .mv (.tmp 0), none⟩,
           ⟨some 8, .len (.tmp 7), none⟩,
           ⟨some 9, .bin .lss (.tmp 6) (.tmp 8), none⟩] [0, 1, 5, 9] []) <|
        .cond (.tmp 9)
          (.skip)
          (.exit 0)) <|
       .seq (.block 1 (
          .seq (.seq (.region [⟨some 12, .mv (.tmp 0), none⟩,
              ⟨some 13, .mv (.tmp 5), none⟩,
              ⟨some 14, .idxSl 1 (.tmp 12) (.tmp 13), none⟩,
              ⟨some 15, .load false 1 (.tmp 14), none⟩,
              ⟨some 16, .mv (.tmp 1), none⟩,
              ⟨some 17, .bin .neq (.tmp 15) (.tmp 16), none⟩] [0, 1, 5, 17] []) <|
           .cond (.tmp 17)
             (.seq (.region [⟨some 4, .mv (.const (.int .i64 (-1))), none⟩] [4] []) <|
             .ret)
             (.skip)) <|
          .region [⟨some 18, .mv (.tmp 1), none⟩,
            ⟨some 19, .bin .add (.tmp 18) (.const (.int .i64 (1))), none⟩,
            ⟨some 1, .mv (.tmp 19), none⟩] [0, 1, 5] [])) <|
       .region [⟨some 10, .mv (.tmp 5), none⟩,
         ⟨some 11, .bin .add (.tmp 10) (.const (.int .i64 (1))), none⟩,
         ⟨some 5, .mv (.tmp 11), none⟩] [0, 1, 5] []))) <|
  .seq (.region [⟨some 20, .mv (.tmp 1), none⟩,
     ⟨some 4, .mv (.tmp 20), none⟩] [4] []) <|
  .ret
theorem Cd.laws_heldInt64S_rs : Try.f15.results.toList = [.tmp 4] := rfl
theorem Cd.laws_heldInt64S_nt : Try.f15.ntmps = 21 := rfl
theorem Cd.laws_heldInt64S_ok : CodeIsR Try.prog 15 Try.f15 Cd.laws_heldInt64S := ⟨Try.func15, by kernel_rfl, by decide +kernel⟩
/-- loop.example/g01012/spec.l19Code -/
def Cd.spec_l19Code : ACode :=
  .seq (.region [⟨some 4, .mv (.const (.int .i64 (0))), none⟩] [0, 1] []) <|
  .seq (.seq (.region [⟨some 5, .mv (.tmp 0), none⟩,
      ⟨some 6, .call (.func F.spec_l19Ok) [(.tmp 5)] [], none⟩,
      ⟨some 7, .un .not (.tmp 6), none⟩] [0, 1, 7] []) <|
   .cond (.tmp 7)
     (.seq (.region [⟨some 4, .mv (.const (.int .i64 (1))), none⟩] [4] []) <|
     .ret)
     (.skip)) <|
  .seq (.seq (.region [⟨some 8, .mv (.tmp 0), none⟩,
      ⟨some 9, .mv (.tmp 1), none⟩,
      ⟨some 10, .call (.func F.spec_l19Faults) [(.tmp 8), (.tmp 9)] [], none⟩,
      ⟨some 11, .un .not (.tmp 10), none⟩] [11] []) <|
   .cond (.tmp 11)
     (.seq (.region [⟨some 4, .mv (.const (.int .i64 (2))), none⟩] [4] []) <|
     .ret)
     (.skip)) <|
  .seq (.region [⟨some 4, .mv (.const (.int .i64 (0))), none⟩] [4] []) <|
  .ret
theorem Cd.spec_l19Code_rs : Try.f27.results.toList = [.tmp 4] := rfl
theorem Cd.spec_l19Code_nt : Try.f27.ntmps = 12 := rfl
theorem Cd.spec_l19Code_ok : CodeIsR Try.prog 27 Try.f27 Cd.spec_l19Code := ⟨Try.func27, by kernel_rfl, by decide +kernel⟩
/-- loop.example/g01012/spec.l19After DRAWS -/
def Cd.spec_l19After : ACode :=
  .seq (.region [⟨some 4, .mv (.const (.slice none 0 0)), none⟩] [0, 1] []) <|
  .seq (.region [⟨some 8, .bslice 1 0 [.v (.int .i64 (0))] [], none⟩,
     ⟨some 5, .mv (.tmp 8), none⟩] [0, 1, 5] []) <|
  .seq (.region [⟨some 6, .mv (.const (.int .i64 (0))), none⟩] [0, 1, 5, 6] []) <|
  .seq (.seq (.region [⟨some 7, .mv (.const (.int .i64 (0))), none⟩] [0, 1, 5, 6, 7] []) <|
   .block 0 (
     .loop (
       .seq (.seq (.region [⟨some 9, .mv (.tmp 7), none⟩,
           ⟨some 10, .mv (.tmp 0), none⟩,
           ⟨some 11, .len (.tmp 10), none⟩,
           ⟨some 12, .bin .lss (.tmp 9) (.tmp 11), none⟩] [0, 1, 5, 6, 7, 12] []) <|
        .cond (.tmp 12)
          (.skip)
          (.exit 0)) <|
       .seq (.block 1 (
          .seq (.seq (.region [⟨some 15, .mv (.tmp 6), none⟩,
              ⟨some 16, .mv (.tmp 1), none⟩,
              ⟨some 17, .len (.tmp 16), none⟩,
              ⟨some 18, .bin .eql (.tmp 15) (.tmp 17), none⟩,
              ⟨some 19, .mv (.tmp 18), none⟩,
              ⟨some 20, .mv (.tmp 1), some (19, false)⟩,
              ⟨some 21, .mv (.tmp 6), some (19, false)⟩,
              ⟨some 22, .idxSl 4 (.tmp 20) (.tmp 21), some (19, false)⟩,
              ⟨some 23, .fieldAddr 1 (.tmp 22), some (19, false)⟩,
              ⟨some 24, .load false 1 (.tmp 23), some (19, false)⟩,
              ⟨some 25, .mv (.tmp 7), some (19, false)⟩,
              ⟨some 26, .bin .neq (.tmp 24) (.tmp 25), some (19, false)⟩,
              ⟨some 27, .pick (.tmp 19) (.const (.bool true)) (.tmp 26), none⟩] [0, 1, 5, 6, 7, 27] []) <|
           .cond (.tmp 27)
             (.seq (.region [⟨some 28, .mv (.tmp 5), none⟩,
                ⟨some 29, .mv (.tmp 0), none⟩,
                ⟨some 30, .mv (.tmp 7), none⟩,
                ⟨some 31, .idxSl 1 (.tmp 29) (.tmp 30), none⟩,
                ⟨some 32, .load false 1 (.tmp 31), none⟩,
                ⟨some 33, .bslice 1 1 [.v (.int .i64 (0))] [(0, (.tmp 32))], none⟩,
                ⟨some 34, .append 1 8 (.tmp 28) (.tmp 33), none⟩,
                ⟨some 5, .mv (.tmp 34), none⟩] [0, 1, 5, 6, 7] []) <|
             .exit 1)
             (.skip)) <|
          .seq (.seq (.region [⟨some 35, .mv (.tmp 1), none⟩,
              ⟨some 36, .mv (.tmp 6), none⟩,
              ⟨some 37, .idxSl 4 (.tmp 35) (.tmp 36), none⟩,
              ⟨some 38, .fieldAddr 0 (.tmp 37), none⟩,
              ⟨some 39, .load false 1 (.tmp 38), none⟩] [0, 1, 5, 6, 7, 39] []) <|
           .block 2 (
             .seq (.region [⟨some 41, .bin .eql (.tmp 39) (.const (.int .i64 (2))), none⟩,
                ⟨some 40, .mv (.tmp 41), none⟩] [0, 1, 5, 6, 7, 39, 40] []) <|
             .cond (.tmp 40)
               (.region [⟨some 42, .mv (.tmp 5), none⟩,
                 ⟨some 43, .mv (.tmp 0), none⟩,
                 ⟨some 44, .mv (.tmp 7), none⟩,
                 ⟨some 45, .idxSl 1 (.tmp 43) (.tmp 44), none⟩,
                 ⟨some 46, .load false 1 (.tmp 45), none⟩,
                 ⟨some 47, .mv (.tmp 0), none⟩,
                 ⟨some 48, .mv (.tmp 7), none⟩,
                 ⟨some 49, .idxSl 1 (.tmp 47) (.tmp 48), none⟩,
                 ⟨some 50, .load false 1 (.tmp 49), none⟩,
                 ⟨some 51, .bslice 1 2 [.v (.int .i64 (0))] [(0, (.tmp 46)), (1, (.tmp 50))], none⟩,
                 ⟨some 52, .append 1 8 (.tmp 42) (.tmp 51), none⟩,
                 ⟨some 5, .mv (.tmp 52), none⟩] [0, 1, 5, 6, 7] [42, 43, 44, 45, 46, 47, 48, 49, 50, 51, 52])
               (.seq (.region [⟨some 54, .bin .eql (.tmp 39) (.const (.int .i64 (3))), none⟩,
                  ⟨some 53, .mv (.tmp 54), none⟩] [0, 1, 5, 6, 7, 53] []) <|
               .cond (.tmp 53)
                 (.region [⟨some 55, .mv (.tmp 5), none⟩,
                   ⟨some 56, .mv (.tmp 0), none⟩,
                   ⟨some 57, .mv (.tmp 7), none⟩,
                   ⟨some 58, .idxSl 1 (.tmp 56) (.tmp 57), none⟩,
                   ⟨some 59, .load false 1 (.tmp 58), none⟩,
                   ⟨some 60, .mv (.tmp 1), none⟩,
                   ⟨some 61, .mv (.tmp 6), none⟩,
                   ⟨some 62, .idxSl 4 (.tmp 60) (.tmp 61), none⟩,
                   ⟨some 63, .load true 4 (.tmp 62), none⟩,
                   ⟨some 64, .call (.func F.spec_l19Read) [(.tmp 59), (.tmp 63)] [], none⟩,
                   ⟨some 65, .bslice 1 1 [.v (.int .i64 (0))] [(0, (.tmp 64))], none⟩,
                   ⟨some 66, .append 1 8 (.tmp 55) (.tmp 65), none⟩,
                   ⟨some 5, .mv (.tmp 66), none⟩] [0, 1, 5, 6, 7] [55, 56, 57, 58, 59, 60, 61, 62, 63, 64, 65, 66])
                 (.skip)))) <|
          .region [⟨some 67, .mv (.tmp 6), none⟩,
            ⟨some 68, .bin .add (.tmp 67) (.const (.int .i64 (1))), none⟩,
            ⟨some 6, .mv (.tmp 68), none⟩] [0, 1, 5, 6, 7] [])) <|
       .region [⟨some 13, .mv (.tmp 7), none⟩,
         ⟨some 14, .bin .add (.tmp 13) (.const (.int .i64 (1))), none⟩,
         ⟨some 7, .mv (.tmp 14), none⟩] [0, 1, 5, 6, 7] []))) <|
  .seq (.region [⟨some 69, .mv (.tmp 5), none⟩,
     ⟨some 4, .mv (.tmp 69), none⟩] [4] []) <|
  .ret
theorem Cd.spec_l19After_rs : Try.f28.results.toList = [.tmp 4] := rfl
theorem Cd.spec_l19After_nt : Try.f28.ntmps = 70 := rfl
theorem Cd.spec_l19After_ok : CodeIsR Try.prog 28 Try.f28 Cd.spec_l19After := ⟨Try.func28, by kernel_rfl, by decide +kernel⟩
/-- loop.example/g01012/laws.toFault -/
def Cd.laws_toFault : ACode :=
  .seq (.region [⟨some 1, .box (.tmp 0), none⟩,
     ⟨some 2, .alloc [.v (.int .i64 (0)), .v (.int .i64 (0)), .v (.int .i64 (0)), .v (.int .i64 (0))], none⟩] [1, 2] []) <|
  .seq (.region [⟨some 3, .alloc [.v (.int .i64 (0)), .v (.int .i64 (0)), .v (.int .i64 (0)), .v (.int .i64 (0))], none⟩] [1, 2, 3] []) <|
  .seq (.region [⟨some 4, .fieldAddr 0 (.tmp 1), none⟩,
     ⟨some 5, .load false 1 (.tmp 4), none⟩,
     ⟨some 6, .fieldAddr 0 (.tmp 3), none⟩,
     ⟨none, .store 1 (.tmp 6) (.tmp 5), none⟩] [1, 2, 3] []) <|
  .seq (.region [⟨some 7, .fieldAddr 1 (.tmp 1), none⟩,
     ⟨some 8, .load false 1 (.tmp 7), none⟩,
     ⟨some 9, .fieldAddr 1 (.tmp 3), none⟩,
     ⟨none, .store 1 (.tmp 9) (.tmp 8), none⟩] [1, 2, 3] []) <|
  .seq (.region [⟨some 10, .fieldAddr 2 (.tmp 1), none⟩,
     ⟨some 11, .load false 1 (.tmp 10), none⟩,
     ⟨some 12, .fieldAddr 2 (.tmp 3), none⟩,
     ⟨none, .store 1 (.tmp 12) (.tmp 11), none⟩] [1, 2, 3] []) <|
  .seq (.region [⟨some 13, .fieldAddr 3 (.tmp 1), none⟩,
     ⟨some 14, .load false 1 (.tmp 13), none⟩,
     ⟨some 15, .fieldAddr 3 (.tmp 3), none⟩,
     ⟨none, .store 1 (.tmp 15) (.tmp 14), none⟩] [2, 3] []) <|
  .seq (.region [⟨some 16, .load true 4 (.tmp 3), none⟩,
     ⟨none, .store 4 (.tmp 2) (.tmp 16), none⟩] [2] []) <|
  .ret
theorem Cd.laws_toFault_rs : Try.f29.results.toList = [.cell 2 58] := rfl
theorem Cd.laws_toFault_nt : Try.f29.ntmps = 17 := rfl
theorem Cd.laws_toFault_ok : CodeIsR Try.prog 29 Try.f29 Cd.laws_toFault := ⟨Try.func29, by kernel_rfl, by decide +kernel⟩
/-- loop.example/g01012/impl.faultCode -/
def Cd.impl_faultCode : ACode :=
  .seq (.region [⟨some 4, .mv (.const (.int .i64 (0))), none⟩] [0, 1] []) <|
  .seq (.block 0 (
     .seq (.region [⟨some 6, .mv (.tmp 0), none⟩,
        ⟨some 7, .call (.func F.impl_ValidAmounts) [(.tmp 6)] [], none⟩,
        ⟨some 8, .un .not (.tmp 7), none⟩,
        ⟨some 5, .mv (.tmp 8), none⟩] [0, 1, 5] []) <|
     .cond (.tmp 5)
       (.seq (.region [⟨some 4, .mv (.const (.int .i64 (1))), none⟩] [4] []) <|
       .ret)
       (.seq (.region [⟨some 10, .mv (.tmp 0), none⟩,
          ⟨some 11, .mv (.tmp 1), none⟩,
          ⟨some 12, .call (.func F.impl_areFaults) [(.tmp 10), (.tmp 11)] [], none⟩,
          ⟨some 13, .un .not (.tmp 12), none⟩,
          ⟨some 9, .mv (.tmp 13), none⟩] [9] []) <|
       .cond (.tmp 9)
         (.seq (.region [⟨some 4, .mv (.const (.int .i64 (2))), none⟩] [4] []) <|
         .ret)
         (.skip)))) <|
  .seq (.region [⟨some 4, .mv (.const (.int .i64 (0))), none⟩] [4] []) <|
  .ret
theorem Cd.impl_faultCode_rs : Try.f30.results.toList = [.tmp 4] := rfl
theorem Cd.impl_faultCode_nt : Try.f30.ntmps = 14 := rfl
theorem Cd.impl_faultCode_ok : CodeIsR Try.prog 30 Try.f30 Cd.impl_faultCode := ⟨Try.func30, by kernel_rfl, by decide +kernel⟩
/-- loop.example/g01012/impl.amountsAfter -/
def Cd.impl_amountsAfter : ACode :=
  .seq (.region [⟨some 4, .mv (.const (.slice none 0 0)), none⟩] [0, 1] []) <|
  .seq (.naming 5 (
     .region [⟨some 11, .bslice 1 0 [.v (.int .i64 (0))] [], none⟩,
       ⟨some 5, .mv (.tmp 11), none⟩] [0, 1, 5] [])) <|
  .seq (.seq (.region [⟨some 12, .mv (.tmp 0), none⟩,
      ⟨some 13, .len (.tmp 12), none⟩,
      ⟨some 14, .mv (.const (.int .i64 (0))), none⟩] [1, 5, 12, 13, 14] []) <|
   .block 0 (
     .loop (
       .seq (.region [⟨some 15, .bin .lss (.tmp 14) (.tmp 13), none⟩] [1, 5, 12, 13, 14, 15] []) <|
       .seq (.cond (.tmp 15)
          (.skip)
          (.exit 0)) <|
       .seq (.block 1 (
          .seq (.region [⟨some 16, .mv (.tmp 14), none⟩,
             ⟨some 17, .idxSl 1 (.tmp 12) (.tmp 14), none⟩,
             ⟨some 18, .load false 1 (.tmp 17), none⟩,
             ⟨some 6, .alloc [.v (.int .i64 (0))], none⟩,
             ⟨none, .store 1 (.tmp 6) (.tmp 16), none⟩,
             ⟨some 7, .mv (.tmp 18), none⟩] [1, 5, 6, 7, 12, 13, 14] []) <|
          .seq (.region [⟨some 19, .mv (.tmp 1), none⟩,
             ⟨some 20, .mkfn F.impl_amountsAfter_1 [(.tmp 6)], none⟩,
             ⟨some 21, .call (.func F.slices_IndexFunc___impl_Fault_impl_Fault_) [(.tmp 19), (.tmp 20)] [], none⟩,
             ⟨some 8, .mv (.tmp 21), none⟩] [1, 5, 7, 8, 12, 13, 14] []) <|
          .seq (.seq (.region [⟨some 22, .mv (.tmp 8), none⟩,
              ⟨some 23, .bin .lss (.tmp 22) (.const (.int .i64 (0))), none⟩] [1, 5, 7, 8, 12, 13, 14, 23] []) <|
           .cond (.tmp 23)
             (.seq (.naming 5 (
                .region [⟨some 24, .mv (.tmp 5), none⟩,
                  ⟨some 25, .mv (.tmp 7), none⟩,
                  ⟨some 26, .bslice 1 1 [.v (.int .i64 (0))] [(0, (.tmp 25))], none⟩,
                  ⟨some 27, .append 1 8 (.tmp 24) (.tmp 26), none⟩,
                  ⟨some 5, .mv (.tmp 27), none⟩] [1, 5, 12, 13, 14] [])) <|
             .exit 1)
             (.skip)) <|
          .seq (.region [⟨some 28, .mv (.tmp 1), none⟩,
             ⟨some 29, .mv (.tmp 8), none⟩,
             ⟨some 30, .idxSl 4 (.tmp 28) (.tmp 29), none⟩,
             ⟨some 31, .load true 4 (.tmp 30), none⟩,
             ⟨some 9, .alloc [.v (.int .i64 (0)), .v (.int .i64 (0)), .v (.int .i64 (0)), .v (.int .i64 (0))], none⟩,
             ⟨none, .store 4 (.tmp 9) (.tmp 31), none⟩] [1, 5, 7, 9, 12, 13, 14] []) <|
          .seq (.region [⟨some 32, .fieldAddr 0 (.tmp 9), none⟩,
             ⟨some 33, .load false 1 (.tmp 32), none⟩] [1, 5, 7, 9, 12, 13, 14, 33] []) <|
          .block 2 (
            .seq (.region [⟨some 35, .bin .eql (.tmp 33) (.const (.int .i64 (2))), none⟩,
               ⟨some 34, .mv (.tmp 35), none⟩] [1, 5, 7, 9, 12, 13, 14, 33, 34] []) <|
            .cond (.tmp 34)
              (.naming 5 (
                .region [⟨some 36, .mv (.tmp 5), none⟩,
                  ⟨some 37, .mv (.tmp 7), none⟩,
                  ⟨some 38, .mv (.tmp 7), none⟩,
                  ⟨some 39, .bslice 1 2 [.v (.int .i64 (0))] [(0, (.tmp 37)), (1, (.tmp 38))], none⟩,
                  ⟨some 40, .append 1 8 (.tmp 36) (.tmp 39), none⟩,
                  ⟨some 5, .mv (.tmp 40), none⟩] [1, 5, 12, 13, 14] []))
              (.seq (.region [⟨some 42, .bin .eql (.tmp 33) (.const (.int .i64 (3))), none⟩,
                 ⟨some 41, .mv (.tmp 42), none⟩] [1, 5, 7, 9, 12, 13, 14, 41] []) <|
              .cond (.tmp 41)
                (.seq (.region [⟨some 43, .mv (.tmp 7), none⟩,
                   ⟨some 44, .call (.func F.impl_wheelsShow) [(.const (.int .i64 (4))), (.tmp 43)] [], none⟩,
                   ⟨some 10, .alloc [.v (.slice none 0 0)], none⟩,
                   ⟨none, .store 1 (.tmp 10) (.tmp 44), none⟩] [1, 5, 9, 10, 12, 13, 14] []) <|
                .seq (.region [⟨some 45, .fieldAddr 0 (.tmp 10), none⟩,
                   ⟨some 46, .load false 1 (.tmp 45), none⟩,
                   ⟨some 47, .fieldAddr 2 (.tmp 9), none⟩,
                   ⟨some 48, .load false 1 (.tmp 47), none⟩,
                   ⟨some 49, .fieldAddr 3 (.tmp 9), none⟩,
                   ⟨some 50, .load false 1 (.tmp 49), none⟩,
                   ⟨some 51, .idxSl 1 (.tmp 46) (.tmp 48), none⟩,
                   ⟨none, .store 1 (.tmp 51) (.tmp 50), none⟩] [1, 5, 10, 12, 13, 14] []) <|
                .naming 5 (
                  .region [⟨some 52, .mv (.tmp 5), none⟩,
                    ⟨some 53, .load true 1 (.tmp 10), none⟩,
                    ⟨some 54, .call (.func F.impl_shown) [(.tmp 53)] [], none⟩,
                    ⟨some 55, .bslice 1 1 [.v (.int .i64 (0))] [(0, (.tmp 54))], none⟩,
                    ⟨some 56, .append 1 8 (.tmp 52) (.tmp 55), none⟩,
                    ⟨some 5, .mv (.tmp 56), none⟩] [1, 5, 12, 13, 14] []))
                (.skip))))) <|
       .region [⟨some 57, .bin .add (.tmp 14) (.const (.int .i64 (1))), none⟩,
         ⟨some 14, .mv (.tmp 57), none⟩] [1, 5, 12, 13, 14] []))) <|
  .seq (.region [⟨some 58, .mv (.tmp 5), none⟩,
     ⟨some 4, .mv (.tmp 58), none⟩] [4] []) <|
  .ret
theorem Cd.impl_amountsAfter_rs : Try.f31.results.toList = [.tmp 4] := rfl
theorem Cd.impl_amountsAfter_nt : Try.f31.ntmps = 59 := rfl
theorem Cd.impl_amountsAfter_ok : CodeIsR Try.prog 31 Try.f31 Cd.impl_amountsAfter := ⟨Try.func31, by kernel_rfl, by decide +kernel⟩
/-- loop.example/g01012/laws.eqFault -/
def Cd.laws_eqFault : ACode :=
  .seq (.region [⟨some 2, .box (.tmp 0), none⟩,
     ⟨some 3, .box (.tmp 1), none⟩,
     ⟨some 4, .mv (.const (.bool false)), none⟩] [2, 3] []) <|
  .seq (.seq (.region [⟨some 5, .fieldAddr 0 (.tmp 2), none⟩,
      ⟨some 6, .load false 1 (.tmp 5), none⟩,
      ⟨some 7, .fieldAddr 0 (.tmp 3), none⟩,
      ⟨some 8, .load false 1 (.tmp 7), none⟩,
      ⟨some 9, .bin .neq (.tmp 6) (.tmp 8), none⟩] [2, 3, 9] []) <|
   .cond (.tmp 9)
     (.seq (.region [⟨some 4, .mv (.const (.bool false)), none⟩] [4] []) <|
     .ret)
     (.skip)) <|
  .seq (.seq (.region [⟨some 10, .fieldAddr 1 (.tmp 2), none⟩,
      ⟨some 11, .load false 1 (.tmp 10), none⟩,
      ⟨some 12, .fieldAddr 1 (.tmp 3), none⟩,
      ⟨some 13, .load false 1 (.tmp 12), none⟩,
      ⟨some 14, .bin .neq (.tmp 11) (.tmp 13), none⟩] [2, 3, 14] []) <|
   .cond (.tmp 14)
     (.seq (.region [⟨some 4, .mv (.const (.bool false)), none⟩] [4] []) <|
     .ret)
     (.skip)) <|
  .seq (.seq (.region [⟨some 15, .fieldAddr 2 (.tmp 2), none⟩,
      ⟨some 16, .load false 1 (.tmp 15), none⟩,
      ⟨some 17, .fieldAddr 2 (.tmp 3), none⟩,
      ⟨some 18, .load false 1 (.tmp 17), none⟩,
      ⟨some 19, .bin .neq (.tmp 16) (.tmp 18), none⟩] [2, 3, 19] []) <|
   .cond (.tmp 19)
     (.seq (.region [⟨some 4, .mv (.const (.bool false)), none⟩] [4] []) <|
     .ret)
     (.skip)) <|
  .seq (.seq (.region [⟨some 20, .fieldAddr 3 (.tmp 2), none⟩,
      ⟨some 21, .load false 1 (.tmp 20), none⟩,
      ⟨some 22, .fieldAddr 3 (.tmp 3), none⟩,
      ⟨some 23, .load false 1 (.tmp 22), none⟩,
      ⟨some 24, .bin .neq (.tmp 21) (.tmp 23), none⟩] [24] []) <|
   .cond (.tmp 24)
     (.seq (.region [⟨some 4, .mv (.const (.bool false)), none⟩] [4] []) <|
     .ret)
     (.skip)) <|
  .seq (.region [⟨some 4, .mv (.const (.bool true)), none⟩] [4] []) <|
  .ret
theorem Cd.laws_eqFault_rs : Try.f32.results.toList = [.tmp 4] := rfl
theorem Cd.laws_eqFault_nt : Try.f32.ntmps = 25 := rfl
theorem Cd.laws_eqFault_ok : CodeIsR Try.prog 32 Try.f32 Cd.laws_eqFault := ⟨Try.func32, by kernel_rfl, by decide +kernel⟩
/-- loop.example/g01012/spec.l19Ok -/
def Cd.spec_l19Ok : ACode :=
  .seq (.region [⟨some 2, .mv (.const (.bool false)), none⟩] [0] []) <|
  .seq (.seq (.region [⟨some 3, .mv (.const (.int .i64 (0))), none⟩] [0, 3] []) <|
   .block 0 (
     .loop (
       .seq (.seq (.region [⟨some 4, .mv (.tmp 3), none⟩,
           ⟨some 5, .mv (.tmp 0), none⟩,
           ⟨some 6, .len (.tmp 5), none⟩,
           ⟨some 7, .bin .lss (.tmp 4) (.tmp 6), none⟩] [0, 3, 7] []) <|
        .cond (.tmp 7)
          (.skip)
          (.exit 0)) <|
       .seq (.block 1 (
          .seq (.region [⟨some 10, .mv (.tmp 0), none⟩,
             ⟨some 11, .mv (.tmp 3), none⟩,
             ⟨some 12, .idxSl 1 (.tmp 10) (.tmp 11), none⟩,
             ⟨some 13, .load false 1 (.tmp 12), none⟩,
             ⟨some 14, .call (.func F.spec_l00In) [(.tmp 13), (.const (.int .i64 (0))), (.const (.int .i64 (9999)))] [], none⟩,
             ⟨some 15, .un .not (.tmp 14), none⟩] [0, 3, 15] []) <|
          .cond (.tmp 15)
            (.seq (.region [⟨some 2, .mv (.const (.bool false)), none⟩] [2] []) <|
            .ret)
            (.skip))) <|
       .region [⟨some 8, .mv (.tmp 3), none⟩,
         ⟨some 9, .bin .add (.tmp 8) (.const (.int .i64 (1))), none⟩,
         ⟨some 3, .mv (.tmp 9), none⟩] [0, 3] []))) <|
  .seq (.region [⟨some 16, .mv (.tmp 0), none⟩,
     ⟨some 17, .len (.tmp 16), none⟩,
     ⟨some 18, .bin .leq (.tmp 17) (.const (.int .i64 (12))), none⟩,
     ⟨some 2, .mv (.tmp 18), none⟩] [2] []) <|
  .ret
theorem Cd.spec_l19Ok_rs : Try.f49.results.toList = [.tmp 2] := rfl
theorem Cd.spec_l19Ok_nt : Try.f49.ntmps = 19 := rfl
theorem Cd.spec_l19Ok_ok : CodeIsR Try.prog 49 Try.f49 Cd.spec_l19Ok := ⟨Try.func49, by kernel_rfl, by decide +kernel⟩
/-- loop.example/g01012/spec.l19Faults DRAWS -/
def Cd.spec_l19Faults : ACode :=
  .seq (.region [⟨some 4, .mv (.const (.bool false)), none⟩] [0, 1] []) <|
  .seq (.seq (.region [⟨some 5, .mv (.const (.int .i64 (0))), none⟩] [0, 1, 5] []) <|
   .block 0 (
     .loop (
       .seq (.seq (.region [⟨some 6, .mv (.tmp 5), none⟩,
           ⟨some 7, .mv (.tmp 1), none⟩,
           ⟨some 8, .len (.tmp 7), none⟩,
           ⟨some 9, .bin .lss (.tmp 6) (.tmp 8), none⟩] [0, 1, 5, 9] []) <|
        .cond (.tmp 9)
          (.skip)
          (.exit 0)) <|
       .seq (.block 1 (
          .seq (.region [⟨some 12, .mv (.tmp 0), none⟩,
             ⟨some 13, .mv (.tmp 1), none⟩,
             ⟨some 14, .mv (.tmp 5), none⟩,
             ⟨some 15, .idxSl 4 (.tmp 13) (.tmp 14), none⟩,
             ⟨some 16, .load true 4 (.tmp 15), none⟩,
             ⟨some 17, .call (.func F.spec_l19Fault) [(.tmp 12), (.tmp 16)] [], none⟩,
             ⟨some 18, .un .not (.tmp 17), none⟩,
             ⟨some 19, .mv (.tmp 18), none⟩,
             ⟨some 20, .mv (.tmp 5), some (19, false)⟩,
             ⟨some 21, .bin .gtr (.tmp 20) (.const (.int .i64 (0))), some (19, false)⟩,
             ⟨some 22, .mv (.tmp 21), some (19, false)⟩,
             ⟨some 23, .mv (.tmp 1), some (22, true)⟩,
             ⟨some 24, .mv (.tmp 5), some (22, true)⟩,
             ⟨some 25, .bin .sub (.tmp 24) (.const (.int .i64 (1))), some (22, true)⟩,
             ⟨some 26, .idxSl 4 (.tmp 23) (.tmp 25), some (22, true)⟩,
             ⟨some 27, .fieldAddr 1 (.tmp 26), some (22, true)⟩,
             ⟨some 28, .load false 1 (.tmp 27), some (22, true)⟩,
             ⟨some 29, .mv (.tmp 1), some (22, true)⟩,
             ⟨some 30, .mv (.tmp 5), some (22, true)⟩,
             ⟨some 31, .idxSl 4 (.tmp 29) (.tmp 30), some (22, true)⟩,
             ⟨some 32, .fieldAddr 1 (.tmp 31), some (22, true)⟩,
             ⟨some 33, .load false 1 (.tmp 32), some (22, true)⟩,
             ⟨some 34, .bin .geq (.tmp 28) (.tmp 33), some (22, true)⟩,
             ⟨some 35, .pick (.tmp 22) (.tmp 34) (.const (.bool false)), some (19, false)⟩,
             ⟨some 36, .pick (.tmp 19) (.const (.bool true)) (.tmp 35), none⟩] [0, 1, 5, 36] [12, 13, 14, 15, 16, 17, 18, 19, 20, 21, 22, 23, 24, 25, 26, 27, 28, 29, 30, 31, 32, 33, 34, 35, 36]) <|
          .cond (.tmp 36)
            (.seq (.region [⟨some 4, .mv (.const (.bool false)), none⟩] [4] []) <|
            .ret)
            (.skip))) <|
       .region [⟨some 10, .mv (.tmp 5), none⟩,
         ⟨some 11, .bin .add (.tmp 10) (.const (.int .i64 (1))), none⟩,
         ⟨some 5, .mv (.tmp 11), none⟩] [0, 1, 5] []))) <|
  .seq (.region [⟨some 37, .mv (.tmp 1), none⟩,
     ⟨some 38, .len (.tmp 37), none⟩,
     ⟨some 39, .bin .leq (.tmp 38) (.const (.int .i64 (2))), none⟩,
     ⟨some 4, .mv (.tmp 39), none⟩] [4] []) <|
  .ret
theorem Cd.spec_l19Faults_rs : Try.f50.results.toList = [.tmp 4] := rfl
theorem Cd.spec_l19Faults_nt : Try.f50.ntmps = 40 := rfl
theorem Cd.spec_l19Faults_ok : CodeIsR Try.prog 50 Try.f50 Cd.spec_l19Faults := ⟨Try.func50, by kernel_rfl, by decide +kernel⟩
/-- loop.example/g01012/spec.l19Read DRAWS -/
def Cd.spec_l19Read : ACode :=
  .seq (.region [⟨some 3, .box (.tmp 1), none⟩,
     ⟨some 4, .mv (.const (.int .i64 (0))), none⟩] [0, 3] []) <|
  .seq (.region [⟨some 6, .fieldAddr 2 (.tmp 3), none⟩,
     ⟨some 7, .load false 1 (.tmp 6), none⟩,
     ⟨some 8, .call (.func F.spec_l19Power) [(.tmp 7)] [], none⟩,
     ⟨some 5, .mv (.tmp 8), none⟩] [0, 3, 5] []) <|
  .seq (.region [⟨some 9, .mv (.tmp 0), none⟩,
     ⟨some 10, .fieldAddr 3 (.tmp 3), none⟩,
     ⟨some 11, .load false 1 (.tmp 10), none⟩,
     ⟨some 12, .mv (.tmp 0), none⟩,
     ⟨some 13, .mv (.tmp 5), none⟩,
     ⟨some 14, .bin .quo (.tmp 12) (.tmp 13), none⟩,
     ⟨some 15, .bin .rem (.tmp 14) (.const (.int .i64 (10))), none⟩,
     ⟨some 16, .bin .sub (.tmp 11) (.tmp 15), none⟩,
     ⟨some 17, .mv (.tmp 5), none⟩,
     ⟨some 18, .bin .mul (.tmp 16) (.tmp 17), none⟩,
     ⟨some 19, .bin .add (.tmp 9) (.tmp 18), none⟩,
     ⟨some 4, .mv (.tmp 19), none⟩] [4] [9, 10, 11, 12, 13, 14, 15, 16, 17, 18, 19]) <|
  .ret
theorem Cd.spec_l19Read_rs : Try.f51.results.toList = [.tmp 4] := rfl
theorem Cd.spec_l19Read_nt : Try.f51.ntmps = 20 := rfl
theorem Cd.spec_l19Read_ok : CodeIsR Try.prog 51 Try.f51 Cd.spec_l19Read := ⟨Try.func51, by kernel_rfl, by decide +kernel⟩
/-- loop.example/g01012/impl.ValidAmounts -/
def Cd.impl_ValidAmounts : ACode :=
  .seq (.region [⟨some 2, .mv (.const (.bool false)), none⟩] [0] []) <|
  .seq (.region [⟨some 3, .mv (.tmp 0), none⟩,
     ⟨some 4, .len (.tmp 3), none⟩,
     ⟨some 5, .bin .leq (.tmp 4) (.const (.int .i64 (12))), none⟩,
     ⟨some 6, .mv (.tmp 5), none⟩,
     ⟨some 7, .mv (.tmp 0), some (6, true)⟩,
     ⟨some 8, .call (.func F.slices_ContainsFunc___int64_int64_) [(.tmp 7), (.func F.impl_ValidAmounts_1)] [], some (6, true)⟩,
     ⟨some 9, .un .not (.tmp 8), some (6, true)⟩,
     ⟨some 10, .pick (.tmp 6) (.tmp 9) (.const (.bool false)), none⟩,
     ⟨some 2, .mv (.tmp 10), none⟩] [2] []) <|
  .ret
theorem Cd.impl_ValidAmounts_rs : Try.f52.results.toList = [.tmp 2] := rfl
theorem Cd.impl_ValidAmounts_nt : Try.f52.ntmps = 11 := rfl
theorem Cd.impl_ValidAmounts_ok : CodeIsR Try.prog 52 Try.f52 Cd.impl_ValidAmounts := ⟨Try.func52, by kernel_rfl, by decide +kernel⟩
/-- loop.example/g01012/impl.areFaults DRAWS -/
def Cd.impl_areFaults : ACode :=
  .seq (.region [⟨some 4, .mv (.const (.bool false)), none⟩] [0, 1] []) <|
  .seq (.seq (.region [⟨some 7, .mv (.tmp 1), none⟩,
      ⟨some 8, .len (.tmp 7), none⟩,
      ⟨some 9, .mv (.const (.int .i64 (0))), none⟩] [0, 1, 7, 8, 9] []) <|
   .block 0 (
     .loop (
       .seq (.region [⟨some 10, .bin .lss (.tmp 9) (.tmp 8), none⟩] [0, 1, 7, 8, 9, 10] []) <|
       .seq (.cond (.tmp 10)
          (.skip)
          (.exit 0)) <|
       .seq (.block 1 (
          .seq (.region [⟨some 11, .mv (.tmp 9), none⟩,
             ⟨some 12, .idxSl 4 (.tmp 7) (.tmp 9), none⟩,
             ⟨some 13, .load true 4 (.tmp 12), none⟩,
             ⟨some 6, .alloc [.v (.int .i64 (0)), .v (.int .i64 (0)), .v (.int .i64 (0)), .v (.int .i64 (0))], none⟩,
             ⟨some 5, .mv (.tmp 11), none⟩,
             ⟨none, .store 4 (.tmp 6) (.tmp 13), none⟩] [0, 1, 5, 6, 7, 8, 9] []) <|
          .seq (.seq (.region [⟨some 14, .load true 4 (.tmp 6), none⟩,
              ⟨some 15, .call (.func F.impl_isFault) [(.tmp 14)] [], none⟩,
              ⟨some 16, .un .not (.tmp 15), none⟩,
              ⟨some 17, .mv (.tmp 16), none⟩,
              ⟨some 18, .fieldAddr 1 (.tmp 6), some (17, false)⟩,
              ⟨some 19, .load false 1 (.tmp 18), some (17, false)⟩,
              ⟨some 20, .mv (.tmp 0), some (17, false)⟩,
              ⟨some 21, .call (.func F.impl_size_int64_) [(.tmp 20)] [], some (17, false)⟩,
              ⟨some 22, .bin .sub (.tmp 21) (.const (.int .i64 (1))), some (17, false)⟩,
              ⟨some 23, .call (.func F.impl_inside) [(.tmp 19), (.const (.int .i64 (0))), (.tmp 22)] [], some (17, false)⟩,
              ⟨some 24, .un .not (.tmp 23), some (17, false)⟩,
              ⟨some 25, .pick (.tmp 17) (.const (.bool true)) (.tmp 24), none⟩,
              ⟨some 26, .mv (.tmp 25), none⟩,
              ⟨some 27, .mv (.tmp 5), some (26, false)⟩,
              ⟨some 28, .bin .gtr (.tmp 27) (.const (.int .i64 (0))), some (26, false)⟩,
              ⟨some 29, .mv (.tmp 28), some (26, false)⟩,
              ⟨some 30, .mv (.tmp 1), some (29, true)⟩,
              ⟨some 31, .mv (.tmp 5), some (29, true)⟩,
              ⟨some 32, .bin .sub (.tmp 31) (.const (.int .i64 (1))), some (29, true)⟩,
              ⟨some 33, .idxSl 4 (.tmp 30) (.tmp 32), some (29, true)⟩,
              ⟨some 34, .fieldAddr 1 (.tmp 33), some (29, true)⟩,
              ⟨some 35, .load false 1 (.tmp 34), some (29, true)⟩,
              ⟨some 36, .fieldAddr 1 (.tmp 6), some (29, true)⟩,
              ⟨some 37, .load false 1 (.tmp 36), some (29, true)⟩,
              ⟨some 38, .bin .geq (.tmp 35) (.tmp 37), some (29, true)⟩,
              ⟨some 39, .pick (.tmp 29) (.tmp 38) (.const (.bool false)), some (26, false)⟩,
              ⟨some 40, .pick (.tmp 26) (.const (.bool true)) (.tmp 39), none⟩] [0, 1, 6, 7, 8, 9, 40] [14, 16, 17, 18, 15, 19, 20, 21, 22, 23, 24, 25, 26, 27, 28, 29, 30, 31, 32, 33, 34, 35, 36, 37, 38, 39, 40]) <|
           .cond (.tmp 40)
             (.seq (.region [⟨some 4, .mv (.const (.bool false)), none⟩] [4] []) <|
             .ret)
             (.skip)) <|
          .seq (.region [⟨some 41, .fieldAddr 0 (.tmp 6), none⟩,
             ⟨some 42, .load false 1 (.tmp 41), none⟩,
             ⟨some 43, .bin .eql (.tmp 42) (.const (.int .i64 (3))), none⟩,
             ⟨some 44, .mv (.tmp 43), none⟩,
             ⟨some 45, .mv (.tmp 0), some (44, true)⟩,
             ⟨some 46, .fieldAddr 1 (.tmp 6), some (44, true)⟩,
             ⟨some 47, .load false 1 (.tmp 46), some (44, true)⟩,
             ⟨some 48, .idxSl 1 (.tmp 45) (.tmp 47), some (44, true)⟩,
             ⟨some 49, .load false 1 (.tmp 48), some (44, true)⟩,
             ⟨some 50, .fieldAddr 2 (.tmp 6), some (44, true)⟩,
             ⟨some 51, .load false 1 (.tmp 50), some (44, true)⟩,
             ⟨some 52, .call (.func F.impl_digitAt) [(.tmp 49), (.tmp 51)] [], some (44, true)⟩,
             ⟨some 53, .fieldAddr 3 (.tmp 6), some (44, true)⟩,
             ⟨some 54, .load false 1 (.tmp 53), some (44, true)⟩,
             ⟨some 55, .bin .eql (.tmp 52) (.tmp 54), some (44, true)⟩,
             ⟨some 56, .pick (.tmp 44) (.tmp 55) (.const (.bool false)), none⟩] [0, 1, 7, 8, 9, 56] [41, 43, 44, 42, 45, 46, 47, 48, 49, 50, 51, 52, 53, 54, 55, 56]) <|
          .cond (.tmp 56)
            (.seq (.region [⟨some 4, .mv (.const (.bool false)), none⟩] [4] []) <|
            .ret)
            (.skip))) <|
       .region [⟨some 57, .bin .add (.tmp 9) (.const (.int .i64 (1))), none⟩,
         ⟨some 9, .mv (.tmp 57), none⟩] [0, 1, 7, 8, 9] []))) <|
  .seq (.region [⟨some 58, .mv (.tmp 1), none⟩,
     ⟨some 59, .len (.tmp 58), none⟩,
     ⟨some 60, .bin .leq (.tmp 59) (.const (.int .i64 (2))), none⟩,
     ⟨some 4, .mv (.tmp 60), none⟩] [4] []) <|
  .ret
theorem Cd.impl_areFaults_rs : Try.f53.results.toList = [.tmp 4] := rfl
theorem Cd.impl_areFaults_nt : Try.f53.ntmps = 61 := rfl
theorem Cd.impl_areFaults_ok : CodeIsR Try.prog 53 Try.f53 Cd.impl_areFaults := ⟨Try.func53, by kernel_rfl, by decide +kernel⟩
/-- slices.IndexFunc[[]loop.example/g01012/impl.Fault,loop.example/g01012/impl.Fault] -/
def Cd.slices_IndexFunc___impl_Fault_impl_Fault_ : ACode :=
  .seq (.region [⟨some 4, .mv (.const (.int .i64 (0))), none⟩] [0, 1] []) <|
  .seq (.seq (.region [⟨some 6, .mv (.tmp 0), none⟩,
      ⟨some 7, .len (.tmp 6), none⟩,
      ⟨some 8, .mv (.const (.int .i64 (0))), none⟩] [0, 1, 7, 8] []) <|
   .block 0 (
     .loop (
       .seq (.region [⟨some 9, .bin .lss (.tmp 8) (.tmp 7), none⟩] [0, 1, 7, 8, 9] []) <|
       .seq (.cond (.tmp 9)
          (.skip)
          (.exit 0)) <|
       .seq (.block 1 (
          .seq (.region [⟨some 10, .mv (.tmp 8), none⟩,
             ⟨some 5, .mv (.tmp 10), none⟩] [0, 1, 5, 7, 8] []) <|
          .seq (.region [⟨some 11, .mv (.tmp 1), none⟩,
             ⟨some 12, .mv (.tmp 0), none⟩,
             ⟨some 13, .mv (.tmp 5), none⟩,
             ⟨some 14, .idxSl 4 (.tmp 12) (.tmp 13), none⟩,
             ⟨some 15, .load true 4 (.tmp 14), none⟩,
             ⟨some 16, .call (.tmp 11) [(.tmp 15)] [], none⟩] [0, 1, 5, 7, 8, 16] []) <|
          .cond (.tmp 16)
            (.seq (.region [⟨some 17, .mv (.tmp 5), none⟩,
               ⟨some 4, .mv (.tmp 17), none⟩] [4] []) <|
            .ret)
            (.skip))) <|
       .region [⟨some 18, .bin .add (.tmp 8) (.const (.int .i64 (1))), none⟩,
         ⟨some 8, .mv (.tmp 18), none⟩] [0, 1, 7, 8] []))) <|
  .seq (.region [⟨some 4, .mv (.const (.int .i64 (-1))), none⟩] [4] []) <|
  .ret
theorem Cd.slices_IndexFunc___impl_Fault_impl_Fault__rs : Try.f54.results.toList = [.tmp 4] := rfl
theorem Cd.slices_IndexFunc___impl_Fault_impl_Fault__nt : Try.f54.ntmps = 19 := rfl
theorem Cd.slices_IndexFunc___impl_Fault_impl_Fault__ok : CodeIsR Try.prog 54 Try.f54 Cd.slices_IndexFunc___impl_Fault_impl_Fault_ := ⟨Try.func54, by kernel_rfl, by decide +kernel⟩
/-- loop.example/g01012/impl.amountsAfter$1 -/
def Cd.impl_amountsAfter_1 : ACode :=
  .seq (.region [⟨some 2, .box (.tmp 0), none⟩,
     ⟨some 3, .mv (.const (.bool false)), none⟩] [1, 2] []) <|
  .seq (.region [⟨some 4, .fieldAddr 1 (.tmp 2), none⟩,
     ⟨some 5, .load false 1 (.tmp 4), none⟩,
     ⟨some 6, .load false 1 (.tmp 1), none⟩,
     ⟨some 7, .bin .eql (.tmp 5) (.tmp 6), none⟩,
     ⟨some 3, .mv (.tmp 7), none⟩] [3] []) <|
  .ret
theorem Cd.impl_amountsAfter_1_rs : Try.f55.results.toList = [.tmp 3] := rfl
theorem Cd.impl_amountsAfter_1_nt : Try.f55.ntmps = 8 := rfl
theorem Cd.impl_amountsAfter_1_ok : CodeIsR Try.prog 55 Try.f55 Cd.impl_amountsAfter_1 := ⟨Try.func55, by kernel_rfl, by decide +kernel⟩
/-- loop.example/g01012/impl.wheelsShow -/
def Cd.impl_wheelsShow : ACode :=
  .seq (.region [⟨some 4, .alloc [.v (.slice none 0 0)], none⟩] [0, 1, 4] []) <|
  .seq (.region [⟨some 6, .bslice 1 0 [.v (.int .i64 (0))] [], none⟩,
     ⟨some 7, .build [.v (.slice none 0 0)] [(0, 1, (.tmp 6))], none⟩,
     ⟨some 5, .alloc [.v (.slice none 0 0)], none⟩,
     ⟨none, .store 1 (.tmp 5) (.tmp 7), none⟩] [0, 1, 4, 5] []) <|
  .seq (.seq (.region [⟨some 8, .mv (.tmp 0), none⟩,
      ⟨some 9, .mv (.const (.int .i64 (0))), none⟩] [1, 4, 5, 8, 9] []) <|
   .block 0 (
     .loop (
       .seq (.region [⟨some 10, .bin .lss (.tmp 9) (.tmp 8), none⟩] [1, 4, 5, 8, 9, 10] []) <|
       .seq (.cond (.tmp 10)
          (.skip)
          (.exit 0)) <|
       .seq (.block 1 (
          .seq (.region [⟨some 11, .fieldAddr 0 (.tmp 5), none⟩,
             ⟨some 12, .load false 1 (.tmp 11), none⟩,
             ⟨some 13, .mv (.tmp 1), none⟩,
             ⟨some 14, .bin .rem (.tmp 13) (.const (.int .i64 (10))), none⟩,
             ⟨some 15, .bslice 1 1 [.v (.int .i64 (0))] [(0, (.tmp 14))], none⟩,
             ⟨some 16, .append 1 8 (.tmp 12) (.tmp 15), none⟩,
             ⟨some 17, .fieldAddr 0 (.tmp 5), none⟩,
             ⟨none, .store 1 (.tmp 17) (.tmp 16), none⟩] [1, 4, 5, 8, 9] []) <|
          .region [⟨some 18, .mv (.tmp 1), none⟩,
            ⟨some 19, .bin .quo (.tmp 18) (.const (.int .i64 (10))), none⟩,
            ⟨some 1, .mv (.tmp 19), none⟩] [1, 4, 5, 8, 9] [])) <|
       .region [⟨some 20, .bin .add (.tmp 9) (.const (.int .i64 (1))), none⟩,
         ⟨some 9, .mv (.tmp 20), none⟩] [1, 4, 5, 8, 9] []))) <|
  .seq (.region [⟨some 21, .load true 1 (.tmp 5), none⟩,
     ⟨none, .store 1 (.tmp 4) (.tmp 21), none⟩] [4] []) <|
  .ret
theorem Cd.impl_wheelsShow_rs : Try.f56.results.toList = [.cell 4 89] := rfl
theorem Cd.impl_wheelsShow_nt : Try.f56.ntmps = 22 := rfl
theorem Cd.impl_wheelsShow_ok : CodeIsR Try.prog 56 Try.f56 Cd.impl_wheelsShow := ⟨Try.func56, by kernel_rfl, by decide +kernel⟩
/-- loop.example/g01012/impl.shown -/
def Cd.impl_shown : ACode :=
  .seq (.region [⟨some 1, .box (.tmp 0), none⟩,
     ⟨some 2, .mv (.const (.int .i64 (0))), none⟩] [1] []) <|
  .seq (.region [⟨some 3, .mv (.const (.int .i64 (0))), none⟩] [1, 3] []) <|
  .seq (.seq (.region [⟨some 5, .fieldAddr 0 (.tmp 1), none⟩,
      ⟨some 6, .load false 1 (.tmp 5), none⟩,
      ⟨some 7, .len (.tmp 6), none⟩,
      ⟨some 8, .bin .sub (.tmp 7) (.const (.int .i64 (1))), none⟩,
      ⟨some 4, .mv (.tmp 8), none⟩] [1, 3, 4] []) <|
   .block 0 (
     .loop (
       .seq (.seq (.region [⟨some 9, .mv (.tmp 4), none⟩,
           ⟨some 10, .bin .geq (.tmp 9) (.const (.int .i64 (0))), none⟩] [1, 3, 4, 10] []) <|
        .cond (.tmp 10)
          (.skip)
          (.exit 0)) <|
       .seq (.block 1 (
          .region [⟨some 13, .mv (.tmp 3), none⟩,
            ⟨some 14, .bin .mul (.const (.int .i64 (10))) (.tmp 13), none⟩,
            ⟨some 15, .fieldAddr 0 (.tmp 1), none⟩,
            ⟨some 16, .load false 1 (.tmp 15), none⟩,
            ⟨some 17, .mv (.tmp 4), none⟩,
            ⟨some 18, .idxSl 1 (.tmp 16) (.tmp 17), none⟩,
            ⟨some 19, .load false 1 (.tmp 18), none⟩,
            ⟨some 20, .bin .add (.tmp 14) (.tmp 19), none⟩,
            ⟨some 3, .mv (.tmp 20), none⟩] [1, 3, 4] [])) <|
       .region [⟨some 11, .mv (.tmp 4), none⟩,
         ⟨some 12, .bin .sub (.tmp 11) (.const (.int .i64 (1))), none⟩,
         ⟨some 4, .mv (.tmp 12), none⟩] [1, 3, 4] []))) <|
  .seq (.region [⟨some 21, .mv (.tmp 3), none⟩,
     ⟨some 2, .mv (.tmp 21), none⟩] [2] []) <|
  .ret
theorem Cd.impl_shown_rs : Try.f57.results.toList = [.tmp 2] := rfl
theorem Cd.impl_shown_nt : Try.f57.ntmps = 22 := rfl
theorem Cd.impl_shown_ok : CodeIsR Try.prog 57 Try.f57 Cd.impl_shown := ⟨Try.func57, by kernel_rfl, by decide +kernel⟩
/-- loop.example/g01012/impl.inside -/
def Cd.impl_inside : ACode :=
  .seq (.region [⟨some 6, .mv (.const (.bool false)), none⟩] [0, 1, 2] []) <|
  .seq (.region [⟨some 7, .mv (.tmp 0), none⟩,
     ⟨some 8, .mv (.tmp 1), none⟩,
     ⟨some 9, .bin .geq (.tmp 7) (.tmp 8), none⟩,
     ⟨some 10, .mv (.tmp 9), none⟩,
     ⟨some 11, .mv (.tmp 0), some (10, true)⟩,
     ⟨some 12, .mv (.tmp 2), some (10, true)⟩,
     ⟨some 13, .bin .leq (.tmp 11) (.tmp 12), some (10, true)⟩,
     ⟨some 14, .pick (.tmp 10) (.tmp 13) (.const (.bool false)), none⟩,
     ⟨some 6, .mv (.tmp 14), none⟩] [6] []) <|
  .ret
theorem Cd.impl_inside_rs : Try.f60.results.toList = [.tmp 6] := rfl
theorem Cd.impl_inside_nt : Try.f60.ntmps = 15 := rfl
theorem Cd.impl_inside_ok : CodeIsR Try.prog 60 Try.f60 Cd.impl_inside := ⟨Try.func60, by kernel_rfl, by decide +kernel⟩
/-- loop.example/g01012/spec.l00In -/
def Cd.spec_l00In : ACode :=
  .seq (.region [⟨some 6, .mv (.const (.bool false)), none⟩] [0, 1, 2] []) <|
  .seq (.region [⟨some 7, .mv (.tmp 0), none⟩,
     ⟨some 8, .mv (.tmp 1), none⟩,
     ⟨some 9, .bin .geq (.tmp 7) (.tmp 8), none⟩,
     ⟨some 10, .mv (.tmp 9), none⟩,
     ⟨some 11, .mv (.tmp 0), some (10, true)⟩,
     ⟨some 12, .mv (.tmp 2), some (10, true)⟩,
     ⟨some 13, .bin .leq (.tmp 11) (.tmp 12), some (10, true)⟩,
     ⟨some 14, .pick (.tmp 10) (.tmp 13) (.const (.bool false)), none⟩,
     ⟨some 6, .mv (.tmp 14), none⟩] [6] []) <|
  .ret
theorem Cd.spec_l00In_rs : Try.f66.results.toList = [.tmp 6] := rfl
theorem Cd.spec_l00In_nt : Try.f66.ntmps = 15 := rfl
theorem Cd.spec_l00In_ok : CodeIsR Try.prog 66 Try.f66 Cd.spec_l00In := ⟨Try.func66, by kernel_rfl, by decide +kernel⟩
/-- loop.example/g01012/spec.l19Fault DRAWS -/
def Cd.spec_l19Fault : ACode :=
  .seq (.region [⟨some 3, .box (.tmp 1), none⟩,
     ⟨some 4, .mv (.const (.bool false)), none⟩] [0, 3] []) <|
  .seq (.seq (.region [⟨some 5, .load true 4 (.tmp 3), none⟩,
      ⟨some 6, .call (.func F.spec_l19Form) [(.tmp 5)] [], none⟩,
      ⟨some 7, .un .not (.tmp 6), none⟩,
      ⟨some 8, .mv (.tmp 7), none⟩,
      ⟨some 9, .fieldAddr 1 (.tmp 3), some (8, false)⟩,
      ⟨some 10, .load false 1 (.tmp 9), some (8, false)⟩,
      ⟨some 11, .mv (.tmp 0), some (8, false)⟩,
      ⟨some 12, .len (.tmp 11), some (8, false)⟩,
      ⟨some 13, .bin .geq (.tmp 10) (.tmp 12), some (8, false)⟩,
      ⟨some 14, .pick (.tmp 8) (.const (.bool true)) (.tmp 13), none⟩] [0, 3, 14] []) <|
   .cond (.tmp 14)
     (.seq (.region [⟨some 4, .mv (.const (.bool false)), none⟩] [4] []) <|
     .ret)
     (.skip)) <|
  .seq (.region [⟨some 15, .fieldAddr 0 (.tmp 3), none⟩,
     ⟨some 16, .load false 1 (.tmp 15), none⟩,
     ⟨some 17, .bin .neq (.tmp 16) (.const (.int .i64 (3))), none⟩,
     ⟨some 18, .mv (.tmp 17), none⟩,
     ⟨some 19, .mv (.tmp 0), some (18, false)⟩,
     ⟨some 20, .fieldAddr 1 (.tmp 3), some (18, false)⟩,
     ⟨some 21, .load false 1 (.tmp 20), some (18, false)⟩,
     ⟨some 22, .idxSl 1 (.tmp 19) (.tmp 21), some (18, false)⟩,
     ⟨some 23, .load false 1 (.tmp 22), some (18, false)⟩,
     ⟨some 24, .fieldAddr 2 (.tmp 3), some (18, false)⟩,
     ⟨some 25, .load false 1 (.tmp 24), some (18, false)⟩,
     ⟨some 26, .call (.func F.spec_l19Power) [(.tmp 25)] [], some (18, false)⟩,
     ⟨some 27, .bin .quo (.tmp 23) (.tmp 26), some (18, false)⟩,
     ⟨some 28, .bin .rem (.tmp 27) (.const (.int .i64 (10))), some (18, false)⟩,
     ⟨some 29, .fieldAddr 3 (.tmp 3), some (18, false)⟩,
     ⟨some 30, .load false 1 (.tmp 29), some (18, false)⟩,
     ⟨some 31, .bin .neq (.tmp 28) (.tmp 30), some (18, false)⟩,
     ⟨some 32, .pick (.tmp 18) (.const (.bool true)) (.tmp 31), none⟩,
     ⟨some 4, .mv (.tmp 32), none⟩] [4] [15, 17, 18, 16, 19, 20, 21, 22, 23, 24, 25, 26, 27, 28, 29, 30, 31, 32]) <|
  .ret
theorem Cd.spec_l19Fault_rs : Try.f70.results.toList = [.tmp 4] := rfl
theorem Cd.spec_l19Fault_nt : Try.f70.ntmps = 33 := rfl
theorem Cd.spec_l19Fault_ok : CodeIsR Try.prog 70 Try.f70 Cd.spec_l19Fault := ⟨Try.func70, by kernel_rfl, by decide +kernel⟩
/-- loop.example/g01012/spec.l19Power -/
def Cd.spec_l19Power : ACode :=
  .seq (.region [⟨some 2, .mv (.const (.int .i64 (0))), none⟩] [0] []) <|
  .seq (.region [⟨some 3, .mv (.const (.int .i64 (1))), none⟩] [0, 3] []) <|
  .seq (.block 0 (
     .loop (
       .seq (.seq (.region [⟨some 4, .mv (.tmp 0), none⟩,
           ⟨some 5, .bin .gtr (.tmp 4) (.const (.int .i64 (0))), none⟩] [0, 3, 5] []) <|
        .cond (.tmp 5)
          (.skip)
          (.exit 0)) <|
       .seq (.block 1 (
          .region [⟨some 8, .mv (.tmp 3), none⟩,
            ⟨some 9, .bin .mul (.tmp 8) (.const (.int .i64 (10))), none⟩,
            ⟨some 3, .mv (.tmp 9), none⟩] [0, 3] [])) <|
       .region [⟨some 6, .mv (.tmp 0), none⟩,
         ⟨some 7, .bin .sub (.tmp 6) (.const (.int .i64 (1))), none⟩,
         ⟨some 0, .mv (.tmp 7), none⟩] [0, 3] []))) <|
  .seq (.region [⟨some 10, .mv (.tmp 3), none⟩,
     ⟨some 2, .mv (.tmp 10), none⟩] [2] []) <|
  .ret
theorem Cd.spec_l19Power_rs : Try.f71.results.toList = [.tmp 2] := rfl
theorem Cd.spec_l19Power_nt : Try.f71.ntmps = 11 := rfl
theorem Cd.spec_l19Power_ok : CodeIsR Try.prog 71 Try.f71 Cd.spec_l19Power := ⟨Try.func71, by kernel_rfl, by decide +kernel⟩
/-- slices.ContainsFunc[[]int64,int64] -/
def Cd.slices_ContainsFunc___int64_int64_ : ACode :=
  .seq (.region [⟨some 4, .mv (.const (.bool false)), none⟩] [0, 1] []) <|
  .seq (.region [⟨some 5, .mv (.tmp 0), none⟩,
     ⟨some 6, .mv (.tmp 1), none⟩,
     ⟨some 7, .call (.func F.slices_IndexFunc___int64_int64_) [(.tmp 5), (.tmp 6)] [], none⟩,
     ⟨some 8, .bin .geq (.tmp 7) (.const (.int .i64 (0))), none⟩,
     ⟨some 4, .mv (.tmp 8), none⟩] [4] []) <|
  .ret
theorem Cd.slices_ContainsFunc___int64_int64__rs : Try.f72.results.toList = [.tmp 4] := rfl
theorem Cd.slices_ContainsFunc___int64_int64__nt : Try.f72.ntmps = 9 := rfl
theorem Cd.slices_ContainsFunc___int64_int64__ok : CodeIsR Try.prog 72 Try.f72 Cd.slices_ContainsFunc___int64_int64_ := ⟨Try.func72, by kernel_rfl, by decide +kernel⟩
/-- loop.example/g01012/impl.ValidAmounts$1 -/
def Cd.impl_ValidAmounts_1 : ACode :=
  .seq (.region [⟨some 2, .mv (.const (.bool false)), none⟩] [0] []) <|
  .seq (.region [⟨some 3, .mv (.tmp 0), none⟩,
     ⟨some 4, .call (.func F.impl_inside) [(.tmp 3), (.const (.int .i64 (0))), (.const (.int .i64 (9999)))] [], none⟩,
     ⟨some 5, .un .not (.tmp 4), none⟩,
     ⟨some 2, .mv (.tmp 5), none⟩] [2] []) <|
  .ret
theorem Cd.impl_ValidAmounts_1_rs : Try.f73.results.toList = [.tmp 2] := rfl
theorem Cd.impl_ValidAmounts_1_nt : Try.f73.ntmps = 6 := rfl
theorem Cd.impl_ValidAmounts_1_ok : CodeIsR Try.prog 73 Try.f73 Cd.impl_ValidAmounts_1 := ⟨Try.func73, by kernel_rfl, by decide +kernel⟩
/-- loop.example/g01012/impl.isFault -/
def Cd.impl_isFault : ACode :=
  .seq (.region [⟨some 1, .box (.tmp 0), none⟩,
     ⟨some 2, .mv (.const (.bool false)), none⟩] [1] []) <|
  .seq (.seq (.region [⟨some 3, .fieldAddr 0 (.tmp 1), none⟩,
      ⟨some 4, .load false 1 (.tmp 3), none⟩,
      ⟨some 5, .bin .eql (.tmp 4) (.const (.int .i64 (3))), none⟩] [1, 5] []) <|
   .cond (.tmp 5)
     (.seq (.region [⟨some 6, .fieldAddr 2 (.tmp 1), none⟩,
        ⟨some 7, .load false 1 (.tmp 6), none⟩,
        ⟨some 8, .call (.func F.impl_inside) [(.tmp 7), (.const (.int .i64 (0))), (.const (.int .i64 (3)))] [], none⟩,
        ⟨some 9, .mv (.tmp 8), none⟩,
        ⟨some 10, .fieldAddr 3 (.tmp 1), some (9, true)⟩,
        ⟨some 11, .load false 1 (.tmp 10), some (9, true)⟩,
        ⟨some 12, .call (.func F.impl_inside) [(.tmp 11), (.const (.int .i64 (0))), (.const (.int .i64 (9)))] [], some (9, true)⟩,
        ⟨some 13, .pick (.tmp 9) (.tmp 12) (.const (.bool false)), none⟩,
        ⟨some 2, .mv (.tmp 13), none⟩] [2] []) <|
     .ret)
     (.skip)) <|
  .seq (.region [⟨some 14, .fieldAddr 0 (.tmp 1), none⟩,
     ⟨some 15, .load false 1 (.tmp 14), none⟩,
     ⟨some 16, .call (.func F.impl_inside) [(.tmp 15), (.const (.int .i64 (1))), (.const (.int .i64 (2)))] [], none⟩,
     ⟨some 17, .mv (.tmp 16), none⟩,
     ⟨some 18, .fieldAddr 2 (.tmp 1), some (17, true)⟩,
     ⟨some 19, .load false 1 (.tmp 18), some (17, true)⟩,
     ⟨some 20, .bin .eql (.tmp 19) (.const (.int .i64 (0))), some (17, true)⟩,
     ⟨some 21, .pick (.tmp 17) (.tmp 20) (.const (.bool false)), none⟩,
     ⟨some 22, .mv (.tmp 21), none⟩,
     ⟨some 23, .fieldAddr 3 (.tmp 1), some (22, true)⟩,
     ⟨some 24, .load false 1 (.tmp 23), some (22, true)⟩,
     ⟨some 25, .bin .eql (.tmp 24) (.const (.int .i64 (0))), some (22, true)⟩,
     ⟨some 26, .pick (.tmp 22) (.tmp 25) (.const (.bool false)), none⟩,
     ⟨some 2, .mv (.tmp 26), none⟩] [2] []) <|
  .ret
theorem Cd.impl_isFault_rs : Try.f74.results.toList = [.tmp 2] := rfl
theorem Cd.impl_isFault_nt : Try.f74.ntmps = 27 := rfl
theorem Cd.impl_isFault_ok : CodeIsR Try.prog 74 Try.f74 Cd.impl_isFault := ⟨Try.func74, by kernel_rfl, by decide +kernel⟩
/-- loop.example/g01012/impl.size[int64] -/
def Cd.impl_size_int64_ : ACode :=
  .seq (.region [⟨some 2, .mv (.const (.int .i64 (0))), none⟩] [0] []) <|
  .seq (.region [⟨some 3, .mv (.tmp 0), none⟩,
     ⟨some 4, .len (.tmp 3), none⟩,
     ⟨some 2, .mv (.tmp 4), none⟩] [2] []) <|
  .ret
theorem Cd.impl_size_int64__rs : Try.f75.results.toList = [.tmp 2] := rfl
theorem Cd.impl_size_int64__nt : Try.f75.ntmps = 5 := rfl
theorem Cd.impl_size_int64__ok : CodeIsR Try.prog 75 Try.f75 Cd.impl_size_int64_ := ⟨Try.func75, by kernel_rfl, by decide +kernel⟩
/-- loop.example/g01012/impl.digitAt -/
def Cd.impl_digitAt : ACode :=
  .seq (.region [⟨some 4, .mv (.const (.int .i64 (0))), none⟩] [0, 1] []) <|
  .seq (.region [⟨some 5, .mv (.tmp 0), none⟩,
     ⟨some 6, .call (.func F.impl_wheelsShow) [(.const (.int .i64 (4))), (.tmp 5)] [], none⟩,
     ⟨some 7, .field false 0 1 (.tmp 6), none⟩,
     ⟨some 8, .mv (.tmp 1), none⟩,
     ⟨some 9, .idxSl 1 (.tmp 7) (.tmp 8), none⟩,
     ⟨some 10, .load false 1 (.tmp 9), none⟩,
     ⟨some 4, .mv (.tmp 10), none⟩] [4] []) <|
  .ret
theorem Cd.impl_digitAt_rs : Try.f76.results.toList = [.tmp 4] := rfl
theorem Cd.impl_digitAt_nt : Try.f76.ntmps = 11 := rfl
theorem Cd.impl_digitAt_ok : CodeIsR Try.prog 76 Try.f76 Cd.impl_digitAt := ⟨Try.func76, by kernel_rfl, by decide +kernel⟩
/-- loop.example/g01012/spec.l19Form -/
def Cd.spec_l19Form : ACode :=
  .seq (.region [⟨some 1, .box (.tmp 0), none⟩,
     ⟨some 2, .mv (.const (.bool false)), none⟩] [1] []) <|
  .seq (.seq (.region [⟨some 3, .fieldAddr 0 (.tmp 1), none⟩,
      ⟨some 4, .load false 1 (.tmp 3), none⟩,
      ⟨some 5, .call (.func F.spec_l00In) [(.tmp 4), (.const (.int .i64 (1))), (.const (.int .i64 (3)))] [], none⟩,
      ⟨some 6, .un .not (.tmp 5), none⟩,
      ⟨some 7, .mv (.tmp 6), none⟩,
      ⟨some 8, .fieldAddr 1 (.tmp 1), some (7, false)⟩,
      ⟨some 9, .load false 1 (.tmp 8), some (7, false)⟩,
      ⟨some 10, .call (.func F.spec_l00In) [(.tmp 9), (.const (.int .i64 (0))), (.const (.int .i64 (11)))] [], some (7, false)⟩,
      ⟨some 11, .un .not (.tmp 10), some (7, false)⟩,
      ⟨some 12, .pick (.tmp 7) (.const (.bool true)) (.tmp 11), none⟩] [1, 12] []) <|
   .cond (.tmp 12)
     (.seq (.region [⟨some 2, .mv (.const (.bool false)), none⟩] [2] []) <|
     .ret)
     (.skip)) <|
  .seq (.seq (.region [⟨some 13, .fieldAddr 0 (.tmp 1), none⟩,
      ⟨some 14, .load false 1 (.tmp 13), none⟩,
      ⟨some 15, .bin .eql (.tmp 14) (.const (.int .i64 (3))), none⟩] [1, 15] []) <|
   .cond (.tmp 15)
     (.seq (.region [⟨some 16, .fieldAddr 2 (.tmp 1), none⟩,
        ⟨some 17, .load false 1 (.tmp 16), none⟩,
        ⟨some 18, .call (.func F.spec_l00In) [(.tmp 17), (.const (.int .i64 (0))), (.const (.int .i64 (3)))] [], none⟩,
        ⟨some 19, .mv (.tmp 18), none⟩,
        ⟨some 20, .fieldAddr 3 (.tmp 1), some (19, true)⟩,
        ⟨some 21, .load false 1 (.tmp 20), some (19, true)⟩,
        ⟨some 22, .call (.func F.spec_l00In) [(.tmp 21), (.const (.int .i64 (0))), (.const (.int .i64 (9)))] [], some (19, true)⟩,
        ⟨some 23, .pick (.tmp 19) (.tmp 22) (.const (.bool false)), none⟩,
        ⟨some 2, .mv (.tmp 23), none⟩] [2] []) <|
     .ret)
     (.skip)) <|
  .seq (.region [⟨some 24, .fieldAddr 2 (.tmp 1), none⟩,
     ⟨some 25, .load false 1 (.tmp 24), none⟩,
     ⟨some 26, .bin .eql (.tmp 25) (.const (.int .i64 (0))), none⟩,
     ⟨some 27, .mv (.tmp 26), none⟩,
     ⟨some 28, .fieldAddr 3 (.tmp 1), some (27, true)⟩,
     ⟨some 29, .load false 1 (.tmp 28), some (27, true)⟩,
     ⟨some 30, .bin .eql (.tmp 29) (.const (.int .i64 (0))), some (27, true)⟩,
     ⟨some 31, .pick (.tmp 27) (.tmp 30) (.const (.bool false)), none⟩,
     ⟨some 2, .mv (.tmp 31), none⟩] [2] []) <|
  .ret
theorem Cd.spec_l19Form_rs : Try.f82.results.toList = [.tmp 2] := rfl
theorem Cd.spec_l19Form_nt : Try.f82.ntmps = 32 := rfl
theorem Cd.spec_l19Form_ok : CodeIsR Try.prog 82 Try.f82 Cd.spec_l19Form := ⟨Try.func82, by kernel_rfl, by decide +kernel⟩
/-- slices.IndexFunc[[]int64,int64] -/
def Cd.slices_IndexFunc___int64_int64_ : ACode :=
  .seq (.region [⟨some 4, .mv (.const (.int .i64 (0))), none⟩] [0, 1] []) <|
  .seq (.seq (.region [⟨some 6, .mv (.tmp 0), none⟩,
      ⟨some 7, .len (.tmp 6), none⟩,
      ⟨some 8, .mv (.const (.int .i64 (0))), none⟩] [0, 1, 7, 8] []) <|
   .block 0 (
     .loop (
       .seq (.region [⟨some 9, .bin .lss (.tmp 8) (.tmp 7), none⟩] [0, 1, 7, 8, 9] []) <|
       .seq (.cond (.tmp 9)
          (.skip)
          (.exit 0)) <|
       .seq (.block 1 (
          .seq (.region [⟨some 10, .mv (.tmp 8), none⟩,
             ⟨some 5, .mv (.tmp 10), none⟩] [0, 1, 5, 7, 8] []) <|
          .seq (.region [⟨some 11, .mv (.tmp 1), none⟩,
             ⟨some 12, .mv (.tmp 0), none⟩,
             ⟨some 13, .mv (.tmp 5), none⟩,
             ⟨some 14, .idxSl 1 (.tmp 12) (.tmp 13), none⟩,
             ⟨some 15, .load false 1 (.tmp 14), none⟩,
             ⟨some 16, .call (.tmp 11) [(.tmp 15)] [], none⟩] [0, 1, 5, 7, 8, 16] []) <|
          .cond (.tmp 16)
            (.seq (.region [⟨some 17, .mv (.tmp 5), none⟩,
               ⟨some 4, .mv (.tmp 17), none⟩] [4] []) <|
            .ret)
            (.skip))) <|
       .region [⟨some 18, .bin .add (.tmp 8) (.const (.int .i64 (1))), none⟩,
         ⟨some 8, .mv (.tmp 18), none⟩] [0, 1, 7, 8] []))) <|
  .seq (.region [⟨some 4, .mv (.const (.int .i64 (-1))), none⟩] [4] []) <|
  .ret
theorem Cd.slices_IndexFunc___int64_int64__rs : Try.f83.results.toList = [.tmp 4] := rfl
theorem Cd.slices_IndexFunc___int64_int64__nt : Try.f83.ntmps = 19 := rfl
theorem Cd.slices_IndexFunc___int64_int64__ok : CodeIsR Try.prog 83 Try.f83 Cd.slices_IndexFunc___int64_int64_ := ⟨Try.func83, by kernel_rfl, by decide +kernel⟩
end Go.Proofs.Ythpokkcbbpapdaa
