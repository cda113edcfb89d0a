/- The code of each function, resolved. -/
import Derived.Test.YthpokkcbbpapdaaVtC
import Derived.Test.YthpokkcbbpapdaaRows
namespace Go.Proofs.Ythpokkcbbpapdaa
open Go.Vs
set_option maxRecDepth 100000
theorem Try.own : ownKnob Try.prog.godebug = none := by kernel_rfl
theorem Try.laidOut : laidOutB Try.prog = true := by kernel_rfl
theorem Try.mixed : Try.prog.follows .mixedOrders = true := Try.checked.mixed
namespace F
abbrev main_main : FuncId := 0
abbrev gosem_cut : FuncId := 1
abbrev gosem_cut_init : FuncId := 2
abbrev laws_FnExactAmountsAfter : FuncId := 3
abbrev laws_FnExactFlowFor : FuncId := 4
abbrev laws_FnExactFlowUses : FuncId := 5
abbrev laws_szFaultS : FuncId := 6
abbrev spec_AmountsAfter : FuncId := 7
abbrev laws_toInt64S : FuncId := 8
abbrev laws_toFaultS : FuncId := 9
abbrev impl_AmountsAfter : FuncId := 10
abbrev laws_eqInt64S : FuncId := 11
abbrev laws_eqFaultS : FuncId := 12
abbrev laws_markInt64S : FuncId := 13
abbrev laws_markFaultS : FuncId := 14
abbrev laws_heldInt64S : FuncId := 15
abbrev laws_szSpec : FuncId := 16
abbrev spec_FlowFor : FuncId := 17
abbrev laws_toSpec : FuncId := 18
abbrev impl_FlowFor : FuncId := 19
abbrev laws_eqStepS : FuncId := 20
abbrev laws_markStepS : FuncId := 21
abbrev laws_heldStepS : FuncId := 22
abbrev laws_szStepS : FuncId := 23
abbrev spec_FlowUses : FuncId := 24
abbrev laws_toStepS : FuncId := 25
abbrev impl_FlowUses : FuncId := 26
abbrev spec_l19Code : FuncId := 27
abbrev spec_l19After : FuncId := 28
abbrev laws_toFault : FuncId := 29
abbrev impl_faultCode : FuncId := 30
abbrev impl_amountsAfter : FuncId := 31
abbrev laws_eqFault : FuncId := 32
abbrev spec_l16Ok : FuncId := 33
abbrev spec_l16Flow : FuncId := 34
abbrev laws_toField : FuncId := 35
abbrev impl_ValidSpec : FuncId := 36
abbrev laws_eqStep : FuncId := 37
abbrev laws_markText : FuncId := 38
abbrev laws_szStep : FuncId := 39
abbrev spec_l15Flow : FuncId := 40
abbrev spec_l00Has : FuncId := 41
abbrev spec_l00Put : FuncId := 42
abbrev spec_l15Both : FuncId := 43
abbrev laws_toStep : FuncId := 44
abbrev impl_ValidFlow : FuncId := 45
abbrev impl_takesTwo : FuncId := 46
abbrev impl_columnsWhere : FuncId := 47
abbrev impl_FlowUses_1 : FuncId := 48
abbrev spec_l19Ok : FuncId := 49
abbrev spec_l19Faults : FuncId := 50
abbrev spec_l19Read : FuncId := 51
abbrev impl_ValidAmounts : FuncId := 52
abbrev impl_areFaults : FuncId := 53
abbrev slices_IndexFunc___impl_Fault_impl_Fault_ : FuncId := 54
abbrev impl_amountsAfter_1 : FuncId := 55
abbrev impl_wheelsShow : FuncId := 56
abbrev impl_shown : FuncId := 57
abbrev spec_l02Field : FuncId := 58
abbrev spec_l09Text : FuncId := 59
abbrev impl_inside : FuncId := 60
abbrev impl_isField : FuncId := 61
abbrev impl_isNumberField : FuncId := 62
abbrev impl_areCharacters : FuncId := 63
abbrev laws_eqField : FuncId := 64
abbrev spec_l15Step : FuncId := 65
abbrev spec_l00In : FuncId := 66
abbrev slices_ContainsFunc___impl_Step_impl_Step_ : FuncId := 67
abbrev impl_ValidFlow_1 : FuncId := 68
abbrev impl_ValidStep : FuncId := 69
abbrev spec_l19Fault : FuncId := 70
abbrev spec_l19Power : FuncId := 71
abbrev slices_ContainsFunc___int64_int64_ : FuncId := 72
abbrev impl_ValidAmounts_1 : FuncId := 73
abbrev impl_isFault : FuncId := 74
abbrev impl_size_int64_ : FuncId := 75
abbrev impl_digitAt : FuncId := 76
abbrev spec_l03Code : FuncId := 77
abbrev impl_isCharacter : FuncId := 78
abbrev spec_l15Tray : FuncId := 79
abbrev slices_IndexFunc___impl_Step_impl_Step_ : FuncId := 80
abbrev impl_isTray : FuncId := 81
abbrev spec_l19Form : FuncId := 82
abbrev slices_IndexFunc___int64_int64_ : FuncId := 83
abbrev spec_l02Bit : FuncId := 84
abbrev spec_l01Digit : FuncId := 85
abbrev strings_IndexByte : FuncId := 86
abbrev internal_stringslite_IndexByte : FuncId := 87
abbrev internal_bytealg_IndexByteString : FuncId := 88
abbrev _runtime_boundsError__Error : FuncId := 89
abbrev _runtime_boundsError__RuntimeError : FuncId := 90
abbrev _runtime_errorString__Error : FuncId := 91
abbrev _runtime_errorString__RuntimeError : FuncId := 92
abbrev _runtime_plainError__Error : FuncId := 93
abbrev _runtime_plainError__RuntimeError : FuncId := 94
abbrev _runtime_errorAddressString__Error : FuncId := 95
abbrev _runtime_errorAddressString__RuntimeError : FuncId := 96
abbrev __runtime_TypeAssertionError__Error : FuncId := 97
abbrev __runtime_TypeAssertionError__RuntimeError : FuncId := 98
abbrev __runtime_PanicNilError__Error : FuncId := 99
abbrev __runtime_PanicNilError__RuntimeError : FuncId := 100
abbrev __internal_abi_Type__Align : FuncId := 101
abbrev _internal_runtime_maps_unhashableTypeError__Error : FuncId := 102
abbrev _internal_runtime_maps_unhashableTypeError__RuntimeError : FuncId := 103
abbrev _internal_abi_Kind__String : FuncId := 104
end F
theorem Ld.t45 : ldOf Try.prog 45 = some (true, 7) := by kernel_rfl
theorem Ld.t58 : ldOf Try.prog 58 = some (true, 4) := by kernel_rfl
theorem Ld.t43 : ldOf Try.prog 43 = some (true, 2) := by kernel_rfl
theorem Ld.t68 : ldOf Try.prog 68 = some (true, 9) := by kernel_rfl
theorem Ld.t89 : ldOf Try.prog 89 = some (true, 1) := by kernel_rfl
attribute [go_sem] Ld.t45 Ld.t58 Ld.t43 Ld.t68 Ld.t89
/-- loop.example/g01012/laws.FnExactFlowUses -/
def Cd.laws_FnExactFlowUses : ACode :=
  .seq (.region [⟨some 2, .mv (.const (.bool false)), none⟩] [0] []) <|
  .seq (.region [⟨some 3, .mv (.const (.int .i64 (1048576))), none⟩] [0, 3] []) <|
  .seq (.region [⟨some 14, .mv (.tmp 0), none⟩,
     ⟨some 15, .mv (.tmp 3), none⟩,
     ⟨some 16, .call (.func F.laws_szStepS) [(.tmp 14), (.tmp 15)] [], none⟩,
     ⟨some 3, .mv (.tmp 16), none⟩] [0, 3] []) <|
  .seq (.seq (.region [⟨some 17, .mv (.tmp 3), none⟩,
      ⟨some 18, .bin .lss (.tmp 17) (.const (.int .i64 (0))), none⟩] [0, 18] []) <|
   .cond (.tmp 18)
     (.seq (.region [⟨some 2, .mv (.const (.bool true)), none⟩] [2] []) <|
     .ret)
     (.skip)) <|
  .seq (.region [⟨some 20, .mv (.tmp 0), none⟩,
     ⟨some 21, .call (.func F.laws_toStepS) [(.tmp 20)] [], none⟩,
     ⟨some 22, .call (.func F.spec_FlowUses) [(.tmp 21)] [], none⟩,
     ⟨some 19, .mv (.tmp 22), none⟩,
     ⟨some 23, .extract (.tmp 19) 0, none⟩,
     ⟨some 24, .extract (.tmp 19) 1, none⟩,
     ⟨some 4, .mv (.tmp 23), none⟩,
     ⟨some 5, .mv (.tmp 24), none⟩] [0, 4, 5] []) <|
  .seq (.region [⟨some 25, .mv (.tmp 0), none⟩,
     ⟨some 26, .call (.func F.laws_toStepS) [(.tmp 25)] [], none⟩,
     ⟨some 6, .mv (.tmp 26), none⟩] [0, 4, 5, 6] []) <|
  .seq (.region [⟨some 28, .mv (.tmp 6), none⟩,
     ⟨some 29, .call (.func F.impl_FlowUses) [(.tmp 28)] [], none⟩,
     ⟨some 27, .mv (.tmp 29), none⟩,
     ⟨some 30, .extract (.tmp 27) 0, none⟩,
     ⟨some 31, .extract (.tmp 27) 1, none⟩,
     ⟨some 7, .mv (.tmp 30), none⟩,
     ⟨some 8, .mv (.tmp 31), none⟩] [0, 4, 5, 6, 7, 8] []) <|
  .seq (.seq (.region [⟨some 32, .mv (.tmp 7), none⟩,
      ⟨some 33, .mv (.tmp 4), none⟩,
      ⟨some 34, .call (.func F.laws_eqInt64S) [(.tmp 32), (.tmp 33)] [], none⟩,
      ⟨some 35, .un .not (.tmp 34), none⟩,
      ⟨some 36, .mv (.tmp 35), none⟩,
      ⟨some 37, .mv (.tmp 8), some (36, false)⟩,
      ⟨some 38, .mv (.tmp 5), some (36, false)⟩,
      ⟨some 39, .bin .neq (.tmp 37) (.tmp 38), some (36, false)⟩,
      ⟨some 40, .pick (.tmp 36) (.const (.bool true)) (.tmp 39), none⟩] [0, 4, 5, 6, 7, 8, 40] []) <|
   .cond (.tmp 40)
     (.seq (.region [⟨some 2, .mv (.const (.bool false)), none⟩] [2] []) <|
     .ret)
     (.skip)) <|
  .seq (.seq (.region [⟨some 41, .mv (.tmp 6), none⟩,
      ⟨some 42, .mv (.tmp 0), none⟩,
      ⟨some 43, .call (.func F.laws_toStepS) [(.tmp 42)] [], none⟩,
      ⟨some 44, .call (.func F.laws_eqStepS) [(.tmp 41), (.tmp 43)] [], none⟩,
      ⟨some 45, .un .not (.tmp 44), none⟩] [0, 4, 5, 6, 7, 8, 45] []) <|
   .cond (.tmp 45)
     (.seq (.region [⟨some 2, .mv (.const (.bool false)), none⟩] [2] []) <|
     .ret)
     (.skip)) <|
  .seq (.region [⟨some 9, .mv (.const (.int .i64 (1))), none⟩] [0, 4, 5, 6, 7, 8, 9] []) <|
  .seq (.region [⟨some 46, .mv (.tmp 6), none⟩,
     ⟨some 47, .mv (.tmp 9), none⟩,
     ⟨some 48, .call (.func F.laws_markStepS) [(.tmp 46), (.tmp 47)] [0], none⟩,
     ⟨some 9, .mv (.tmp 48), none⟩] [0, 4, 5, 7, 8, 9] []) <|
  .seq (.seq (.region [⟨some 49, .mv (.tmp 9), none⟩,
      ⟨some 50, .bin .lss (.tmp 49) (.const (.int .i64 (0))), none⟩,
      ⟨some 51, .mv (.tmp 50), none⟩,
      ⟨some 52, .mv (.tmp 7), some (51, false)⟩,
      ⟨some 53, .mv (.tmp 4), some (51, false)⟩,
      ⟨some 54, .call (.func F.laws_eqInt64S) [(.tmp 52), (.tmp 53)] [], some (51, false)⟩,
      ⟨some 55, .un .not (.tmp 54), some (51, false)⟩,
      ⟨some 56, .pick (.tmp 51) (.const (.bool true)) (.tmp 55), none⟩,
      ⟨some 57, .mv (.tmp 56), none⟩,
      ⟨some 58, .mv (.tmp 8), some (57, false)⟩,
      ⟨some 59, .mv (.tmp 5), some (57, false)⟩,
      ⟨some 60, .bin .neq (.tmp 58) (.tmp 59), some (57, false)⟩,
      ⟨some 61, .pick (.tmp 57) (.const (.bool true)) (.tmp 60), none⟩] [0, 4, 5, 7, 61] []) <|
   .cond (.tmp 61)
     (.seq (.region [⟨some 2, .mv (.const (.bool false)), none⟩] [2] []) <|
     .ret)
     (.skip)) <|
  .seq (.region [⟨some 10, .mv (.const (.int .i64 (1))), none⟩] [0, 4, 5, 7, 10] []) <|
  .seq (.region [⟨some 62, .mv (.tmp 7), none⟩,
     ⟨some 63, .mv (.tmp 10), none⟩,
     ⟨some 64, .call (.func F.laws_markInt64S) [(.tmp 62), (.tmp 63)] [0], none⟩,
     ⟨some 10, .mv (.tmp 64), none⟩] [0, 4, 5, 7, 10] []) <|
  .seq (.region [⟨some 11, .mv (.const (.int .i64 (1))), none⟩] [0, 4, 5, 7, 10, 11] []) <|
  .seq (.region [⟨some 65, .mv (.tmp 7), none⟩,
     ⟨some 66, .mv (.tmp 11), none⟩,
     ⟨some 67, .call (.func F.laws_heldInt64S) [(.tmp 65), (.tmp 66)] [], none⟩,
     ⟨some 11, .mv (.tmp 67), none⟩] [0, 4, 5, 7, 10, 11] []) <|
  .seq (.seq (.region [⟨some 68, .mv (.tmp 11), none⟩,
      ⟨some 69, .bin .lss (.tmp 68) (.const (.int .i64 (0))), none⟩] [0, 4, 5, 7, 10, 11, 69] []) <|
   .cond (.tmp 69)
     (.seq (.region [⟨some 2, .mv (.const (.bool false)), none⟩] [2] []) <|
     .ret)
     (.skip)) <|
  .seq (.seq (.region [⟨some 70, .mv (.tmp 11), none⟩,
      ⟨some 71, .mv (.tmp 10), none⟩,
      ⟨some 72, .bin .neq (.tmp 70) (.tmp 71), none⟩] [0, 4, 5, 7, 10, 72] []) <|
   .cond (.tmp 72)
     (.seq (.region [⟨some 2, .mv (.const (.bool false)), none⟩] [2] []) <|
     .ret)
     (.skip)) <|
  .seq (.region [⟨some 74, .mv (.tmp 0), none⟩,
     ⟨some 75, .call (.func F.laws_toStepS) [(.tmp 74)] [], none⟩,
     ⟨some 76, .call (.func F.impl_FlowUses) [(.tmp 75)] [], none⟩,
     ⟨some 73, .mv (.tmp 76), none⟩,
     ⟨some 77, .extract (.tmp 73) 0, none⟩,
     ⟨some 78, .extract (.tmp 73) 1, none⟩,
     ⟨some 12, .mv (.tmp 77), none⟩,
     ⟨some 13, .mv (.tmp 78), none⟩] [4, 5, 7, 10, 12, 13] []) <|
  .seq (.seq (.region [⟨some 79, .mv (.tmp 12), none⟩,
      ⟨some 80, .mv (.tmp 4), none⟩,
      ⟨some 81, .call (.func F.laws_eqInt64S) [(.tmp 79), (.tmp 80)] [], none⟩,
      ⟨some 82, .un .not (.tmp 81), none⟩,
      ⟨some 83, .mv (.tmp 82), none⟩,
      ⟨some 84, .mv (.tmp 13), some (83, false)⟩,
      ⟨some 85, .mv (.tmp 5), some (83, false)⟩,
      ⟨some 86, .bin .neq (.tmp 84) (.tmp 85), some (83, false)⟩,
      ⟨some 87, .pick (.tmp 83) (.const (.bool true)) (.tmp 86), none⟩] [7, 10, 87] []) <|
   .cond (.tmp 87)
     (.seq (.region [⟨some 2, .mv (.const (.bool false)), none⟩] [2] []) <|
     .ret)
     (.skip)) <|
  .seq (.region [⟨some 11, .mv (.const (.int .i64 (1))), none⟩] [7, 10, 11] []) <|
  .seq (.region [⟨some 88, .mv (.tmp 7), none⟩,
     ⟨some 89, .mv (.tmp 11), none⟩,
     ⟨some 90, .call (.func F.laws_heldInt64S) [(.tmp 88), (.tmp 89)] [], none⟩,
     ⟨some 11, .mv (.tmp 90), none⟩] [10, 11] []) <|
  .seq (.seq (.region [⟨some 91, .mv (.tmp 11), none⟩,
      ⟨some 92, .bin .lss (.tmp 91) (.const (.int .i64 (0))), none⟩] [10, 11, 92] []) <|
   .cond (.tmp 92)
     (.seq (.region [⟨some 2, .mv (.const (.bool false)), none⟩] [2] []) <|
     .ret)
     (.skip)) <|
  .seq (.seq (.region [⟨some 93, .mv (.tmp 11), none⟩,
      ⟨some 94, .mv (.tmp 10), none⟩,
      ⟨some 95, .bin .neq (.tmp 93) (.tmp 94), none⟩] [95] []) <|
   .cond (.tmp 95)
     (.seq (.region [⟨some 2, .mv (.const (.bool false)), none⟩] [2] []) <|
     .ret)
     (.skip)) <|
  .seq (.region [⟨some 2, .mv (.const (.bool true)), none⟩] [2] []) <|
  .ret
theorem Cd.laws_FnExactFlowUses_rs : Try.f5.results.toList = [.tmp 2] := rfl
theorem Cd.laws_FnExactFlowUses_nt : Try.f5.ntmps = 96 := rfl
theorem Cd.laws_FnExactFlowUses_ok : CodeIsR Try.prog 5 Try.f5 Cd.laws_FnExactFlowUses := ⟨Try.func5, by kernel_rfl, by decide +kernel⟩
/-- loop.example/g01012/laws.eqInt64S DRAWS -/
def Cd.laws_eqInt64S : ACode :=
  .seq (.region [⟨some 4, .mv (.const (.bool false)), none⟩] [0, 1] []) <|
  .seq (.seq (.region [⟨some 6, .mv (.tmp 0), none⟩,
      ⟨some 7, .len (.tmp 6), none⟩,
      ⟨some 8, .mv (.tmp 1), none⟩,
      ⟨some 9, .len (.tmp 8), none⟩,
      ⟨some 10, .bin .neq (.tmp 7) (.tmp 9), none⟩] [0, 1, 10] []) <|
   .cond (.tmp 10)
     (.seq (.region [⟨some 4, .mv (.const (.bool false)), none⟩] [4] []) <|
     .ret)
     (.skip)) <|
  .seq (.seq (.region [⟨some 5, .mv (.const (.int .i64 (0))), none⟩] [0, 1, 5] []) <|
   .block 0 (
     .loop (
       .seq (.seq (.region [⟨some 11, .mv (.tmp 5), none⟩,
           ⟨some 12, .mv (.tmp 0), none⟩,
           ⟨some 13, .len (.tmp 12), none⟩,
           ⟨some 14, .bin .lss (.tmp 11) (.tmp 13), none⟩] [0, 1, 5, 14] []) <|
        .cond (.tmp 14)
          (.skip)
          (.exit 0)) <|
       .seq (.block 1 (
          .seq (.region [⟨some 17, .mv (.tmp 0), none⟩,
             ⟨some 18, .mv (.tmp 5), none⟩,
             ⟨some 19, .idxSl 1 (.tmp 17) (.tmp 18), none⟩,
             ⟨some 20, .load false 1 (.tmp 19), none⟩,
             ⟨some 21, .mv (.tmp 1), none⟩,
             ⟨some 22, .mv (.tmp 5), none⟩,
             ⟨some 23, .idxSl 1 (.tmp 21) (.tmp 22), none⟩,
             ⟨some 24, .load false 1 (.tmp 23), none⟩,
             ⟨some 25, .bin .neq (.tmp 20) (.tmp 24), none⟩] [0, 1, 5, 25] [17, 18, 20, 21, 19, 22, 23, 24, 25]) <|
          .cond (.tmp 25)
            (.seq (.region [⟨some 4, .mv (.const (.bool false)), none⟩] [4] []) <|
            .ret)
            (.skip))) <|
       .region [⟨some 15, .mv (.tmp 5), none⟩,
         ⟨some 16, .bin .add (.tmp 15) (.const (.int .i64 (1))), none⟩,
         ⟨some 5, .mv (.tmp 16), none⟩] [0, 1, 5] []))) <|
  .seq (.region [⟨some 4, .mv (.const (.bool true)), none⟩] [4] []) <|
  .ret
theorem Cd.laws_eqInt64S_rs : Try.f11.results.toList = [.tmp 4] := rfl
theorem Cd.laws_eqInt64S_nt : Try.f11.ntmps = 26 := rfl
theorem Cd.laws_eqInt64S_ok : CodeIsR Try.prog 11 Try.f11 Cd.laws_eqInt64S := ⟨Try.func11, by kernel_rfl, by decide +kernel⟩
/-- loop.example/g01012/laws.markInt64S -/
def Cd.laws_markInt64S : ACode :=
  .seq (.region [⟨some 4, .mv (.const (.int .i64 (0))), none⟩] [0, 1] []) <|
  .seq (.seq (.region [⟨some 5, .mv (.const (.int .i64 (0))), none⟩] [0, 1, 5] []) <|
   .block 0 (
     .loop (
       .seq (.seq (.region [⟨some 6, .mv (.tmp 5), none⟩,
           ⟨some 7, .mv (.tmp 0), none⟩,
           ⟨some 8, .len (.tmp 7), none⟩,
           ⟨some 9, .bin .lss (.tmp 6) (.tmp 8), none⟩] [0, 1, 5, 9] []) <|
        .cond (.tmp 9)
          (.skip)
          (.exit 0)) <|
       .seq (.block 1 (
          .seq (.region [⟨some 12, .mv (.tmp 0), none⟩,
             ⟨some 13, .mv (.tmp 5), none⟩,
             ⟨some 14, .mv (.tmp 1), none⟩,
             ⟨some 15, .idxSl 1 (.tmp 12) (.tmp 13), none⟩,
             ⟨none, .store 1 (.tmp 15) (.tmp 14), none⟩] [0, 1, 5] []) <|
          .region [⟨some 16, .mv (.tmp 1), none⟩,
            ⟨some 17, .bin .add (.tmp 16) (.const (.int .i64 (1))), none⟩,
            ⟨some 1, .mv (.tmp 17), none⟩] [0, 1, 5] [])) <|
       .region [⟨some 10, .mv (.tmp 5), none⟩,
         ⟨some 11, .bin .add (.tmp 10) (.const (.int .i64 (1))), none⟩,
         ⟨some 5, .mv (.tmp 11), none⟩] [0, 1, 5] []))) <|
  .seq (.region [⟨some 18, .mv (.tmp 1), none⟩,
     ⟨some 4, .mv (.tmp 18), none⟩] [4] []) <|
  .ret
theorem Cd.laws_markInt64S_rs : Try.f13.results.toList = [.tmp 4] := rfl
theorem Cd.laws_markInt64S_nt : Try.f13.ntmps = 19 := rfl
theorem Cd.laws_markInt64S_ok : CodeIsR Try.prog 13 Try.f13 Cd.laws_markInt64S := ⟨Try.func13, by kernel_rfl, by decide +kernel⟩
/-- loop.example/g01012/laws.heldInt64S -/
def Cd.laws_heldInt64S : ACode :=
  .seq (.region [⟨some 4, .mv (.const (.int .i64 (0))), none⟩] [0, 1] []) <|
  .seq (.seq (.region [⟨some 5, .mv (.const (.int .i64 (0))), none⟩] [0, 1, 5] []) <|
   .block 0 (
     .loop (
       .seq (.seq (.region [⟨some 6, .mv (.tmp 5), none⟩,
           ⟨some 7, .mv (.tmp 0), none⟩,
           ⟨some 8, .len (.tmp 7), none⟩,
           ⟨some 9, .bin .lss (.tmp 6) (.tmp 8), none⟩] [0, 1, 5, 9] []) <|
        .cond (.tmp 9)
          (.skip)
          (.exit 0)) <|
       .seq (.block 1 (
          .seq (.seq (.region [⟨some 12, .mv (.tmp 0), none⟩,
              ⟨some 13, .mv (.tmp 5), none⟩,
              ⟨some 14, .idxSl 1 (.tmp 12) (.tmp 13), none⟩,
              ⟨some 15, .load false 1 (.tmp 14), none⟩,
              ⟨some 16, .mv (.tmp 1), none⟩,
              ⟨some 17, .bin .neq (.tmp 15) (.tmp 16), none⟩] [0, 1, 5, 17] []) <|
           .cond (.tmp 17)
             (.seq (.region [⟨some 4, .mv (.const (.int .i64 (-1))), none⟩] [4] []) <|
             .ret)
             (.skip)) <|
          .region [⟨some 18, .mv (.tmp 1), none⟩,
            ⟨some 19, .bin .add (.tmp 18) (.const (.int .i64 (1))), none⟩,
            ⟨some 1, .mv (.tmp 19), none⟩] [0, 1, 5] [])) <|
       .region [⟨some 10, .mv (.tmp 5), none⟩,
         ⟨some 11, .bin .add (.tmp 10) (.const (.int .i64 (1))), none⟩,
         ⟨some 5, .mv (.tmp 11), none⟩] [0, 1, 5] []))) <|
  .seq (.region [⟨some 20, .mv (.tmp 1), none⟩,
     ⟨some 4, .mv (.tmp 20), none⟩] [4] []) <|
  .ret
theorem Cd.laws_heldInt64S_rs : Try.f15.results.toList = [.tmp 4] := rfl
theorem Cd.laws_heldInt64S_nt : Try.f15.ntmps = 21 := rfl
theorem Cd.laws_heldInt64S_ok : CodeIsR Try.prog 15 Try.f15 Cd.laws_heldInt64S := ⟨Try.func15, by kernel_rfl, by decide +kernel⟩
/-- loop.example/g01012/laws.szSpec -/
def Cd.laws_szSpec : ACode :=
  .seq (.region [⟨some 2, .box (.tmp 0), none⟩,
     ⟨some 4, .mv (.const (.int .i64 (0))), none⟩] [1, 2] []) <|
  .seq (.region [⟨some 5, .mv (.tmp 1), none⟩,
     ⟨some 6, .fieldAddr 2 (.tmp 2), none⟩,
     ⟨some 7, .load false 1 (.tmp 6), none⟩,
     ⟨some 8, .lenS (.tmp 7), none⟩,
     ⟨some 9, .bin .sub (.tmp 5) (.tmp 8), none⟩,
     ⟨some 1, .mv (.tmp 9), none⟩] [1] []) <|
  .seq (.seq (.region [⟨some 10, .mv (.tmp 1), none⟩,
      ⟨some 11, .bin .lss (.tmp 10) (.const (.int .i64 (0))), none⟩] [1, 11] []) <|
   .cond (.tmp 11)
     (.seq (.region [⟨some 4, .mv (.const (.int .i64 (-1))), none⟩] [4] []) <|
     .ret)
     (.skip)) <|
  .seq (.region [⟨some 12, .mv (.tmp 1), none⟩,
     ⟨some 4, .mv (.tmp 12), none⟩] [4] []) <|
  .ret
theorem Cd.laws_szSpec_rs : Try.f16.results.toList = [.tmp 4] := rfl
theorem Cd.laws_szSpec_nt : Try.f16.ntmps = 13 := rfl
theorem Cd.laws_szSpec_ok : CodeIsR Try.prog 16 Try.f16 Cd.laws_szSpec := ⟨Try.func16, by kernel_rfl, by decide +kernel⟩
/-- loop.example/g01012/laws.toSpec -/
def Cd.laws_toSpec : ACode :=
  .seq (.region [⟨some 1, .box (.tmp 0), none⟩,
     ⟨some 2, .alloc [.v (.int .i64 (0)), .v (.int .i64 (0)), .v (.string ⟨#[]⟩), .v (.int .i64 (0)), .v (.int .i64 (0)), .v (.int .i64 (0)), .v (.int .i64 (0))], none⟩] [1, 2] []) <|
  .seq (.region [⟨some 3, .alloc [.v (.int .i64 (0)), .v (.int .i64 (0)), .v (.string ⟨#[]⟩), .v (.int .i64 (0)), .v (.int .i64 (0)), .v (.int .i64 (0)), .v (.int .i64 (0))], none⟩] [1, 2, 3] []) <|
  .seq (.region [⟨some 4, .fieldAddr 0 (.tmp 1), none⟩,
     ⟨some 5, .load true 2 (.tmp 4), none⟩,
     ⟨some 6, .call (.func F.laws_toField) [(.tmp 5)] [], none⟩,
     ⟨some 7, .fieldAddr 0 (.tmp 3), none⟩,
     ⟨none, .store 2 (.tmp 7) (.tmp 6), none⟩] [1, 2, 3] []) <|
  .seq (.region [⟨some 8, .fieldAddr 2 (.tmp 1), none⟩,
     ⟨some 9, .load false 1 (.tmp 8), none⟩,
     ⟨some 10, .fieldAddr 2 (.tmp 3), none⟩,
     ⟨none, .store 1 (.tmp 10) (.tmp 9), none⟩] [1, 2, 3] []) <|
  .seq (.region [⟨some 11, .fieldAddr 3 (.tmp 1), none⟩,
     ⟨some 12, .load true 2 (.tmp 11), none⟩,
     ⟨some 13, .call (.func F.laws_toField) [(.tmp 12)] [], none⟩,
     ⟨some 14, .fieldAddr 3 (.tmp 3), none⟩,
     ⟨none, .store 2 (.tmp 14) (.tmp 13), none⟩] [1, 2, 3] []) <|
  .seq (.region [⟨some 15, .fieldAddr 5 (.tmp 1), none⟩,
     ⟨some 16, .load true 2 (.tmp 15), none⟩,
     ⟨some 17, .call (.func F.laws_toField) [(.tmp 16)] [], none⟩,
     ⟨some 18, .fieldAddr 5 (.tmp 3), none⟩,
     ⟨none, .store 2 (.tmp 18) (.tmp 17), none⟩] [2, 3] []) <|
  .seq (.region [⟨some 19, .load true 7 (.tmp 3), none⟩,
     ⟨none, .store 7 (.tmp 2) (.tmp 19), none⟩] [2] []) <|
  .ret
theorem Cd.laws_toSpec_rs : Try.f18.results.toList = [.cell 2 45] := rfl
theorem Cd.laws_toSpec_nt : Try.f18.ntmps = 20 := rfl
theorem Cd.laws_toSpec_ok : CodeIsR Try.prog 18 Try.f18 Cd.laws_toSpec := ⟨Try.func18, by kernel_rfl, by decide +kernel⟩
/-- loop.example/g01012/laws.eqStepS DRAWS -/
def Cd.laws_eqStepS : ACode :=
  .seq (.region [⟨some 4, .mv (.const (.bool false)), none⟩] [0, 1] []) <|
  .seq (.seq (.region [⟨some 6, .mv (.tmp 0), none⟩,
      ⟨some 7, .len (.tmp 6), none⟩,
      ⟨some 8, .mv (.tmp 1), none⟩,
      ⟨some 9, .len (.tmp 8), none⟩,
      ⟨some 10, .bin .neq (.tmp 7) (.tmp 9), none⟩] [0, 1, 10] []) <|
   .cond (.tmp 10)
     (.seq (.region [⟨some 4, .mv (.const (.bool false)), none⟩] [4] []) <|
     .ret)
     (.skip)) <|
  .seq (.seq (.region [⟨some 5, .mv (.const (.int .i64 (0))), none⟩] [0, 1, 5] []) <|
   .block 0 (
     .loop (
       .seq (.seq (.region [⟨some 11, .mv (.tmp 5), none⟩,
           ⟨some 12, .mv (.tmp 0), none⟩,
           ⟨some 13, .len (.tmp 12), none⟩,
           ⟨some 14, .bin .lss (.tmp 11) (.tmp 13), none⟩] [0, 1, 5, 14] []) <|
        .cond (.tmp 14)
          (.skip)
          (.exit 0)) <|
       .seq (.block 1 (
          .seq (.region [⟨some 17, .mv (.tmp 0), none⟩,
             ⟨some 18, .mv (.tmp 5), none⟩,
             ⟨some 19, .idxSl 9 (.tmp 17) (.tmp 18), none⟩,
             ⟨some 20, .load true 9 (.tmp 19), none⟩,
             ⟨some 21, .mv (.tmp 1), none⟩,
             ⟨some 22, .mv (.tmp 5), none⟩,
             ⟨some 23, .idxSl 9 (.tmp 21) (.tmp 22), none⟩,
             ⟨some 24, .load true 9 (.tmp 23), none⟩,
             ⟨some 25, .call (.func F.laws_eqStep) [(.tmp 20), (.tmp 24)] [], none⟩,
             ⟨some 26, .un .not (.tmp 25), none⟩] [0, 1, 5, 26] [17, 18, 20, 21, 19, 22, 23, 24, 25, 26]) <|
          .cond (.tmp 26)
            (.seq (.region [⟨some 4, .mv (.const (.bool false)), none⟩] [4] []) <|
            .ret)
            (.skip))) <|
       .region [⟨some 15, .mv (.tmp 5), none⟩,
         ⟨some 16, .bin .add (.tmp 15) (.const (.int .i64 (1))), none⟩,
         ⟨some 5, .mv (.tmp 16), none⟩] [0, 1, 5] []))) <|
  .seq (.region [⟨some 4, .mv (.const (.bool true)), none⟩] [4] []) <|
  .ret
theorem Cd.laws_eqStepS_rs : Try.f20.results.toList = [.tmp 4] := rfl
theorem Cd.laws_eqStepS_nt : Try.f20.ntmps = 27 := rfl
theorem Cd.laws_eqStepS_ok : CodeIsR Try.prog 20 Try.f20 Cd.laws_eqStepS := ⟨Try.func20, by kernel_rfl, by decide +kernel⟩
/-- loop.example/g01012/laws.markStepS -/
def Cd.laws_markStepS : ACode :=
  .seq (.region [⟨some 4, .mv (.const (.int .i64 (0))), none⟩] [0, 1] []) <|
  .seq (.seq (.region [⟨some 5, .mv (.const (.int .i64 (0))), none⟩] [0, 1, 5] []) <|
   .block 0 (
     .loop (
       .seq (.seq (.region [⟨some 6, .mv (.tmp 5), none⟩,
           ⟨some 7, .mv (.tmp 0), none⟩,
           ⟨some 8, .len (.tmp 7), none⟩,
           ⟨some 9, .bin .lss (.tmp 6) (.tmp 8), none⟩] [0, 1, 5, 9] []) <|
        .cond (.tmp 9)
          (.skip)
          (.exit 0)) <|
       .seq (.block 1 (
          .seq (.region [⟨some 12, .mv (.tmp 0), none⟩,
             ⟨some 13, .mv (.tmp 5), none⟩,
             ⟨some 14, .mv (.tmp 1), none⟩,
             ⟨some 15, .idxSl 9 (.tmp 12) (.tmp 13), none⟩,
             ⟨some 16, .fieldAddr 0 (.tmp 15), none⟩,
             ⟨none, .store 1 (.tmp 16) (.tmp 14), none⟩] [0, 1, 5] []) <|
          .seq (.region [⟨some 17, .mv (.tmp 1), none⟩,
             ⟨some 18, .bin .add (.tmp 17) (.const (.int .i64 (1))), none⟩,
             ⟨some 1, .mv (.tmp 18), none⟩] [0, 1, 5] []) <|
          .seq (.region [⟨some 19, .mv (.tmp 0), none⟩,
             ⟨some 20, .mv (.tmp 5), none⟩,
             ⟨some 21, .mv (.tmp 1), none⟩,
             ⟨some 22, .idxSl 9 (.tmp 19) (.tmp 20), none⟩,
             ⟨some 23, .fieldAddr 1 (.tmp 22), none⟩,
             ⟨none, .store 1 (.tmp 23) (.tmp 21), none⟩] [0, 1, 5] []) <|
          .seq (.region [⟨some 24, .mv (.tmp 1), none⟩,
             ⟨some 25, .bin .add (.tmp 24) (.const (.int .i64 (1))), none⟩,
             ⟨some 1, .mv (.tmp 25), none⟩] [0, 1, 5] []) <|
          .seq (.region [⟨some 26, .mv (.tmp 0), none⟩,
             ⟨some 27, .mv (.tmp 5), none⟩,
             ⟨some 28, .mv (.tmp 1), none⟩,
             ⟨some 29, .idxSl 9 (.tmp 26) (.tmp 27), none⟩,
             ⟨some 30, .fieldAddr 2 (.tmp 29), none⟩,
             ⟨none, .store 1 (.tmp 30) (.tmp 28), none⟩] [0, 1, 5] []) <|
          .seq (.region [⟨some 31, .mv (.tmp 1), none⟩,
             ⟨some 32, .bin .add (.tmp 31) (.const (.int .i64 (1))), none⟩,
             ⟨some 1, .mv (.tmp 32), none⟩] [0, 1, 5] []) <|
          .seq (.region [⟨some 33, .mv (.tmp 0), none⟩,
             ⟨some 34, .mv (.tmp 5), none⟩,
             ⟨some 35, .mv (.tmp 1), none⟩,
             ⟨some 36, .idxSl 9 (.tmp 33) (.tmp 34), none⟩,
             ⟨some 37, .fieldAddr 3 (.tmp 36), none⟩,
             ⟨none, .store 1 (.tmp 37) (.tmp 35), none⟩] [0, 1, 5] []) <|
          .seq (.region [⟨some 38, .mv (.tmp 1), none⟩,
             ⟨some 39, .bin .add (.tmp 38) (.const (.int .i64 (1))), none⟩,
             ⟨some 1, .mv (.tmp 39), none⟩] [0, 1, 5] []) <|
          .seq (.region [⟨some 40, .mv (.tmp 0), none⟩,
             ⟨some 41, .mv (.tmp 5), none⟩,
             ⟨some 42, .mv (.tmp 1), none⟩,
             ⟨some 43, .idxSl 9 (.tmp 40) (.tmp 41), none⟩,
             ⟨some 44, .fieldAddr 4 (.tmp 43), none⟩,
             ⟨some 45, .fieldAddr 0 (.tmp 44), none⟩,
             ⟨none, .store 1 (.tmp 45) (.tmp 42), none⟩] [0, 1, 5] []) <|
          .seq (.region [⟨some 46, .mv (.tmp 1), none⟩,
             ⟨some 47, .bin .add (.tmp 46) (.const (.int .i64 (1))), none⟩,
             ⟨some 1, .mv (.tmp 47), none⟩] [0, 1, 5] []) <|
          .seq (.region [⟨some 48, .mv (.tmp 0), none⟩,
             ⟨some 49, .mv (.tmp 5), none⟩,
             ⟨some 50, .mv (.tmp 1), none⟩,
             ⟨some 51, .idxSl 9 (.tmp 48) (.tmp 49), none⟩,
             ⟨some 52, .fieldAddr 4 (.tmp 51), none⟩,
             ⟨some 53, .fieldAddr 1 (.tmp 52), none⟩,
             ⟨none, .store 1 (.tmp 53) (.tmp 50), none⟩] [0, 1, 5] []) <|
          .seq (.region [⟨some 54, .mv (.tmp 1), none⟩,
             ⟨some 55, .bin .add (.tmp 54) (.const (.int .i64 (1))), none⟩,
             ⟨some 1, .mv (.tmp 55), none⟩] [0, 1, 5] []) <|
          .seq (.region [⟨some 56, .mv (.tmp 0), none⟩,
             ⟨some 57, .mv (.tmp 5), none⟩,
             ⟨some 58, .mv (.tmp 1), none⟩,
             ⟨some 59, .idxSl 9 (.tmp 56) (.tmp 57), none⟩,
             ⟨some 60, .fieldAddr 6 (.tmp 59), none⟩,
             ⟨some 61, .fieldAddr 0 (.tmp 60), none⟩,
             ⟨none, .store 1 (.tmp 61) (.tmp 58), none⟩] [0, 1, 5] []) <|
          .seq (.region [⟨some 62, .mv (.tmp 1), none⟩,
             ⟨some 63, .bin .add (.tmp 62) (.const (.int .i64 (1))), none⟩,
             ⟨some 1, .mv (.tmp 63), none⟩] [0, 1, 5] []) <|
          .seq (.region [⟨some 64, .mv (.tmp 0), none⟩,
             ⟨some 65, .mv (.tmp 5), none⟩,
             ⟨some 66, .mv (.tmp 1), none⟩,
             ⟨some 67, .idxSl 9 (.tmp 64) (.tmp 65), none⟩,
             ⟨some 68, .fieldAddr 6 (.tmp 67), none⟩,
             ⟨some 69, .fieldAddr 1 (.tmp 68), none⟩,
             ⟨none, .store 1 (.tmp 69) (.tmp 66), none⟩] [0, 1, 5] []) <|
          .seq (.region [⟨some 70, .mv (.tmp 1), none⟩,
             ⟨some 71, .bin .add (.tmp 70) (.const (.int .i64 (1))), none⟩,
             ⟨some 1, .mv (.tmp 71), none⟩] [0, 1, 5] []) <|
          .seq (.region [⟨some 72, .mv (.tmp 0), none⟩,
             ⟨some 73, .mv (.tmp 5), none⟩,
             ⟨some 74, .mv (.tmp 1), none⟩,
             ⟨some 75, .call (.func F.laws_markText) [(.tmp 74)] [], none⟩,
             ⟨some 76, .idxSl 9 (.tmp 72) (.tmp 73), none⟩,
             ⟨some 77, .fieldAddr 8 (.tmp 76), none⟩,
             ⟨none, .store 1 (.tmp 77) (.tmp 75), none⟩] [0, 1, 5] []) <|
          .region [⟨some 78, .mv (.tmp 1), none⟩,
            ⟨some 79, .bin .add (.tmp 78) (.const (.int .i64 (1))), none⟩,
            ⟨some 1, .mv (.tmp 79), none⟩] [0, 1, 5] [])) <|
       .region [⟨some 10, .mv (.tmp 5), none⟩,
         ⟨some 11, .bin .add (.tmp 10) (.const (.int .i64 (1))), none⟩,
         ⟨some 5, .mv (.tmp 11), none⟩] [0, 1, 5] []))) <|
  .seq (.region [⟨some 80, .mv (.tmp 1), none⟩,
     ⟨some 4, .mv (.tmp 80), none⟩] [4] []) <|
  .ret
theorem Cd.laws_markStepS_rs : Try.f21.results.toList = [.tmp 4] := rfl
theorem Cd.laws_markStepS_nt : Try.f21.ntmps = 81 := rfl
theorem Cd.laws_markStepS_ok : CodeIsR Try.prog 21 Try.f21 Cd.laws_markStepS := ⟨Try.func21, by kernel_rfl, by decide +kernel⟩
/-- loop.example/g01012/laws.heldStepS DRAWS -/
def Cd.laws_heldStepS : ACode :=
  .seq (.region [⟨some 4, .mv (.const (.int .i64 (0))), none⟩] [0, 1] []) <|
  .seq (.seq (.region [⟨some 5, .mv (.const (.int .i64 (0))), none⟩] [0, 1, 5] []) <|
   .block 0 (
     .loop (
       .seq (.seq (.region [⟨some 6, .mv (.tmp 5), none⟩,
           ⟨some 7, .mv (.tmp 0), none⟩,
           ⟨some 8, .len (.tmp 7), none⟩,
           ⟨some 9, .bin .lss (.tmp 6) (.tmp 8), none⟩] [0, 1, 5, 9] []) <|
        .cond (.tmp 9)
          (.skip)
          (.exit 0)) <|
       .seq (.block 1 (
          .seq (.seq (.region [⟨some 12, .mv (.tmp 0), none⟩,
              ⟨some 13, .mv (.tmp 5), none⟩,
              ⟨some 14, .idxSl 9 (.tmp 12) (.tmp 13), none⟩,
              ⟨some 15, .fieldAddr 0 (.tmp 14), none⟩,
              ⟨some 16, .load false 1 (.tmp 15), none⟩,
              ⟨some 17, .mv (.tmp 1), none⟩,
              ⟨some 18, .bin .neq (.tmp 16) (.tmp 17), none⟩] [0, 1, 5, 18] []) <|
           .cond (.tmp 18)
             (.seq (.region [⟨some 4, .mv (.const (.int .i64 (-1))), none⟩] [4] []) <|
             .ret)
             (.skip)) <|
          .seq (.region [⟨some 19, .mv (.tmp 1), none⟩,
             ⟨some 20, .bin .add (.tmp 19) (.const (.int .i64 (1))), none⟩,
             ⟨some 1, .mv (.tmp 20), none⟩] [0, 1, 5] []) <|
          .seq (.seq (.region [⟨some 21, .mv (.tmp 0), none⟩,
              ⟨some 22, .mv (.tmp 5), none⟩,
              ⟨some 23, .idxSl 9 (.tmp 21) (.tmp 22), none⟩,
              ⟨some 24, .fieldAddr 1 (.tmp 23), none⟩,
              ⟨some 25, .load false 1 (.tmp 24), none⟩,
              ⟨some 26, .mv (.tmp 1), none⟩,
              ⟨some 27, .bin .neq (.tmp 25) (.tmp 26), none⟩] [0, 1, 5, 27] []) <|
           .cond (.tmp 27)
             (.seq (.region [⟨some 4, .mv (.const (.int .i64 (-1))), none⟩] [4] []) <|
             .ret)
             (.skip)) <|
          .seq (.region [⟨some 28, .mv (.tmp 1), none⟩,
             ⟨some 29, .bin .add (.tmp 28) (.const (.int .i64 (1))), none⟩,
             ⟨some 1, .mv (.tmp 29), none⟩] [0, 1, 5] []) <|
          .seq (.seq (.region [⟨some 30, .mv (.tmp 0), none⟩,
              ⟨some 31, .mv (.tmp 5), none⟩,
              ⟨some 32, .idxSl 9 (.tmp 30) (.tmp 31), none⟩,
              ⟨some 33, .fieldAddr 2 (.tmp 32), none⟩,
              ⟨some 34, .load false 1 (.tmp 33), none⟩,
              ⟨some 35, .mv (.tmp 1), none⟩,
              ⟨some 36, .bin .neq (.tmp 34) (.tmp 35), none⟩] [0, 1, 5, 36] []) <|
           .cond (.tmp 36)
             (.seq (.region [⟨some 4, .mv (.const (.int .i64 (-1))), none⟩] [4] []) <|
             .ret)
             (.skip)) <|
          .seq (.region [⟨some 37, .mv (.tmp 1), none⟩,
             ⟨some 38, .bin .add (.tmp 37) (.const (.int .i64 (1))), none⟩,
             ⟨some 1, .mv (.tmp 38), none⟩] [0, 1, 5] []) <|
          .seq (.seq (.region [⟨some 39, .mv (.tmp 0), none⟩,
              ⟨some 40, .mv (.tmp 5), none⟩,
              ⟨some 41, .idxSl 9 (.tmp 39) (.tmp 40), none⟩,
              ⟨some 42, .fieldAddr 3 (.tmp 41), none⟩,
              ⟨some 43, .load false 1 (.tmp 42), none⟩,
              ⟨some 44, .mv (.tmp 1), none⟩,
              ⟨some 45, .bin .neq (.tmp 43) (.tmp 44), none⟩] [0, 1, 5, 45] []) <|
           .cond (.tmp 45)
             (.seq (.region [⟨some 4, .mv (.const (.int .i64 (-1))), none⟩] [4] []) <|
             .ret)
             (.skip)) <|
          .seq (.region [⟨some 46, .mv (.tmp 1), none⟩,
             ⟨some 47, .bin .add (.tmp 46) (.const (.int .i64 (1))), none⟩,
             ⟨some 1, .mv (.tmp 47), none⟩] [0, 1, 5] []) <|
          .seq (.seq (.region [⟨some 48, .mv (.tmp 0), none⟩,
              ⟨some 49, .mv (.tmp 5), none⟩,
              ⟨some 50, .idxSl 9 (.tmp 48) (.tmp 49), none⟩,
              ⟨some 51, .fieldAddr 4 (.tmp 50), none⟩,
              ⟨some 52, .fieldAddr 0 (.tmp 51), none⟩,
              ⟨some 53, .load false 1 (.tmp 52), none⟩,
              ⟨some 54, .mv (.tmp 1), none⟩,
              ⟨some 55, .bin .neq (.tmp 53) (.tmp 54), none⟩] [0, 1, 5, 55] []) <|
           .cond (.tmp 55)
             (.seq (.region [⟨some 4, .mv (.const (.int .i64 (-1))), none⟩] [4] []) <|
             .ret)
             (.skip)) <|
          .seq (.region [⟨some 56, .mv (.tmp 1), none⟩,
             ⟨some 57, .bin .add (.tmp 56) (.const (.int .i64 (1))), none⟩,
             ⟨some 1, .mv (.tmp 57), none⟩] [0, 1, 5] []) <|
          .seq (.seq (.region [⟨some 58, .mv (.tmp 0), none⟩,
              ⟨some 59, .mv (.tmp 5), none⟩,
              ⟨some 60, .idxSl 9 (.tmp 58) (.tmp 59), none⟩,
              ⟨some 61, .fieldAddr 4 (.tmp 60), none⟩,
              ⟨some 62, .fieldAddr 1 (.tmp 61), none⟩,
              ⟨some 63, .load false 1 (.tmp 62), none⟩,
              ⟨some 64, .mv (.tmp 1), none⟩,
              ⟨some 65, .bin .neq (.tmp 63) (.tmp 64), none⟩] [0, 1, 5, 65] []) <|
           .cond (.tmp 65)
             (.seq (.region [⟨some 4, .mv (.const (.int .i64 (-1))), none⟩] [4] []) <|
             .ret)
             (.skip)) <|
          .seq (.region [⟨some 66, .mv (.tmp 1), none⟩,
             ⟨some 67, .bin .add (.tmp 66) (.const (.int .i64 (1))), none⟩,
             ⟨some 1, .mv (.tmp 67), none⟩] [0, 1, 5] []) <|
          .seq (.seq (.region [⟨some 68, .mv (.tmp 0), none⟩,
              ⟨some 69, .mv (.tmp 5), none⟩,
              ⟨some 70, .idxSl 9 (.tmp 68) (.tmp 69), none⟩,
              ⟨some 71, .fieldAddr 6 (.tmp 70), none⟩,
              ⟨some 72, .fieldAddr 0 (.tmp 71), none⟩,
              ⟨some 73, .load false 1 (.tmp 72), none⟩,
              ⟨some 74, .mv (.tmp 1), none⟩,
              ⟨some 75, .bin .neq (.tmp 73) (.tmp 74), none⟩] [0, 1, 5, 75] []) <|
           .cond (.tmp 75)
             (.seq (.region [⟨some 4, .mv (.const (.int .i64 (-1))), none⟩] [4] []) <|
             .ret)
             (.skip)) <|
          .seq (.region [⟨some 76, .mv (.tmp 1), none⟩,
             ⟨some 77, .bin .add (.tmp 76) (.const (.int .i64 (1))), none⟩,
             ⟨some 1, .mv (.tmp 77), none⟩] [0, 1, 5] []) <|
          .seq (.seq (.region [⟨some 78, .mv (.tmp 0), none⟩,
              ⟨some 79, .mv (.tmp 5), none⟩,
              ⟨some 80, .idxSl 9 (.tmp 78) (.tmp 79), none⟩,
              ⟨some 81, .fieldAddr 6 (.tmp 80), none⟩,
              ⟨some 82, .fieldAddr 1 (.tmp 81), none⟩,
              ⟨some 83, .load false 1 (.tmp 82), none⟩,
              ⟨some 84, .mv (.tmp 1), none⟩,
              ⟨some 85, .bin .neq (.tmp 83) (.tmp 84), none⟩] [0, 1, 5, 85] []) <|
           .cond (.tmp 85)
             (.seq (.region [⟨some 4, .mv (.const (.int .i64 (-1))), none⟩] [4] []) <|
             .ret)
             (.skip)) <|
          .seq (.region [⟨some 86, .mv (.tmp 1), none⟩,
             ⟨some 87, .bin .add (.tmp 86) (.const (.int .i64 (1))), none⟩,
             ⟨some 1, .mv (.tmp 87), none⟩] [0, 1, 5] []) <|
          .seq (.seq (.region [⟨some 88, .mv (.tmp 0), none⟩,
              ⟨some 89, .mv (.tmp 5), none⟩,
              ⟨some 90, .idxSl 9 (.tmp 88) (.tmp 89), none⟩,
              ⟨some 91, .fieldAddr 8 (.tmp 90), none⟩,
              ⟨some 92, .load false 1 (.tmp 91), none⟩,
              ⟨some 93, .mv (.tmp 1), none⟩,
              ⟨some 94, .call (.func F.laws_markText) [(.tmp 93)] [], none⟩,
              ⟨some 95, .binS .neq (.tmp 92) (.tmp 94), none⟩] [0, 1, 5, 95] [88, 89, 91, 92, 90, 93, 94, 95]) <|
           .cond (.tmp 95)
             (.seq (.region [⟨some 4, .mv (.const (.int .i64 (-1))), none⟩] [4] []) <|
             .ret)
             (.skip)) <|
          .region [⟨some 96, .mv (.tmp 1), none⟩,
            ⟨some 97, .bin .add (.tmp 96) (.const (.int .i64 (1))), none⟩,
            ⟨some 1, .mv (.tmp 97), none⟩] [0, 1, 5] [])) <|
       .region [⟨some 10, .mv (.tmp 5), none⟩,
         ⟨some 11, .bin .add (.tmp 10) (.const (.int .i64 (1))), none⟩,
         ⟨some 5, .mv (.tmp 11), none⟩] [0, 1, 5] []))) <|
  .seq (.region [⟨some 98, .mv (.tmp 1), none⟩,
     ⟨some 4, .mv (.tmp 98), none⟩] [4] []) <|
  .ret
theorem Cd.laws_heldStepS_rs : Try.f22.results.toList = [.tmp 4] := rfl
theorem Cd.laws_heldStepS_nt : Try.f22.ntmps = 99 := rfl
theorem Cd.laws_heldStepS_ok : CodeIsR Try.prog 22 Try.f22 Cd.laws_heldStepS := ⟨Try.func22, by kernel_rfl, by decide +kernel⟩
/-- loop.example/g01012/laws.szStepS -/
def Cd.laws_szStepS : ACode :=
  .seq (.region [⟨some 4, .mv (.const (.int .i64 (0))), none⟩] [0, 1] []) <|
  .seq (.region [⟨some 6, .mv (.tmp 1), none⟩,
     ⟨some 7, .mv (.tmp 0), none⟩,
     ⟨some 8, .len (.tmp 7), none⟩,
     ⟨some 9, .bin .sub (.tmp 6) (.tmp 8), none⟩,
     ⟨some 1, .mv (.tmp 9), none⟩] [0, 1] []) <|
  .seq (.seq (.region [⟨some 10, .mv (.tmp 1), none⟩,
      ⟨some 11, .bin .lss (.tmp 10) (.const (.int .i64 (0))), none⟩] [0, 1, 11] []) <|
   .cond (.tmp 11)
     (.seq (.region [⟨some 4, .mv (.const (.int .i64 (-1))), none⟩] [4] []) <|
     .ret)
     (.skip)) <|
  .seq (.seq (.region [⟨some 5, .mv (.const (.int .i64 (0))), none⟩] [0, 1, 5] []) <|
   .block 0 (
     .loop (
       .seq (.seq (.region [⟨some 12, .mv (.tmp 5), none⟩,
           ⟨some 13, .mv (.tmp 0), none⟩,
           ⟨some 14, .len (.tmp 13), none⟩,
           ⟨some 15, .bin .lss (.tmp 12) (.tmp 14), none⟩] [0, 1, 5, 15] []) <|
        .cond (.tmp 15)
          (.skip)
          (.exit 0)) <|
       .seq (.block 1 (
          .seq (.region [⟨some 18, .mv (.tmp 0), none⟩,
             ⟨some 19, .mv (.tmp 5), none⟩,
             ⟨some 20, .idxSl 9 (.tmp 18) (.tmp 19), none⟩,
             ⟨some 21, .load true 9 (.tmp 20), none⟩,
             ⟨some 22, .mv (.tmp 1), none⟩,
             ⟨some 23, .call (.func F.laws_szStep) [(.tmp 21), (.tmp 22)] [], none⟩,
             ⟨some 1, .mv (.tmp 23), none⟩] [0, 1, 5] []) <|
          .seq (.region [⟨some 24, .mv (.tmp 1), none⟩,
             ⟨some 25, .bin .lss (.tmp 24) (.const (.int .i64 (0))), none⟩] [0, 1, 5, 25] []) <|
          .cond (.tmp 25)
            (.seq (.region [⟨some 4, .mv (.const (.int .i64 (-1))), none⟩] [4] []) <|
            .ret)
            (.skip))) <|
       .region [⟨some 16, .mv (.tmp 5), none⟩,
         ⟨some 17, .bin .add (.tmp 16) (.const (.int .i64 (1))), none⟩,
         ⟨some 5, .mv (.tmp 17), none⟩] [0, 1, 5] []))) <|
  .seq (.region [⟨some 26, .mv (.tmp 1), none⟩,
     ⟨some 4, .mv (.tmp 26), none⟩] [4] []) <|
  .ret
theorem Cd.laws_szStepS_rs : Try.f23.results.toList = [.tmp 4] := rfl
theorem Cd.laws_szStepS_nt : Try.f23.ntmps = 27 := rfl
theorem Cd.laws_szStepS_ok : CodeIsR Try.prog 23 Try.f23 Cd.laws_szStepS := ⟨Try.func23, by kernel_rfl, by decide +kernel⟩
/-- loop.example/g01012/spec.FlowUses -/
def Cd.spec_FlowUses : ACode :=
  .seq (.region [⟨some 2, .mv (.const (.slice none 0 0)), none⟩,
     ⟨some 3, .mv (.const (.int .i64 (0))), none⟩] [0] []) <|
  .seq (.seq (.region [⟨some 8, .mv (.tmp 0), none⟩,
      ⟨some 9, .call (.func F.spec_l15Flow) [(.tmp 8), (.const (.int .i64 (20)))] [], none⟩,
      ⟨some 10, .un .not (.tmp 9), none⟩] [0, 10] []) <|
   .cond (.tmp 10)
     (.seq (.region [⟨some 2, .mv (.const (.slice none 0 0)), none⟩,
        ⟨some 3, .mv (.const (.int .i64 (2))), none⟩] [2, 3] []) <|
     .ret)
     (.skip)) <|
  .seq (.closing 4 (
     .region [⟨some 11, .bslice 1 0 [.v (.int .i64 (0))] [], none⟩,
       ⟨some 4, .mv (.tmp 11), none⟩] [0, 4] [])) <|
  .seq (.naming 5 (
     .region [⟨some 12, .bslice 1 0 [.v (.int .i64 (0))] [], none⟩,
       ⟨some 5, .mv (.tmp 12), none⟩] [0, 4, 5] [])) <|
  .seq (.seq (.region [⟨some 6, .mv (.const (.int .i64 (0))), none⟩] [0, 4, 5, 6] []) <|
   .block 0 (
     .loop (
       .seq (.seq (.region [⟨some 13, .mv (.tmp 6), none⟩,
           ⟨some 14, .mv (.tmp 0), none⟩,
           ⟨some 15, .len (.tmp 14), none⟩,
           ⟨some 16, .bin .lss (.tmp 13) (.tmp 15), none⟩] [0, 4, 5, 6, 16] []) <|
        .cond (.tmp 16)
          (.skip)
          (.exit 0)) <|
       .seq (.block 1 (
          .seq (.region [⟨some 19, .mv (.tmp 0), none⟩,
             ⟨some 20, .mv (.tmp 6), none⟩,
             ⟨some 21, .idxSl 9 (.tmp 19) (.tmp 20), none⟩,
             ⟨some 7, .mv (.tmp 21), none⟩] [0, 4, 5, 6, 7] []) <|
          .seq (.seq (.region [⟨some 22, .mv (.tmp 5), none⟩,
              ⟨some 23, .mv (.tmp 7), none⟩,
              ⟨some 24, .nilc (.tmp 23), none⟩,
              ⟨some 25, .fieldAddr 1 (.tmp 24), none⟩,
              ⟨some 26, .load false 1 (.tmp 25), none⟩,
              ⟨some 27, .call (.func F.spec_l00Has) [(.tmp 22), (.tmp 26)] [], none⟩,
              ⟨some 28, .un .not (.tmp 27), none⟩] [0, 4, 5, 6, 7, 28] []) <|
           .cond (.tmp 28)
             (.closing 4 (
               .region [⟨some 29, .mv (.tmp 4), none⟩,
                 ⟨some 30, .mv (.tmp 7), none⟩,
                 ⟨some 31, .nilc (.tmp 30), none⟩,
                 ⟨some 32, .fieldAddr 1 (.tmp 31), none⟩,
                 ⟨some 33, .load false 1 (.tmp 32), none⟩,
                 ⟨some 34, .call (.func F.spec_l00Put) [(.tmp 29), (.tmp 33)] [], none⟩,
                 ⟨some 4, .mv (.tmp 34), none⟩] [0, 4, 5, 6, 7] []))
             (.skip)) <|
          .seq (.seq (.region [⟨some 35, .mv (.tmp 7), none⟩,
              ⟨some 36, .nilc (.tmp 35), none⟩,
              ⟨some 37, .fieldAddr 0 (.tmp 36), none⟩,
              ⟨some 38, .load false 1 (.tmp 37), none⟩,
              ⟨some 39, .call (.func F.spec_l15Both) [(.tmp 38)] [], none⟩,
              ⟨some 40, .mv (.tmp 39), none⟩,
              ⟨some 41, .mv (.tmp 5), some (40, true)⟩,
              ⟨some 42, .mv (.tmp 7), some (40, true)⟩,
              ⟨some 43, .nilc (.tmp 42), some (40, true)⟩,
              ⟨some 44, .fieldAddr 2 (.tmp 43), some (40, true)⟩,
              ⟨some 45, .load false 1 (.tmp 44), some (40, true)⟩,
              ⟨some 46, .call (.func F.spec_l00Has) [(.tmp 41), (.tmp 45)] [], some (40, true)⟩,
              ⟨some 47, .un .not (.tmp 46), some (40, true)⟩,
              ⟨some 48, .pick (.tmp 40) (.tmp 47) (.const (.bool false)), none⟩] [0, 4, 5, 6, 7, 48] []) <|
           .cond (.tmp 48)
             (.closing 4 (
               .region [⟨some 49, .mv (.tmp 4), none⟩,
                 ⟨some 50, .mv (.tmp 7), none⟩,
                 ⟨some 51, .nilc (.tmp 50), none⟩,
                 ⟨some 52, .fieldAddr 2 (.tmp 51), none⟩,
                 ⟨some 53, .load false 1 (.tmp 52), none⟩,
                 ⟨some 54, .call (.func F.spec_l00Put) [(.tmp 49), (.tmp 53)] [], none⟩,
                 ⟨some 4, .mv (.tmp 54), none⟩] [0, 4, 5, 6, 7] []))
             (.skip)) <|
          .seq (.region [⟨some 55, .mv (.tmp 7), none⟩,
             ⟨some 56, .nilc (.tmp 55), none⟩,
             ⟨some 57, .fieldAddr 0 (.tmp 56), none⟩,
             ⟨some 58, .load false 1 (.tmp 57), none⟩,
             ⟨some 59, .bin .neq (.tmp 58) (.const (.int .i64 (7))), none⟩] [0, 4, 5, 6, 7, 59] []) <|
          .cond (.tmp 59)
            (.naming 5 (
              .region [⟨some 60, .mv (.tmp 5), none⟩,
                ⟨some 61, .mv (.tmp 7), none⟩,
                ⟨some 62, .nilc (.tmp 61), none⟩,
                ⟨some 63, .fieldAddr 3 (.tmp 62), none⟩,
                ⟨some 64, .load false 1 (.tmp 63), none⟩,
                ⟨some 65, .bslice 1 1 [.v (.int .i64 (0))] [(0, (.tmp 64))], none⟩,
                ⟨some 66, .append 1 8 (.tmp 60) (.tmp 65), none⟩,
                ⟨some 5, .mv (.tmp 66), none⟩] [0, 4, 5, 6] []))
            (.skip))) <|
       .region [⟨some 17, .mv (.tmp 6), none⟩,
         ⟨some 18, .bin .add (.tmp 17) (.const (.int .i64 (1))), none⟩,
         ⟨some 6, .mv (.tmp 18), none⟩] [0, 4, 5, 6] []))) <|
  .seq (.region [⟨some 67, .mv (.tmp 4), none⟩,
     ⟨some 2, .mv (.tmp 67), none⟩,
     ⟨some 3, .mv (.const (.int .i64 (0))), none⟩] [2, 3] []) <|
  .ret
theorem Cd.spec_FlowUses_rs : Try.f24.results.toList = [.tmp 2, .tmp 3] := rfl
theorem Cd.spec_FlowUses_nt : Try.f24.ntmps = 68 := rfl
theorem Cd.spec_FlowUses_ok : CodeIsR Try.prog 24 Try.f24 Cd.spec_FlowUses := ⟨Try.func24, by kernel_rfl, by decide +kernel⟩
/-- loop.example/g01012/laws.toStepS -/
def Cd.laws_toStepS : ACode :=
  .seq (.region [⟨some 2, .mv (.const (.slice none 0 0)), none⟩] [0] []) <|
  .seq (.region [⟨some 5, .mv (.tmp 0), none⟩,
     ⟨some 6, .len (.tmp 5), none⟩,
     ⟨some 7, .mk 9 80 [.v (.int .i64 (0)), .v (.int .i64 (0)), .v (.int .i64 (0)), .v (.int .i64 (0)), .v (.int .i64 (0)), .v (.int .i64 (0)), .v (.int .i64 (0)), .v (.int .i64 (0)), .v (.string ⟨#[]⟩)] (.tmp 6), none⟩,
     ⟨some 3, .mv (.tmp 7), none⟩] [0, 3] []) <|
  .seq (.seq (.region [⟨some 4, .mv (.const (.int .i64 (0))), none⟩] [0, 3, 4] []) <|
   .block 0 (
     .loop (
       .seq (.seq (.region [⟨some 8, .mv (.tmp 4), none⟩,
           ⟨some 9, .mv (.tmp 0), none⟩,
           ⟨some 10, .len (.tmp 9), none⟩,
           ⟨some 11, .bin .lss (.tmp 8) (.tmp 10), none⟩] [0, 3, 4, 11] []) <|
        .cond (.tmp 11)
          (.skip)
          (.exit 0)) <|
       .seq (.block 1 (
          .region [⟨some 14, .mv (.tmp 3), none⟩,
            ⟨some 15, .mv (.tmp 4), none⟩,
            ⟨some 16, .mv (.tmp 0), none⟩,
            ⟨some 17, .mv (.tmp 4), none⟩,
            ⟨some 18, .idxSl 9 (.tmp 16) (.tmp 17), none⟩,
            ⟨some 19, .load true 9 (.tmp 18), none⟩,
            ⟨some 20, .call (.func F.laws_toStep) [(.tmp 19)] [], none⟩,
            ⟨some 21, .idxSl 9 (.tmp 14) (.tmp 15), none⟩,
            ⟨none, .store 9 (.tmp 21) (.tmp 20), none⟩] [0, 3, 4] [])) <|
       .region [⟨some 12, .mv (.tmp 4), none⟩,
         ⟨some 13, .bin .add (.tmp 12) (.const (.int .i64 (1))), none⟩,
         ⟨some 4, .mv (.tmp 13), none⟩] [0, 3, 4] []))) <|
  .seq (.region [⟨some 22, .mv (.tmp 3), none⟩,
     ⟨some 2, .mv (.tmp 22), none⟩] [2] []) <|
  .ret
theorem Cd.laws_toStepS_rs : Try.f25.results.toList = [.tmp 2] := rfl
theorem Cd.laws_toStepS_nt : Try.f25.ntmps = 23 := rfl
theorem Cd.laws_toStepS_ok : CodeIsR Try.prog 25 Try.f25 Cd.laws_toStepS := ⟨Try.func25, by kernel_rfl, by decide +kernel⟩
/-- loop.example/g01012/impl.FlowUses DRAWS -/
def Cd.impl_FlowUses : ACode :=
  .seq (.region [⟨some 2, .mv (.const (.slice none 0 0)), none⟩,
     ⟨some 3, .mv (.const (.int .i64 (0))), none⟩] [0] []) <|
  .seq (.seq (.region [⟨some 8, .mv (.tmp 0), none⟩,
      ⟨some 9, .call (.func F.impl_ValidFlow) [(.tmp 8), (.const (.int .i64 (20)))] [], none⟩,
      ⟨some 10, .un .not (.tmp 9), none⟩] [0, 10] []) <|
   .cond (.tmp 10)
     (.seq (.region [⟨some 2, .mv (.const (.slice none 0 0)), none⟩,
        ⟨some 3, .mv (.const (.int .i64 (2))), none⟩] [2, 3] []) <|
     .ret)
     (.skip)) <|
  .seq (.region [⟨some 11, .build [.v (.bool false), .v (.bool false), .v (.bool false), .v (.bool false), .v (.bool false), .v (.bool false)] [], none⟩,
     ⟨some 12, .build [.v (.bool false), .v (.bool false), .v (.bool false), .v (.bool false), .v (.bool false), .v (.bool false)] [], none⟩,
     ⟨some 4, .alloc [.v (.bool false), .v (.bool false), .v (.bool false), .v (.bool false), .v (.bool false), .v (.bool false)], none⟩,
     ⟨some 5, .alloc [.v (.bool false), .v (.bool false), .v (.bool false), .v (.bool false), .v (.bool false), .v (.bool false)], none⟩,
     ⟨none, .store 6 (.tmp 4) (.tmp 11), none⟩,
     ⟨none, .store 6 (.tmp 5) (.tmp 12), none⟩] [0, 4, 5] []) <|
  .seq (.seq (.region [⟨some 13, .mv (.tmp 0), none⟩,
      ⟨some 14, .len (.tmp 13), none⟩,
      ⟨some 15, .mv (.const (.int .i64 (0))), none⟩] [4, 5, 13, 14, 15] []) <|
   .block 0 (
     .loop (
       .seq (.region [⟨some 16, .bin .lss (.tmp 15) (.tmp 14), none⟩] [4, 5, 13, 14, 15, 16] []) <|
       .seq (.cond (.tmp 16)
          (.skip)
          (.exit 0)) <|
       .seq (.block 1 (
          .seq (.region [⟨some 17, .idxSl 9 (.tmp 13) (.tmp 15), none⟩,
             ⟨some 18, .load true 9 (.tmp 17), none⟩,
             ⟨some 7, .alloc [.v (.int .i64 (0)), .v (.int .i64 (0)), .v (.int .i64 (0)), .v (.int .i64 (0)), .v (.int .i64 (0)), .v (.int .i64 (0)), .v (.int .i64 (0)), .v (.int .i64 (0)), .v (.string ⟨#[]⟩)], none⟩,
             ⟨none, .store 9 (.tmp 7) (.tmp 18), none⟩] [4, 5, 7, 13, 14, 15] []) <|
          .seq (.region [⟨some 19, .fieldAddr 1 (.tmp 7), none⟩,
             ⟨some 20, .load false 1 (.tmp 19), none⟩,
             ⟨some 21, .fieldAddr 1 (.tmp 7), none⟩,
             ⟨some 22, .load false 1 (.tmp 21), none⟩,
             ⟨some 23, .idxArr 6 1 (.tmp 4) (.tmp 22), none⟩,
             ⟨some 24, .load false 1 (.tmp 23), none⟩,
             ⟨some 25, .mv (.tmp 24), none⟩,
             ⟨some 26, .fieldAddr 1 (.tmp 7), some (25, false)⟩,
             ⟨some 27, .load false 1 (.tmp 26), some (25, false)⟩,
             ⟨some 28, .idxArr 6 1 (.tmp 5) (.tmp 27), some (25, false)⟩,
             ⟨some 29, .load false 1 (.tmp 28), some (25, false)⟩,
             ⟨some 30, .un .not (.tmp 29), some (25, false)⟩,
             ⟨some 31, .pick (.tmp 25) (.const (.bool true)) (.tmp 30), none⟩,
             ⟨some 32, .idxArr 6 1 (.tmp 4) (.tmp 20), none⟩,
             ⟨none, .store 1 (.tmp 32) (.tmp 31), none⟩] [4, 5, 7, 13, 14, 15] [19, 21, 20, 22, 23, 24, 25, 26, 27, 28, 29, 30, 31]) <|
          .seq (.seq (.region [⟨some 33, .fieldAddr 0 (.tmp 7), none⟩,
              ⟨some 34, .load false 1 (.tmp 33), none⟩,
              ⟨some 35, .call (.func F.impl_takesTwo) [(.tmp 34)] [], none⟩] [4, 5, 7, 13, 14, 15, 35] []) <|
           .cond (.tmp 35)
             (.region [⟨some 36, .fieldAddr 2 (.tmp 7), none⟩,
               ⟨some 37, .load false 1 (.tmp 36), none⟩,
               ⟨some 38, .fieldAddr 2 (.tmp 7), none⟩,
               ⟨some 39, .load false 1 (.tmp 38), none⟩,
               ⟨some 40, .idxArr 6 1 (.tmp 4) (.tmp 39), none⟩,
               ⟨some 41, .load false 1 (.tmp 40), none⟩,
               ⟨some 42, .mv (.tmp 41), none⟩,
               ⟨some 43, .fieldAddr 2 (.tmp 7), some (42, false)⟩,
               ⟨some 44, .load false 1 (.tmp 43), some (42, false)⟩,
               ⟨some 45, .idxArr 6 1 (.tmp 5) (.tmp 44), some (42, false)⟩,
               ⟨some 46, .load false 1 (.tmp 45), some (42, false)⟩,
               ⟨some 47, .un .not (.tmp 46), some (42, false)⟩,
               ⟨some 48, .pick (.tmp 42) (.const (.bool true)) (.tmp 47), none⟩,
               ⟨some 49, .idxArr 6 1 (.tmp 4) (.tmp 37), none⟩,
               ⟨none, .store 1 (.tmp 49) (.tmp 48), none⟩] [4, 5, 7, 13, 14, 15] [36, 38, 37, 39, 40, 41, 42, 43, 44, 45, 46, 47, 48])
             (.skip)) <|
          .seq (.region [⟨some 50, .fieldAddr 0 (.tmp 7), none⟩,
             ⟨some 51, .load false 1 (.tmp 50), none⟩,
             ⟨some 52, .bin .neq (.tmp 51) (.const (.int .i64 (7))), none⟩] [4, 5, 7, 13, 14, 15, 52] []) <|
          .cond (.tmp 52)
            (.region [⟨some 53, .fieldAddr 3 (.tmp 7), none⟩,
              ⟨some 54, .load false 1 (.tmp 53), none⟩,
              ⟨some 55, .idxArr 6 1 (.tmp 5) (.tmp 54), none⟩,
              ⟨none, .store 1 (.tmp 55) (.const (.bool true)), none⟩] [4, 5, 13, 14, 15] [])
            (.skip))) <|
       .region [⟨some 56, .bin .add (.tmp 15) (.const (.int .i64 (1))), none⟩,
         ⟨some 15, .mv (.tmp 56), none⟩] [4, 5, 13, 14, 15] []))) <|
  .seq (.region [⟨some 57, .mkfn F.impl_FlowUses_1 [(.tmp 4)], none⟩,
     ⟨some 58, .call (.func F.impl_columnsWhere) [(.const (.int .i64 (6))), (.tmp 57)] [], none⟩,
     ⟨some 2, .mv (.tmp 58), none⟩,
     ⟨some 3, .mv (.const (.int .i64 (0))), none⟩] [2, 3] []) <|
  .ret
theorem Cd.impl_FlowUses_rs : Try.f26.results.toList = [.tmp 2, .tmp 3] := rfl
theorem Cd.impl_FlowUses_nt : Try.f26.ntmps = 59 := rfl
theorem Cd.impl_FlowUses_ok : CodeIsR Try.prog 26 Try.f26 Cd.impl_FlowUses := ⟨Try.func26, by kernel_rfl, by decide +kernel⟩
/-- loop.example/g01012/spec.l16Ok DRAWS -/
def Cd.spec_l16Ok : ACode :=
  .seq (.region [⟨some 4, .mv (.const (.bool false)), none⟩] [0, 1] []) <|
  .seq (.seq (.region [⟨some 5, .mv (.tmp 0), none⟩,
      ⟨some 6, .nilc (.tmp 5), none⟩,
      ⟨some 7, .fieldAddr 3 (.tmp 6), none⟩,
      ⟨some 8, .load true 2 (.tmp 7), none⟩,
      ⟨some 9, .mv (.tmp 1), none⟩,
      ⟨some 10, .call (.func F.spec_l02Field) [(.tmp 8), (.tmp 9)] [], none⟩,
      ⟨some 11, .un .not (.tmp 10), none⟩,
      ⟨some 12, .mv (.tmp 11), none⟩,
      ⟨some 13, .mv (.tmp 0), some (12, false)⟩,
      ⟨some 14, .nilc (.tmp 13), some (12, false)⟩,
      ⟨some 15, .fieldAddr 5 (.tmp 14), some (12, false)⟩,
      ⟨some 16, .load true 2 (.tmp 15), some (12, false)⟩,
      ⟨some 17, .mv (.tmp 1), some (12, false)⟩,
      ⟨some 18, .call (.func F.spec_l02Field) [(.tmp 16), (.tmp 17)] [], some (12, false)⟩,
      ⟨some 19, .un .not (.tmp 18), some (12, false)⟩,
      ⟨some 20, .pick (.tmp 12) (.const (.bool true)) (.tmp 19), none⟩,
      ⟨some 21, .mv (.tmp 20), none⟩,
      ⟨some 22, .mv (.tmp 0), some (21, false)⟩,
      ⟨some 23, .nilc (.tmp 22), some (21, false)⟩,
      ⟨some 24, .fieldAddr 5 (.tmp 23), some (21, false)⟩,
      ⟨some 25, .fieldAddr 1 (.tmp 24), some (21, false)⟩,
      ⟨some 26, .load false 1 (.tmp 25), some (21, false)⟩,
      ⟨some 27, .mv (.tmp 0), some (21, false)⟩,
      ⟨some 28, .nilc (.tmp 27), some (21, false)⟩,
      ⟨some 29, .fieldAddr 5 (.tmp 28), some (21, false)⟩,
      ⟨some 30, .fieldAddr 0 (.tmp 29), some (21, false)⟩,
      ⟨some 31, .load false 1 (.tmp 30), some (21, false)⟩,
      ⟨some 32, .bin .sub (.tmp 26) (.tmp 31), some (21, false)⟩,
      ⟨some 33, .bin .gtr (.tmp 32) (.const (.int .i64 (12))), some (21, false)⟩,
      ⟨some 34, .pick (.tmp 21) (.const (.bool true)) (.tmp 33), none⟩] [0, 1, 34] [5, 7, 8, 6, 9, 10, 11, 12, 13, 14, 15, 16, 17, 18, 19, 20, 21, 22, 23, 24, 25, 26, 27, 28, 29, 30, 31, 32, 33, 34]) <|
   .cond (.tmp 34)
     (.seq (.region [⟨some 4, .mv (.const (.bool false)), none⟩] [4] []) <|
     .ret)
     (.skip)) <|
  .seq (.seq (.region [⟨some 35, .mv (.tmp 0), none⟩,
      ⟨some 36, .nilc (.tmp 35), none⟩,
      ⟨some 37, .fieldAddr 2 (.tmp 36), none⟩,
      ⟨some 38, .load false 1 (.tmp 37), none⟩,
      ⟨some 39, .binS .eql (.tmp 38) (.const (.string ⟨#[]⟩)), none⟩] [0, 1, 39] []) <|
   .cond (.tmp 39)
     (.seq (.region [⟨some 40, .mv (.tmp 0), none⟩,
        ⟨some 41, .nilc (.tmp 40), none⟩,
        ⟨some 42, .fieldAddr 0 (.tmp 41), none⟩,
        ⟨some 43, .load true 2 (.tmp 42), none⟩,
        ⟨some 44, .build [.v (.int .i64 (0)), .v (.int .i64 (0))] [], none⟩,
        ⟨some 45, .eqA false [0, 0] (.tmp 43) (.tmp 44), none⟩,
        ⟨some 4, .mv (.tmp 45), none⟩] [4] []) <|
     .ret)
     (.skip)) <|
  .seq (.region [⟨some 46, .mv (.tmp 0), none⟩,
     ⟨some 47, .nilc (.tmp 46), none⟩,
     ⟨some 48, .fieldAddr 0 (.tmp 47), none⟩,
     ⟨some 49, .load true 2 (.tmp 48), none⟩,
     ⟨some 50, .mv (.tmp 1), none⟩,
     ⟨some 51, .call (.func F.spec_l02Field) [(.tmp 49), (.tmp 50)] [], none⟩,
     ⟨some 52, .mv (.tmp 51), none⟩,
     ⟨some 53, .mv (.tmp 0), some (52, true)⟩,
     ⟨some 54, .nilc (.tmp 53), some (52, true)⟩,
     ⟨some 55, .fieldAddr 2 (.tmp 54), some (52, true)⟩,
     ⟨some 56, .load false 1 (.tmp 55), some (52, true)⟩,
     ⟨some 57, .mv (.tmp 0), some (52, true)⟩,
     ⟨some 58, .nilc (.tmp 57), some (52, true)⟩,
     ⟨some 59, .fieldAddr 0 (.tmp 58), some (52, true)⟩,
     ⟨some 60, .load true 2 (.tmp 59), some (52, true)⟩,
     ⟨some 61, .call (.func F.spec_l09Text) [(.tmp 56), (.tmp 60)] [], some (52, true)⟩,
     ⟨some 62, .bin .eql (.tmp 61) (.const (.int .i64 (0))), some (52, true)⟩,
     ⟨some 63, .pick (.tmp 52) (.tmp 62) (.const (.bool false)), none⟩,
     ⟨some 4, .mv (.tmp 63), none⟩] [4] [46, 48, 49, 47, 50, 51, 52, 53, 54, 55, 56, 57, 58, 59, 60, 61, 62, 63]) <|
  .ret
theorem Cd.spec_l16Ok_rs : Try.f33.results.toList = [.tmp 4] := rfl
theorem Cd.spec_l16Ok_nt : Try.f33.ntmps = 64 := rfl
theorem Cd.spec_l16Ok_ok : CodeIsR Try.prog 33 Try.f33 Cd.spec_l16Ok := ⟨Try.func33, by kernel_rfl, by decide +kernel⟩
/-- loop.example/g01012/laws.toField -/
def Cd.laws_toField : ACode :=
  .seq (.region [⟨some 1, .box (.tmp 0), none⟩,
     ⟨some 2, .alloc [.v (.int .i64 (0)), .v (.int .i64 (0))], none⟩] [1, 2] []) <|
  .seq (.region [⟨some 3, .alloc [.v (.int .i64 (0)), .v (.int .i64 (0))], none⟩] [1, 2, 3] []) <|
  .seq (.region [⟨some 4, .fieldAddr 0 (.tmp 1), none⟩,
     ⟨some 5, .load false 1 (.tmp 4), none⟩,
     ⟨some 6, .fieldAddr 0 (.tmp 3), none⟩,
     ⟨none, .store 1 (.tmp 6) (.tmp 5), none⟩] [1, 2, 3] []) <|
  .seq (.region [⟨some 7, .fieldAddr 1 (.tmp 1), none⟩,
     ⟨some 8, .load false 1 (.tmp 7), none⟩,
     ⟨some 9, .fieldAddr 1 (.tmp 3), none⟩,
     ⟨none, .store 1 (.tmp 9) (.tmp 8), none⟩] [2, 3] []) <|
  .seq (.region [⟨some 10, .load true 2 (.tmp 3), none⟩,
     ⟨none, .store 2 (.tmp 2) (.tmp 10), none⟩] [2] []) <|
  .ret
theorem Cd.laws_toField_rs : Try.f35.results.toList = [.cell 2 43] := rfl
theorem Cd.laws_toField_nt : Try.f35.ntmps = 11 := rfl
theorem Cd.laws_toField_ok : CodeIsR Try.prog 35 Try.f35 Cd.laws_toField := ⟨Try.func35, by kernel_rfl, by decide +kernel⟩
/-- loop.example/g01012/impl.ValidSpec -/
def Cd.impl_ValidSpec : ACode :=
  .seq (.region [⟨some 2, .box (.tmp 0), none⟩,
     ⟨some 4, .mv (.const (.bool false)), none⟩] [1, 2] []) <|
  .seq (.seq (.region [⟨some 5, .mv (.tmp 1), none⟩,
      ⟨some 6, .call (.func F.impl_inside) [(.tmp 5), (.const (.int .i64 (1))), (.const (.int .i64 (20)))] [], none⟩,
      ⟨some 7, .un .not (.tmp 6), none⟩,
      ⟨some 8, .mv (.tmp 7), none⟩,
      ⟨some 9, .fieldAddr 3 (.tmp 2), some (8, false)⟩,
      ⟨some 10, .load true 2 (.tmp 9), some (8, false)⟩,
      ⟨some 11, .mv (.tmp 1), some (8, false)⟩,
      ⟨some 12, .call (.func F.impl_isField) [(.tmp 10), (.tmp 11)] [], some (8, false)⟩,
      ⟨some 13, .un .not (.tmp 12), some (8, false)⟩,
      ⟨some 14, .pick (.tmp 8) (.const (.bool true)) (.tmp 13), none⟩,
      ⟨some 15, .mv (.tmp 14), none⟩,
      ⟨some 16, .fieldAddr 5 (.tmp 2), some (15, false)⟩,
      ⟨some 17, .load true 2 (.tmp 16), some (15, false)⟩,
      ⟨some 18, .mv (.tmp 1), some (15, false)⟩,
      ⟨some 19, .call (.func F.impl_isNumberField) [(.tmp 17), (.tmp 18)] [], some (15, false)⟩,
      ⟨some 20, .un .not (.tmp 19), some (15, false)⟩,
      ⟨some 21, .pick (.tmp 15) (.const (.bool true)) (.tmp 20), none⟩] [1, 2, 21] []) <|
   .cond (.tmp 21)
     (.seq (.region [⟨some 4, .mv (.const (.bool false)), none⟩] [4] []) <|
     .ret)
     (.skip)) <|
  .seq (.seq (.region [⟨some 22, .fieldAddr 2 (.tmp 2), none⟩,
      ⟨some 23, .load false 1 (.tmp 22), none⟩,
      ⟨some 24, .binS .eql (.tmp 23) (.const (.string ⟨#[]⟩)), none⟩] [1, 2, 24] []) <|
   .cond (.tmp 24)
     (.seq (.region [⟨some 25, .fieldAddr 0 (.tmp 2), none⟩,
        ⟨some 26, .load true 2 (.tmp 25), none⟩,
        ⟨some 27, .build [.v (.int .i64 (0)), .v (.int .i64 (0))] [], none⟩,
        ⟨some 28, .eqA false [0, 0] (.tmp 26) (.tmp 27), none⟩,
        ⟨some 4, .mv (.tmp 28), none⟩] [4] []) <|
     .ret)
     (.skip)) <|
  .seq (.region [⟨some 29, .fieldAddr 0 (.tmp 2), none⟩,
     ⟨some 30, .load true 2 (.tmp 29), none⟩,
     ⟨some 31, .mv (.tmp 1), none⟩,
     ⟨some 32, .call (.func F.impl_isField) [(.tmp 30), (.tmp 31)] [], none⟩,
     ⟨some 33, .mv (.tmp 32), none⟩,
     ⟨some 34, .fieldAddr 2 (.tmp 2), some (33, true)⟩,
     ⟨some 35, .load false 1 (.tmp 34), some (33, true)⟩,
     ⟨some 36, .call (.func F.impl_areCharacters) [(.tmp 35)] [], some (33, true)⟩,
     ⟨some 37, .pick (.tmp 33) (.tmp 36) (.const (.bool false)), none⟩,
     ⟨some 38, .mv (.tmp 37), none⟩,
     ⟨some 39, .fieldAddr 2 (.tmp 2), some (38, true)⟩,
     ⟨some 40, .load false 1 (.tmp 39), some (38, true)⟩,
     ⟨some 41, .lenS (.tmp 40), some (38, true)⟩,
     ⟨some 42, .fieldAddr 0 (.tmp 2), some (38, true)⟩,
     ⟨some 43, .fieldAddr 1 (.tmp 42), some (38, true)⟩,
     ⟨some 44, .load false 1 (.tmp 43), some (38, true)⟩,
     ⟨some 45, .fieldAddr 0 (.tmp 2), some (38, true)⟩,
     ⟨some 46, .fieldAddr 0 (.tmp 45), some (38, true)⟩,
     ⟨some 47, .load false 1 (.tmp 46), some (38, true)⟩,
     ⟨some 48, .bin .sub (.tmp 44) (.tmp 47), some (38, true)⟩,
     ⟨some 49, .bin .eql (.tmp 41) (.tmp 48), some (38, true)⟩,
     ⟨some 50, .pick (.tmp 38) (.tmp 49) (.const (.bool false)), none⟩,
     ⟨some 4, .mv (.tmp 50), none⟩] [4] []) <|
  .ret
theorem Cd.impl_ValidSpec_rs : Try.f36.results.toList = [.tmp 4] := rfl
theorem Cd.impl_ValidSpec_nt : Try.f36.ntmps = 51 := rfl
theorem Cd.impl_ValidSpec_ok : CodeIsR Try.prog 36 Try.f36 Cd.impl_ValidSpec := ⟨Try.func36, by kernel_rfl, by decide +kernel⟩
/-- loop.example/g01012/laws.eqStep -/
def Cd.laws_eqStep : ACode :=
  .seq (.region [⟨some 2, .box (.tmp 0), none⟩,
     ⟨some 3, .box (.tmp 1), none⟩,
     ⟨some 4, .mv (.const (.bool false)), none⟩] [2, 3] []) <|
  .seq (.seq (.region [⟨some 5, .fieldAddr 0 (.tmp 2), none⟩,
      ⟨some 6, .load false 1 (.tmp 5), none⟩,
      ⟨some 7, .fieldAddr 0 (.tmp 3), none⟩,
      ⟨some 8, .load false 1 (.tmp 7), none⟩,
      ⟨some 9, .bin .neq (.tmp 6) (.tmp 8), none⟩] [2, 3, 9] []) <|
   .cond (.tmp 9)
     (.seq (.region [⟨some 4, .mv (.const (.bool false)), none⟩] [4] []) <|
     .ret)
     (.skip)) <|
  .seq (.seq (.region [⟨some 10, .fieldAddr 1 (.tmp 2), none⟩,
      ⟨some 11, .load false 1 (.tmp 10), none⟩,
      ⟨some 12, .fieldAddr 1 (.tmp 3), none⟩,
      ⟨some 13, .load false 1 (.tmp 12), none⟩,
      ⟨some 14, .bin .neq (.tmp 11) (.tmp 13), none⟩] [2, 3, 14] []) <|
   .cond (.tmp 14)
     (.seq (.region [⟨some 4, .mv (.const (.bool false)), none⟩] [4] []) <|
     .ret)
     (.skip)) <|
  .seq (.seq (.region [⟨some 15, .fieldAddr 2 (.tmp 2), none⟩,
      ⟨some 16, .load false 1 (.tmp 15), none⟩,
      ⟨some 17, .fieldAddr 2 (.tmp 3), none⟩,
      ⟨some 18, .load false 1 (.tmp 17), none⟩,
      ⟨some 19, .bin .neq (.tmp 16) (.tmp 18), none⟩] [2, 3, 19] []) <|
   .cond (.tmp 19)
     (.seq (.region [⟨some 4, .mv (.const (.bool false)), none⟩] [4] []) <|
     .ret)
     (.skip)) <|
  .seq (.seq (.region [⟨some 20, .fieldAddr 3 (.tmp 2), none⟩,
      ⟨some 21, .load false 1 (.tmp 20), none⟩,
      ⟨some 22, .fieldAddr 3 (.tmp 3), none⟩,
      ⟨some 23, .load false 1 (.tmp 22), none⟩,
      ⟨some 24, .bin .neq (.tmp 21) (.tmp 23), none⟩] [2, 3, 24] []) <|
   .cond (.tmp 24)
     (.seq (.region [⟨some 4, .mv (.const (.bool false)), none⟩] [4] []) <|
     .ret)
     (.skip)) <|
  .seq (.seq (.region [⟨some 25, .fieldAddr 4 (.tmp 2), none⟩,
      ⟨some 26, .load true 2 (.tmp 25), none⟩,
      ⟨some 27, .fieldAddr 4 (.tmp 3), none⟩,
      ⟨some 28, .load true 2 (.tmp 27), none⟩,
      ⟨some 29, .call (.func F.laws_eqField) [(.tmp 26), (.tmp 28)] [], none⟩,
      ⟨some 30, .un .not (.tmp 29), none⟩] [2, 3, 30] []) <|
   .cond (.tmp 30)
     (.seq (.region [⟨some 4, .mv (.const (.bool false)), none⟩] [4] []) <|
     .ret)
     (.skip)) <|
  .seq (.seq (.region [⟨some 31, .fieldAddr 6 (.tmp 2), none⟩,
      ⟨some 32, .load true 2 (.tmp 31), none⟩,
      ⟨some 33, .fieldAddr 6 (.tmp 3), none⟩,
      ⟨some 34, .load true 2 (.tmp 33), none⟩,
      ⟨some 35, .call (.func F.laws_eqField) [(.tmp 32), (.tmp 34)] [], none⟩,
      ⟨some 36, .un .not (.tmp 35), none⟩] [2, 3, 36] []) <|
   .cond (.tmp 36)
     (.seq (.region [⟨some 4, .mv (.const (.bool false)), none⟩] [4] []) <|
     .ret)
     (.skip)) <|
  .seq (.seq (.region [⟨some 37, .fieldAddr 8 (.tmp 2), none⟩,
      ⟨some 38, .load false 1 (.tmp 37), none⟩,
      ⟨some 39, .fieldAddr 8 (.tmp 3), none⟩,
      ⟨some 40, .load false 1 (.tmp 39), none⟩,
      ⟨some 41, .binS .neq (.tmp 38) (.tmp 40), none⟩] [41] []) <|
   .cond (.tmp 41)
     (.seq (.region [⟨some 4, .mv (.const (.bool false)), none⟩] [4] []) <|
     .ret)
     (.skip)) <|
  .seq (.region [⟨some 4, .mv (.const (.bool true)), none⟩] [4] []) <|
  .ret
theorem Cd.laws_eqStep_rs : Try.f37.results.toList = [.tmp 4] := rfl
theorem Cd.laws_eqStep_nt : Try.f37.ntmps = 42 := rfl
theorem Cd.laws_eqStep_ok : CodeIsR Try.prog 37 Try.f37 Cd.laws_eqStep := ⟨Try.func37, by kernel_rfl, by decide +kernel⟩
/-- loop.example/g01012/laws.markText -/
def Cd.laws_markText : ACode :=
  .seq (.region [⟨some 2, .mv (.const (.string ⟨#[]⟩)), none⟩] [0] []) <|
  .seq (.seq (.region [⟨some 4, .mv (.tmp 0), none⟩,
      ⟨some 5, .bin .leq (.tmp 4) (.const (.int .i64 (0))), none⟩] [0, 5] []) <|
   .cond (.tmp 5)
     (.seq (.region [⟨some 2, .mv (.const (.string ⟨#[109, 48]⟩)), none⟩] [2] []) <|
     .ret)
     (.skip)) <|
  .seq (.region [⟨some 3, .mv (.const (.string ⟨#[]⟩)), none⟩] [0, 3] []) <|
  .seq (.block 0 (
     .loop (
       .seq (.seq (.region [⟨some 6, .mv (.tmp 0), none⟩,
           ⟨some 7, .bin .gtr (.tmp 6) (.const (.int .i64 (0))), none⟩] [0, 3, 7] []) <|
        .cond (.tmp 7)
          (.skip)
          (.exit 0)) <|
       .block 1 (
         .seq (.region [⟨some 8, .mv (.tmp 0), none⟩,
            ⟨some 9, .bin .rem (.tmp 8) (.const (.int .i64 (10))), none⟩,
            ⟨some 10, .bin .add (.const (.int .i64 (48))) (.tmp 9), none⟩,
            ⟨some 11, .conv .u8 (.tmp 10), none⟩,
            ⟨some 12, .bslice 1 1 [.v (.int .u8 (0))] [(0, (.tmp 11))], none⟩,
            ⟨some 13, .b2s (.tmp 12), none⟩,
            ⟨some 14, .mv (.tmp 3), none⟩,
            ⟨some 15, .binS .add (.tmp 13) (.tmp 14), none⟩,
            ⟨some 3, .mv (.tmp 15), none⟩] [0, 3] []) <|
         .region [⟨some 16, .mv (.tmp 0), none⟩,
           ⟨some 17, .bin .quo (.tmp 16) (.const (.int .i64 (10))), none⟩,
           ⟨some 0, .mv (.tmp 17), none⟩] [0, 3] [])))) <|
  .seq (.region [⟨some 18, .mv (.tmp 3), none⟩,
     ⟨some 19, .binS .add (.const (.string ⟨#[109]⟩)) (.tmp 18), none⟩,
     ⟨some 2, .mv (.tmp 19), none⟩] [2] []) <|
  .ret
theorem Cd.laws_markText_rs : Try.f38.results.toList = [.tmp 2] := rfl
theorem Cd.laws_markText_nt : Try.f38.ntmps = 20 := rfl
theorem Cd.laws_markText_ok : CodeIsR Try.prog 38 Try.f38 Cd.laws_markText := ⟨Try.func38, by kernel_rfl, by decide +kernel⟩
/-- loop.example/g01012/laws.szStep -/
def Cd.laws_szStep : ACode :=
  .seq (.region [⟨some 2, .box (.tmp 0), none⟩,
     ⟨some 4, .mv (.const (.int .i64 (0))), none⟩] [1, 2] []) <|
  .seq (.region [⟨some 5, .mv (.tmp 1), none⟩,
     ⟨some 6, .fieldAddr 8 (.tmp 2), none⟩,
     ⟨some 7, .load false 1 (.tmp 6), none⟩,
     ⟨some 8, .lenS (.tmp 7), none⟩,
     ⟨some 9, .bin .sub (.tmp 5) (.tmp 8), none⟩,
     ⟨some 1, .mv (.tmp 9), none⟩] [1] []) <|
  .seq (.seq (.region [⟨some 10, .mv (.tmp 1), none⟩,
      ⟨some 11, .bin .lss (.tmp 10) (.const (.int .i64 (0))), none⟩] [1, 11] []) <|
   .cond (.tmp 11)
     (.seq (.region [⟨some 4, .mv (.const (.int .i64 (-1))), none⟩] [4] []) <|
     .ret)
     (.skip)) <|
  .seq (.region [⟨some 12, .mv (.tmp 1), none⟩,
     ⟨some 4, .mv (.tmp 12), none⟩] [4] []) <|
  .ret
theorem Cd.laws_szStep_rs : Try.f39.results.toList = [.tmp 4] := rfl
theorem Cd.laws_szStep_nt : Try.f39.ntmps = 13 := rfl
theorem Cd.laws_szStep_ok : CodeIsR Try.prog 39 Try.f39 Cd.laws_szStep := ⟨Try.func39, by kernel_rfl, by decide +kernel⟩
/-- loop.example/g01012/spec.l15Flow -/
def Cd.spec_l15Flow : ACode :=
  .seq (.region [⟨some 4, .mv (.const (.bool false)), none⟩] [0, 1] []) <|
  .seq (.seq (.region [⟨some 5, .mv (.const (.int .i64 (0))), none⟩] [0, 1, 5] []) <|
   .block 0 (
     .loop (
       .seq (.seq (.region [⟨some 6, .mv (.tmp 5), none⟩,
           ⟨some 7, .mv (.tmp 0), none⟩,
           ⟨some 8, .len (.tmp 7), none⟩,
           ⟨some 9, .bin .lss (.tmp 6) (.tmp 8), none⟩] [0, 1, 5, 9] []) <|
        .cond (.tmp 9)
          (.skip)
          (.exit 0)) <|
       .seq (.block 1 (
          .seq (.region [⟨some 12, .mv (.tmp 0), none⟩,
             ⟨some 13, .mv (.tmp 5), none⟩,
             ⟨some 14, .idxSl 9 (.tmp 12) (.tmp 13), none⟩,
             ⟨some 15, .mv (.tmp 1), none⟩,
             ⟨some 16, .call (.func F.spec_l15Step) [(.tmp 14), (.tmp 15)] [], none⟩,
             ⟨some 17, .un .not (.tmp 16), none⟩] [0, 1, 5, 17] []) <|
          .cond (.tmp 17)
            (.seq (.region [⟨some 4, .mv (.const (.bool false)), none⟩] [4] []) <|
            .ret)
            (.skip))) <|
       .region [⟨some 10, .mv (.tmp 5), none⟩,
         ⟨some 11, .bin .add (.tmp 10) (.const (.int .i64 (1))), none⟩,
         ⟨some 5, .mv (.tmp 11), none⟩] [0, 1, 5] []))) <|
  .seq (.region [⟨some 18, .mv (.tmp 0), none⟩,
     ⟨some 19, .len (.tmp 18), none⟩,
     ⟨some 20, .bin .leq (.tmp 19) (.const (.int .i64 (20))), none⟩,
     ⟨some 4, .mv (.tmp 20), none⟩] [4] []) <|
  .ret
theorem Cd.spec_l15Flow_rs : Try.f40.results.toList = [.tmp 4] := rfl
theorem Cd.spec_l15Flow_nt : Try.f40.ntmps = 21 := rfl
theorem Cd.spec_l15Flow_ok : CodeIsR Try.prog 40 Try.f40 Cd.spec_l15Flow := ⟨Try.func40, by kernel_rfl, by decide +kernel⟩
/-- loop.example/g01012/spec.l00Has -/
def Cd.spec_l00Has : ACode :=
  .seq (.region [⟨some 4, .mv (.const (.bool false)), none⟩] [0, 1] []) <|
  .seq (.seq (.region [⟨some 5, .mv (.const (.int .i64 (0))), none⟩] [0, 1, 5] []) <|
   .block 0 (
     .loop (
       .seq (.seq (.region [⟨some 6, .mv (.tmp 5), none⟩,
           ⟨some 7, .mv (.tmp 0), none⟩,
           ⟨some 8, .len (.tmp 7), none⟩,
           ⟨some 9, .bin .lss (.tmp 6) (.tmp 8), none⟩] [0, 1, 5, 9] []) <|
        .cond (.tmp 9)
          (.skip)
          (.exit 0)) <|
       .seq (.block 1 (
          .seq (.region [⟨some 12, .mv (.tmp 0), none⟩,
             ⟨some 13, .mv (.tmp 5), none⟩,
             ⟨some 14, .idxSl 1 (.tmp 12) (.tmp 13), none⟩,
             ⟨some 15, .load false 1 (.tmp 14), none⟩,
             ⟨some 16, .mv (.tmp 1), none⟩,
             ⟨some 17, .bin .eql (.tmp 15) (.tmp 16), none⟩] [0, 1, 5, 17] []) <|
          .cond (.tmp 17)
            (.seq (.region [⟨some 4, .mv (.const (.bool true)), none⟩] [4] []) <|
            .ret)
            (.skip))) <|
       .region [⟨some 10, .mv (.tmp 5), none⟩,
         ⟨some 11, .bin .add (.tmp 10) (.const (.int .i64 (1))), none⟩,
         ⟨some 5, .mv (.tmp 11), none⟩] [0, 1, 5] []))) <|
  .seq (.region [⟨some 4, .mv (.const (.bool false)), none⟩] [4] []) <|
  .ret
theorem Cd.spec_l00Has_rs : Try.f41.results.toList = [.tmp 4] := rfl
theorem Cd.spec_l00Has_nt : Try.f41.ntmps = 18 := rfl
theorem Cd.spec_l00Has_ok : CodeIsR Try.prog 41 Try.f41 Cd.spec_l00Has := ⟨Try.func41, by kernel_rfl, by decide +kernel⟩
/-- loop.example/g01012/spec.l00Put -/
def Cd.spec_l00Put : ACode :=
  .seq (.region [⟨some 4, .mv (.const (.slice none 0 0)), none⟩] [0, 1] []) <|
  .seq (.naming 5 (
     .region [⟨some 8, .bslice 1 0 [.v (.int .i64 (0))] [], none⟩,
       ⟨some 5, .mv (.tmp 8), none⟩] [0, 1, 5] [])) <|
  .seq (.region [⟨some 6, .mv (.const (.bool false)), none⟩] [0, 1, 5, 6] []) <|
  .seq (.seq (.region [⟨some 7, .mv (.const (.int .i64 (0))), none⟩] [0, 1, 5, 6, 7] []) <|
   .block 0 (
     .loop (
       .seq (.seq (.region [⟨some 9, .mv (.tmp 7), none⟩,
           ⟨some 10, .mv (.tmp 0), none⟩,
           ⟨some 11, .len (.tmp 10), none⟩,
           ⟨some 12, .bin .lss (.tmp 9) (.tmp 11), none⟩] [0, 1, 5, 6, 7, 12] []) <|
        .cond (.tmp 12)
          (.skip)
          (.exit 0)) <|
       .seq (.block 1 (
          .seq (.seq (.region [⟨some 15, .mv (.tmp 6), none⟩,
              ⟨some 16, .un .not (.tmp 15), none⟩,
              ⟨some 17, .mv (.tmp 16), none⟩,
              ⟨some 18, .mv (.tmp 0), some (17, true)⟩,
              ⟨some 19, .mv (.tmp 7), some (17, true)⟩,
              ⟨some 20, .idxSl 1 (.tmp 18) (.tmp 19), some (17, true)⟩,
              ⟨some 21, .load false 1 (.tmp 20), some (17, true)⟩,
              ⟨some 22, .mv (.tmp 1), some (17, true)⟩,
              ⟨some 23, .bin .geq (.tmp 21) (.tmp 22), some (17, true)⟩,
              ⟨some 24, .pick (.tmp 17) (.tmp 23) (.const (.bool false)), none⟩] [0, 1, 5, 6, 7, 24] []) <|
           .cond (.tmp 24)
             (.seq (.region [⟨some 6, .mv (.const (.bool true)), none⟩] [0, 1, 5, 6, 7] []) <|
             .seq (.region [⟨some 25, .mv (.tmp 0), none⟩,
                ⟨some 26, .mv (.tmp 7), none⟩,
                ⟨some 27, .idxSl 1 (.tmp 25) (.tmp 26), none⟩,
                ⟨some 28, .load false 1 (.tmp 27), none⟩,
                ⟨some 29, .mv (.tmp 1), none⟩,
                ⟨some 30, .bin .gtr (.tmp 28) (.tmp 29), none⟩] [0, 1, 5, 6, 7, 30] []) <|
             .cond (.tmp 30)
               (.naming 5 (
                 .region [⟨some 31, .mv (.tmp 5), none⟩,
                   ⟨some 32, .mv (.tmp 1), none⟩,
                   ⟨some 33, .bslice 1 1 [.v (.int .i64 (0))] [(0, (.tmp 32))], none⟩,
                   ⟨some 34, .append 1 8 (.tmp 31) (.tmp 33), none⟩,
                   ⟨some 5, .mv (.tmp 34), none⟩] [0, 1, 5, 6, 7] []))
               (.skip))
             (.skip)) <|
          .naming 5 (
            .region [⟨some 35, .mv (.tmp 5), none⟩,
              ⟨some 36, .mv (.tmp 0), none⟩,
              ⟨some 37, .mv (.tmp 7), none⟩,
              ⟨some 38, .idxSl 1 (.tmp 36) (.tmp 37), none⟩,
              ⟨some 39, .load false 1 (.tmp 38), none⟩,
              ⟨some 40, .bslice 1 1 [.v (.int .i64 (0))] [(0, (.tmp 39))], none⟩,
              ⟨some 41, .append 1 8 (.tmp 35) (.tmp 40), none⟩,
              ⟨some 5, .mv (.tmp 41), none⟩] [0, 1, 5, 6, 7] []))) <|
       .region [⟨some 13, .mv (.tmp 7), none⟩,
         ⟨some 14, .bin .add (.tmp 13) (.const (.int .i64 (1))), none⟩,
         ⟨some 7, .mv (.tmp 14), none⟩] [0, 1, 5, 6, 7] []))) <|
  .seq (.seq (.region [⟨some 42, .mv (.tmp 6), none⟩,
      ⟨some 43, .un .not (.tmp 42), none⟩] [1, 5, 43] []) <|
   .cond (.tmp 43)
     (.naming 5 (
       .region [⟨some 44, .mv (.tmp 5), none⟩,
         ⟨some 45, .mv (.tmp 1), none⟩,
         ⟨some 46, .bslice 1 1 [.v (.int .i64 (0))] [(0, (.tmp 45))], none⟩,
         ⟨some 47, .append 1 8 (.tmp 44) (.tmp 46), none⟩,
         ⟨some 5, .mv (.tmp 47), none⟩] [5] []))
     (.skip)) <|
  .seq (.region [⟨some 48, .mv (.tmp 5), none⟩,
     ⟨some 4, .mv (.tmp 48), none⟩] [4] []) <|
  .ret
theorem Cd.spec_l00Put_rs : Try.f42.results.toList = [.tmp 4] := rfl
theorem Cd.spec_l00Put_nt : Try.f42.ntmps = 49 := rfl
theorem Cd.spec_l00Put_ok : CodeIsR Try.prog 42 Try.f42 Cd.spec_l00Put := ⟨Try.func42, by kernel_rfl, by decide +kernel⟩
/-- loop.example/g01012/spec.l15Both -/
def Cd.spec_l15Both : ACode :=
  .seq (.region [⟨some 2, .mv (.const (.bool false)), none⟩] [0] []) <|
  .seq (.region [⟨some 3, .mv (.tmp 0), none⟩,
     ⟨some 4, .call (.func F.spec_l00In) [(.tmp 3), (.const (.int .i64 (2))), (.const (.int .i64 (4)))] [], none⟩,
     ⟨some 2, .mv (.tmp 4), none⟩] [2] []) <|
  .ret
theorem Cd.spec_l15Both_rs : Try.f43.results.toList = [.tmp 2] := rfl
theorem Cd.spec_l15Both_nt : Try.f43.ntmps = 5 := rfl
theorem Cd.spec_l15Both_ok : CodeIsR Try.prog 43 Try.f43 Cd.spec_l15Both := ⟨Try.func43, by kernel_rfl, by decide +kernel⟩
/-- loop.example/g01012/laws.toStep -/
def Cd.laws_toStep : ACode :=
  .seq (.region [⟨some 1, .box (.tmp 0), none⟩,
     ⟨some 2, .alloc [.v (.int .i64 (0)), .v (.int .i64 (0)), .v (.int .i64 (0)), .v (.int .i64 (0)), .v (.int .i64 (0)), .v (.int .i64 (0)), .v (.int .i64 (0)), .v (.int .i64 (0)), .v (.string ⟨#[]⟩)], none⟩] [1, 2] []) <|
  .seq (.region [⟨some 3, .alloc [.v (.int .i64 (0)), .v (.int .i64 (0)), .v (.int .i64 (0)), .v (.int .i64 (0)), .v (.int .i64 (0)), .v (.int .i64 (0)), .v (.int .i64 (0)), .v (.int .i64 (0)), .v (.string ⟨#[]⟩)], none⟩] [1, 2, 3] []) <|
  .seq (.region [⟨some 4, .fieldAddr 0 (.tmp 1), none⟩,
     ⟨some 5, .load false 1 (.tmp 4), none⟩,
     ⟨some 6, .fieldAddr 0 (.tmp 3), none⟩,
     ⟨none, .store 1 (.tmp 6) (.tmp 5), none⟩] [1, 2, 3] []) <|
  .seq (.region [⟨some 7, .fieldAddr 1 (.tmp 1), none⟩,
     ⟨some 8, .load false 1 (.tmp 7), none⟩,
     ⟨some 9, .fieldAddr 1 (.tmp 3), none⟩,
     ⟨none, .store 1 (.tmp 9) (.tmp 8), none⟩] [1, 2, 3] []) <|
  .seq (.region [⟨some 10, .fieldAddr 2 (.tmp 1), none⟩,
     ⟨some 11, .load false 1 (.tmp 10), none⟩,
     ⟨some 12, .fieldAddr 2 (.tmp 3), none⟩,
     ⟨none, .store 1 (.tmp 12) (.tmp 11), none⟩] [1, 2, 3] []) <|
  .seq (.region [⟨some 13, .fieldAddr 3 (.tmp 1), none⟩,
     ⟨some 14, .load false 1 (.tmp 13), none⟩,
     ⟨some 15, .fieldAddr 3 (.tmp 3), none⟩,
     ⟨none, .store 1 (.tmp 15) (.tmp 14), none⟩] [1, 2, 3] []) <|
  .seq (.region [⟨some 16, .fieldAddr 4 (.tmp 1), none⟩,
     ⟨some 17, .load true 2 (.tmp 16), none⟩,
     ⟨some 18, .call (.func F.laws_toField) [(.tmp 17)] [], none⟩,
     ⟨some 19, .fieldAddr 4 (.tmp 3), none⟩,
     ⟨none, .store 2 (.tmp 19) (.tmp 18), none⟩] [1, 2, 3] []) <|
  .seq (.region [⟨some 20, .fieldAddr 6 (.tmp 1), none⟩,
     ⟨some 21, .load true 2 (.tmp 20), none⟩,
     ⟨some 22, .call (.func F.laws_toField) [(.tmp 21)] [], none⟩,
     ⟨some 23, .fieldAddr 6 (.tmp 3), none⟩,
     ⟨none, .store 2 (.tmp 23) (.tmp 22), none⟩] [1, 2, 3] []) <|
  .seq (.region [⟨some 24, .fieldAddr 8 (.tmp 1), none⟩,
     ⟨some 25, .load false 1 (.tmp 24), none⟩,
     ⟨some 26, .fieldAddr 8 (.tmp 3), none⟩,
     ⟨none, .store 1 (.tmp 26) (.tmp 25), none⟩] [2, 3] []) <|
  .seq (.region [⟨some 27, .load true 9 (.tmp 3), none⟩,
     ⟨none, .store 9 (.tmp 2) (.tmp 27), none⟩] [2] []) <|
  .ret
theorem Cd.laws_toStep_rs : Try.f44.results.toList = [.cell 2 68] := rfl
theorem Cd.laws_toStep_nt : Try.f44.ntmps = 28 := rfl
theorem Cd.laws_toStep_ok : CodeIsR Try.prog 44 Try.f44 Cd.laws_toStep := ⟨Try.func44, by kernel_rfl, by decide +kernel⟩
/-- loop.example/g01012/impl.ValidFlow -/
def Cd.impl_ValidFlow : ACode :=
  .seq (.region [⟨some 3, .box (.tmp 1), none⟩,
     ⟨some 4, .mv (.const (.bool false)), none⟩] [0, 3] []) <|
  .seq (.region [⟨some 5, .load false 1 (.tmp 3), none⟩,
     ⟨some 6, .call (.func F.impl_inside) [(.tmp 5), (.const (.int .i64 (1))), (.const (.int .i64 (20)))] [], none⟩,
     ⟨some 7, .mv (.tmp 6), none⟩,
     ⟨some 8, .mv (.tmp 0), some (7, true)⟩,
     ⟨some 9, .len (.tmp 8), some (7, true)⟩,
     ⟨some 10, .bin .leq (.tmp 9) (.const (.int .i64 (20))), some (7, true)⟩,
     ⟨some 11, .pick (.tmp 7) (.tmp 10) (.const (.bool false)), none⟩,
     ⟨some 12, .mv (.tmp 11), none⟩,
     ⟨some 13, .mv (.tmp 0), some (12, true)⟩,
     ⟨some 14, .mkfn F.impl_ValidFlow_1 [(.tmp 3)], some (12, true)⟩,
     ⟨some 15, .call (.func F.slices_ContainsFunc___impl_Step_impl_Step_) [(.tmp 13), (.tmp 14)] [], some (12, true)⟩,
     ⟨some 16, .un .not (.tmp 15), some (12, true)⟩,
     ⟨some 17, .pick (.tmp 12) (.tmp 16) (.const (.bool false)), none⟩,
     ⟨some 4, .mv (.tmp 17), none⟩] [4] []) <|
  .ret
theorem Cd.impl_ValidFlow_rs : Try.f45.results.toList = [.tmp 4] := rfl
theorem Cd.impl_ValidFlow_nt : Try.f45.ntmps = 18 := rfl
theorem Cd.impl_ValidFlow_ok : CodeIsR Try.prog 45 Try.f45 Cd.impl_ValidFlow := ⟨Try.func45, by kernel_rfl, by decide +kernel⟩
/-- loop.example/g01012/impl.takesTwo -/
def Cd.impl_takesTwo : ACode :=
  .seq (.region [⟨some 2, .mv (.const (.bool false)), none⟩] [0] []) <|
  .seq (.region [⟨some 3, .mv (.tmp 0), none⟩,
     ⟨some 4, .call (.func F.impl_inside) [(.tmp 3), (.const (.int .i64 (2))), (.const (.int .i64 (4)))] [], none⟩,
     ⟨some 2, .mv (.tmp 4), none⟩] [2] []) <|
  .ret
theorem Cd.impl_takesTwo_rs : Try.f46.results.toList = [.tmp 2] := rfl
theorem Cd.impl_takesTwo_nt : Try.f46.ntmps = 5 := rfl
theorem Cd.impl_takesTwo_ok : CodeIsR Try.prog 46 Try.f46 Cd.impl_takesTwo := ⟨Try.func46, by kernel_rfl, by decide +kernel⟩
/-- loop.example/g01012/impl.columnsWhere -/
def Cd.impl_columnsWhere : ACode :=
  .seq (.region [⟨some 4, .mv (.const (.slice none 0 0)), none⟩] [0, 1] []) <|
  .seq (.naming 5 (
     .region [⟨some 7, .bslice 1 0 [.v (.int .i64 (0))] [], none⟩,
       ⟨some 5, .mv (.tmp 7), none⟩] [0, 1, 5] [])) <|
  .seq (.seq (.region [⟨some 8, .mv (.tmp 0), none⟩,
      ⟨some 9, .mv (.const (.int .i64 (0))), none⟩] [1, 5, 8, 9] []) <|
   .block 0 (
     .loop (
       .seq (.region [⟨some 10, .bin .lss (.tmp 9) (.tmp 8), none⟩] [1, 5, 8, 9, 10] []) <|
       .seq (.cond (.tmp 10)
          (.skip)
          (.exit 0)) <|
       .seq (.block 1 (
          .seq (.region [⟨some 11, .mv (.tmp 9), none⟩,
             ⟨some 6, .mv (.tmp 11), none⟩] [1, 5, 6, 8, 9] []) <|
          .seq (.region [⟨some 12, .mv (.tmp 1), none⟩,
             ⟨some 13, .mv (.tmp 6), none⟩,
             ⟨some 14, .call (.tmp 12) [(.tmp 13)] [], none⟩] [1, 5, 6, 8, 9, 14] []) <|
          .cond (.tmp 14)
            (.naming 5 (
              .region [⟨some 15, .mv (.tmp 5), none⟩,
                ⟨some 16, .mv (.tmp 6), none⟩,
                ⟨some 17, .bslice 1 1 [.v (.int .i64 (0))] [(0, (.tmp 16))], none⟩,
                ⟨some 18, .append 1 8 (.tmp 15) (.tmp 17), none⟩,
                ⟨some 5, .mv (.tmp 18), none⟩] [1, 5, 8, 9] []))
            (.skip))) <|
       .region [⟨some 19, .bin .add (.tmp 9) (.const (.int .i64 (1))), none⟩,
         ⟨some 9, .mv (.tmp 19), none⟩] [1, 5, 8, 9] []))) <|
  .seq (.region [⟨some 20, .mv (.tmp 5), none⟩,
     ⟨some 4, .mv (.tmp 20), none⟩] [4] []) <|
  .ret
theorem Cd.impl_columnsWhere_rs : Try.f47.results.toList = [.tmp 4] := rfl
theorem Cd.impl_columnsWhere_nt : Try.f47.ntmps = 21 := rfl
theorem Cd.impl_columnsWhere_ok : CodeIsR Try.prog 47 Try.f47 Cd.impl_columnsWhere := ⟨Try.func47, by kernel_rfl, by decide +kernel⟩
/-- loop.example/g01012/impl.FlowUses$1 -/
def Cd.impl_FlowUses_1 : ACode :=
  .seq (.region [⟨some 3, .mv (.const (.bool false)), none⟩] [0, 1] []) <|
  .seq (.region [⟨some 4, .mv (.tmp 0), none⟩,
     ⟨some 5, .idxArr 6 1 (.tmp 1) (.tmp 4), none⟩,
     ⟨some 6, .load false 1 (.tmp 5), none⟩,
     ⟨some 3, .mv (.tmp 6), none⟩] [3] []) <|
  .ret
theorem Cd.impl_FlowUses_1_rs : Try.f48.results.toList = [.tmp 3] := rfl
theorem Cd.impl_FlowUses_1_nt : Try.f48.ntmps = 7 := rfl
theorem Cd.impl_FlowUses_1_ok : CodeIsR Try.prog 48 Try.f48 Cd.impl_FlowUses_1 := ⟨Try.func48, by kernel_rfl, by decide +kernel⟩
/-- loop.example/g01012/spec.l02Field -/
def Cd.spec_l02Field : ACode :=
  .seq (.region [⟨some 2, .box (.tmp 0), none⟩,
     ⟨some 4, .mv (.const (.bool false)), none⟩] [1, 2] []) <|
  .seq (.region [⟨some 5, .fieldAddr 0 (.tmp 2), none⟩,
     ⟨some 6, .load false 1 (.tmp 5), none⟩,
     ⟨some 7, .bin .geq (.tmp 6) (.const (.int .i64 (0))), none⟩,
     ⟨some 8, .mv (.tmp 7), none⟩,
     ⟨some 9, .fieldAddr 0 (.tmp 2), some (8, true)⟩,
     ⟨some 10, .load false 1 (.tmp 9), some (8, true)⟩,
     ⟨some 11, .fieldAddr 1 (.tmp 2), some (8, true)⟩,
     ⟨some 12, .load false 1 (.tmp 11), some (8, true)⟩,
     ⟨some 13, .bin .lss (.tmp 10) (.tmp 12), some (8, true)⟩,
     ⟨some 14, .pick (.tmp 8) (.tmp 13) (.const (.bool false)), none⟩,
     ⟨some 15, .mv (.tmp 14), none⟩,
     ⟨some 16, .fieldAddr 1 (.tmp 2), some (15, true)⟩,
     ⟨some 17, .load false 1 (.tmp 16), some (15, true)⟩,
     ⟨some 18, .mv (.tmp 1), some (15, true)⟩,
     ⟨some 19, .bin .leq (.tmp 17) (.tmp 18), some (15, true)⟩,
     ⟨some 20, .pick (.tmp 15) (.tmp 19) (.const (.bool false)), none⟩,
     ⟨some 4, .mv (.tmp 20), none⟩] [4] []) <|
  .ret
theorem Cd.spec_l02Field_rs : Try.f58.results.toList = [.tmp 4] := rfl
theorem Cd.spec_l02Field_nt : Try.f58.ntmps = 21 := rfl
theorem Cd.spec_l02Field_ok : CodeIsR Try.prog 58 Try.f58 Cd.spec_l02Field := ⟨Try.func58, by kernel_rfl, by decide +kernel⟩
/-- loop.example/g01012/spec.l09Text -/
def Cd.spec_l09Text : ACode :=
  .seq (.region [⟨some 3, .box (.tmp 1), none⟩,
     ⟨some 4, .mv (.const (.int .i64 (0))), none⟩] [0, 3] []) <|
  .seq (.seq (.region [⟨some 6, .mv (.tmp 0), none⟩,
      ⟨some 7, .lenS (.tmp 6), none⟩,
      ⟨some 8, .fieldAddr 1 (.tmp 3), none⟩,
      ⟨some 9, .load false 1 (.tmp 8), none⟩,
      ⟨some 10, .fieldAddr 0 (.tmp 3), none⟩,
      ⟨some 11, .load false 1 (.tmp 10), none⟩,
      ⟨some 12, .bin .sub (.tmp 9) (.tmp 11), none⟩,
      ⟨some 13, .bin .neq (.tmp 7) (.tmp 12), none⟩] [0, 13] []) <|
   .cond (.tmp 13)
     (.seq (.region [⟨some 4, .mv (.const (.int .i64 (2))), none⟩] [4] []) <|
     .ret)
     (.skip)) <|
  .seq (.seq (.region [⟨some 5, .mv (.const (.int .i64 (0))), none⟩] [0, 5] []) <|
   .block 0 (
     .loop (
       .seq (.seq (.region [⟨some 14, .mv (.tmp 5), none⟩,
           ⟨some 15, .mv (.tmp 0), none⟩,
           ⟨some 16, .lenS (.tmp 15), none⟩,
           ⟨some 17, .bin .lss (.tmp 14) (.tmp 16), none⟩] [0, 5, 17] []) <|
        .cond (.tmp 17)
          (.skip)
          (.exit 0)) <|
       .seq (.block 1 (
          .seq (.region [⟨some 20, .mv (.tmp 0), none⟩,
             ⟨some 21, .mv (.tmp 5), none⟩,
             ⟨some 22, .idxStr (.tmp 20) (.tmp 21), none⟩,
             ⟨some 23, .call (.func F.spec_l03Code) [(.tmp 22)] [], none⟩,
             ⟨some 24, .bin .lss (.tmp 23) (.const (.int .i64 (0))), none⟩] [0, 5, 24] []) <|
          .cond (.tmp 24)
            (.seq (.region [⟨some 4, .mv (.const (.int .i64 (7))), none⟩] [4] []) <|
            .ret)
            (.skip))) <|
       .region [⟨some 18, .mv (.tmp 5), none⟩,
         ⟨some 19, .bin .add (.tmp 18) (.const (.int .i64 (1))), none⟩,
         ⟨some 5, .mv (.tmp 19), none⟩] [0, 5] []))) <|
  .seq (.region [⟨some 4, .mv (.const (.int .i64 (0))), none⟩] [4] []) <|
  .ret
theorem Cd.spec_l09Text_rs : Try.f59.results.toList = [.tmp 4] := rfl
theorem Cd.spec_l09Text_nt : Try.f59.ntmps = 25 := rfl
theorem Cd.spec_l09Text_ok : CodeIsR Try.prog 59 Try.f59 Cd.spec_l09Text := ⟨Try.func59, by kernel_rfl, by decide +kernel⟩
/-- loop.example/g01012/impl.inside -/
def Cd.impl_inside : ACode :=
  .seq (.region [⟨some 6, .mv (.const (.bool false)), none⟩] [0, 1, 2] []) <|
  .seq (.region [⟨some 7, .mv (.tmp 0), none⟩,
     ⟨some 8, .mv (.tmp 1), none⟩,
     ⟨some 9, .bin .geq (.tmp 7) (.tmp 8), none⟩,
     ⟨some 10, .mv (.tmp 9), none⟩,
     ⟨some 11, .mv (.tmp 0), some (10, true)⟩,
     ⟨some 12, .mv (.tmp 2), some (10, true)⟩,
     ⟨some 13, .bin .leq (.tmp 11) (.tmp 12), some (10, true)⟩,
     ⟨some 14, .pick (.tmp 10) (.tmp 13) (.const (.bool false)), none⟩,
     ⟨some 6, .mv (.tmp 14), none⟩] [6] []) <|
  .ret
theorem Cd.impl_inside_rs : Try.f60.results.toList = [.tmp 6] := rfl
theorem Cd.impl_inside_nt : Try.f60.ntmps = 15 := rfl
theorem Cd.impl_inside_ok : CodeIsR Try.prog 60 Try.f60 Cd.impl_inside := ⟨Try.func60, by kernel_rfl, by decide +kernel⟩
/-- loop.example/g01012/impl.isField -/
def Cd.impl_isField : ACode :=
  .seq (.region [⟨some 2, .box (.tmp 0), none⟩,
     ⟨some 4, .mv (.const (.bool false)), none⟩] [1, 2] []) <|
  .seq (.region [⟨some 5, .fieldAddr 0 (.tmp 2), none⟩,
     ⟨some 6, .load false 1 (.tmp 5), none⟩,
     ⟨some 7, .bin .leq (.const (.int .i64 (0))) (.tmp 6), none⟩,
     ⟨some 8, .mv (.tmp 7), none⟩,
     ⟨some 9, .fieldAddr 0 (.tmp 2), some (8, true)⟩,
     ⟨some 10, .load false 1 (.tmp 9), some (8, true)⟩,
     ⟨some 11, .fieldAddr 1 (.tmp 2), some (8, true)⟩,
     ⟨some 12, .load false 1 (.tmp 11), some (8, true)⟩,
     ⟨some 13, .bin .lss (.tmp 10) (.tmp 12), some (8, true)⟩,
     ⟨some 14, .pick (.tmp 8) (.tmp 13) (.const (.bool false)), none⟩,
     ⟨some 15, .mv (.tmp 14), none⟩,
     ⟨some 16, .fieldAddr 1 (.tmp 2), some (15, true)⟩,
     ⟨some 17, .load false 1 (.tmp 16), some (15, true)⟩,
     ⟨some 18, .mv (.tmp 1), some (15, true)⟩,
     ⟨some 19, .bin .leq (.tmp 17) (.tmp 18), some (15, true)⟩,
     ⟨some 20, .pick (.tmp 15) (.tmp 19) (.const (.bool false)), none⟩,
     ⟨some 4, .mv (.tmp 20), none⟩] [4] []) <|
  .ret
theorem Cd.impl_isField_rs : Try.f61.results.toList = [.tmp 4] := rfl
theorem Cd.impl_isField_nt : Try.f61.ntmps = 21 := rfl
theorem Cd.impl_isField_ok : CodeIsR Try.prog 61 Try.f61 Cd.impl_isField := ⟨Try.func61, by kernel_rfl, by decide +kernel⟩
/-- loop.example/g01012/impl.isNumberField -/
def Cd.impl_isNumberField : ACode :=
  .seq (.region [⟨some 2, .box (.tmp 0), none⟩,
     ⟨some 4, .mv (.const (.bool false)), none⟩] [1, 2] []) <|
  .seq (.region [⟨some 5, .load true 2 (.tmp 2), none⟩,
     ⟨some 6, .mv (.tmp 1), none⟩,
     ⟨some 7, .call (.func F.impl_isField) [(.tmp 5), (.tmp 6)] [], none⟩,
     ⟨some 8, .mv (.tmp 7), none⟩,
     ⟨some 9, .fieldAddr 1 (.tmp 2), some (8, true)⟩,
     ⟨some 10, .load false 1 (.tmp 9), some (8, true)⟩,
     ⟨some 11, .fieldAddr 0 (.tmp 2), some (8, true)⟩,
     ⟨some 12, .load false 1 (.tmp 11), some (8, true)⟩,
     ⟨some 13, .bin .sub (.tmp 10) (.tmp 12), some (8, true)⟩,
     ⟨some 14, .bin .leq (.tmp 13) (.const (.int .i64 (12))), some (8, true)⟩,
     ⟨some 15, .pick (.tmp 8) (.tmp 14) (.const (.bool false)), none⟩,
     ⟨some 4, .mv (.tmp 15), none⟩] [4] []) <|
  .ret
theorem Cd.impl_isNumberField_rs : Try.f62.results.toList = [.tmp 4] := rfl
theorem Cd.impl_isNumberField_nt : Try.f62.ntmps = 16 := rfl
theorem Cd.impl_isNumberField_ok : CodeIsR Try.prog 62 Try.f62 Cd.impl_isNumberField := ⟨Try.func62, by kernel_rfl, by decide +kernel⟩
/-- loop.example/g01012/impl.areCharacters -/
def Cd.impl_areCharacters : ACode :=
  .seq (.region [⟨some 2, .mv (.const (.bool false)), none⟩] [0] []) <|
  .seq (.seq (.region [⟨some 3, .mv (.const (.int .i64 (0))), none⟩] [0, 3] []) <|
   .block 0 (
     .loop (
       .seq (.seq (.region [⟨some 4, .mv (.tmp 3), none⟩,
           ⟨some 5, .mv (.tmp 0), none⟩,
           ⟨some 6, .lenS (.tmp 5), none⟩,
           ⟨some 7, .bin .lss (.tmp 4) (.tmp 6), none⟩] [0, 3, 7] []) <|
        .cond (.tmp 7)
          (.skip)
          (.exit 0)) <|
       .seq (.block 1 (
          .seq (.region [⟨some 10, .mv (.tmp 0), none⟩,
             ⟨some 11, .mv (.tmp 3), none⟩,
             ⟨some 12, .idxStr (.tmp 10) (.tmp 11), none⟩,
             ⟨some 13, .call (.func F.impl_isCharacter) [(.tmp 12)] [], none⟩,
             ⟨some 14, .un .not (.tmp 13), none⟩] [0, 3, 14] []) <|
          .cond (.tmp 14)
            (.seq (.region [⟨some 2, .mv (.const (.bool false)), none⟩] [2] []) <|
            .ret)
            (.skip))) <|
       .region [⟨some 8, .mv (.tmp 3), none⟩,
         ⟨some 9, .bin .add (.tmp 8) (.const (.int .i64 (1))), none⟩,
         ⟨some 3, .mv (.tmp 9), none⟩] [0, 3] []))) <|
  .seq (.region [⟨some 2, .mv (.const (.bool true)), none⟩] [2] []) <|
  .ret
theorem Cd.impl_areCharacters_rs : Try.f63.results.toList = [.tmp 2] := rfl
theorem Cd.impl_areCharacters_nt : Try.f63.ntmps = 15 := rfl
theorem Cd.impl_areCharacters_ok : CodeIsR Try.prog 63 Try.f63 Cd.impl_areCharacters := ⟨Try.func63, by kernel_rfl, by decide +kernel⟩
/-- loop.example/g01012/laws.eqField -/
def Cd.laws_eqField : ACode :=
  .seq (.region [⟨some 2, .box (.tmp 0), none⟩,
     ⟨some 3, .box (.tmp 1), none⟩,
     ⟨some 4, .mv (.const (.bool false)), none⟩] [2, 3] []) <|
  .seq (.seq (.region [⟨some 5, .fieldAddr 0 (.tmp 2), none⟩,
      ⟨some 6, .load false 1 (.tmp 5), none⟩,
      ⟨some 7, .fieldAddr 0 (.tmp 3), none⟩,
      ⟨some 8, .load false 1 (.tmp 7), none⟩,
      ⟨some 9, .bin .neq (.tmp 6) (.tmp 8), none⟩] [2, 3, 9] []) <|
   .cond (.tmp 9)
     (.seq (.region [⟨some 4, .mv (.const (.bool false)), none⟩] [4] []) <|
     .ret)
     (.skip)) <|
  .seq (.seq (.region [⟨some 10, .fieldAddr 1 (.tmp 2), none⟩,
      ⟨some 11, .load false 1 (.tmp 10), none⟩,
      ⟨some 12, .fieldAddr 1 (.tmp 3), none⟩,
      ⟨some 13, .load false 1 (.tmp 12), none⟩,
      ⟨some 14, .bin .neq (.tmp 11) (.tmp 13), none⟩] [14] []) <|
   .cond (.tmp 14)
     (.seq (.region [⟨some 4, .mv (.const (.bool false)), none⟩] [4] []) <|
     .ret)
     (.skip)) <|
  .seq (.region [⟨some 4, .mv (.const (.bool true)), none⟩] [4] []) <|
  .ret
theorem Cd.laws_eqField_rs : Try.f64.results.toList = [.tmp 4] := rfl
theorem Cd.laws_eqField_nt : Try.f64.ntmps = 15 := rfl
theorem Cd.laws_eqField_ok : CodeIsR Try.prog 64 Try.f64 Cd.laws_eqField := ⟨Try.func64, by kernel_rfl, by decide +kernel⟩
/-- loop.example/g01012/spec.l15Step DRAWS -/
def Cd.spec_l15Step : ACode :=
  .seq (.region [⟨some 4, .mv (.const (.bool false)), none⟩] [0, 1] []) <|
  .seq (.seq (.region [⟨some 5, .mv (.tmp 0), none⟩,
      ⟨some 6, .nilc (.tmp 5), none⟩,
      ⟨some 7, .fieldAddr 0 (.tmp 6), none⟩,
      ⟨some 8, .load false 1 (.tmp 7), none⟩,
      ⟨some 9, .call (.func F.spec_l00In) [(.tmp 8), (.const (.int .i64 (1))), (.const (.int .i64 (7)))] [], none⟩,
      ⟨some 10, .un .not (.tmp 9), none⟩,
      ⟨some 11, .mv (.tmp 10), none⟩,
      ⟨some 12, .mv (.tmp 0), some (11, false)⟩,
      ⟨some 13, .nilc (.tmp 12), some (11, false)⟩,
      ⟨some 14, .fieldAddr 1 (.tmp 13), some (11, false)⟩,
      ⟨some 15, .load false 1 (.tmp 14), some (11, false)⟩,
      ⟨some 16, .call (.func F.spec_l15Tray) [(.tmp 15)] [], some (11, false)⟩,
      ⟨some 17, .un .not (.tmp 16), some (11, false)⟩,
      ⟨some 18, .pick (.tmp 11) (.const (.bool true)) (.tmp 17), none⟩,
      ⟨some 19, .mv (.tmp 18), none⟩,
      ⟨some 20, .mv (.tmp 0), some (19, false)⟩,
      ⟨some 21, .nilc (.tmp 20), some (19, false)⟩,
      ⟨some 22, .fieldAddr 2 (.tmp 21), some (19, false)⟩,
      ⟨some 23, .load false 1 (.tmp 22), some (19, false)⟩,
      ⟨some 24, .call (.func F.spec_l15Tray) [(.tmp 23)] [], some (19, false)⟩,
      ⟨some 25, .un .not (.tmp 24), some (19, false)⟩,
      ⟨some 26, .pick (.tmp 19) (.const (.bool true)) (.tmp 25), none⟩,
      ⟨some 27, .mv (.tmp 26), none⟩,
      ⟨some 28, .mv (.tmp 0), some (27, false)⟩,
      ⟨some 29, .nilc (.tmp 28), some (27, false)⟩,
      ⟨some 30, .fieldAddr 3 (.tmp 29), some (27, false)⟩,
      ⟨some 31, .load false 1 (.tmp 30), some (27, false)⟩,
      ⟨some 32, .call (.func F.spec_l15Tray) [(.tmp 31)] [], some (27, false)⟩,
      ⟨some 33, .un .not (.tmp 32), some (27, false)⟩,
      ⟨some 34, .pick (.tmp 27) (.const (.bool true)) (.tmp 33), none⟩,
      ⟨some 35, .mv (.tmp 34), none⟩,
      ⟨some 36, .mv (.tmp 0), some (35, false)⟩,
      ⟨some 37, .nilc (.tmp 36), some (35, false)⟩,
      ⟨some 38, .fieldAddr 4 (.tmp 37), some (35, false)⟩,
      ⟨some 39, .load true 2 (.tmp 38), some (35, false)⟩,
      ⟨some 40, .mv (.tmp 1), some (35, false)⟩,
      ⟨some 41, .call (.func F.spec_l02Field) [(.tmp 39), (.tmp 40)] [], some (35, false)⟩,
      ⟨some 42, .un .not (.tmp 41), some (35, false)⟩,
      ⟨some 43, .pick (.tmp 35) (.const (.bool true)) (.tmp 42), none⟩] [0, 1, 43] []) <|
   .cond (.tmp 43)
     (.seq (.region [⟨some 4, .mv (.const (.bool false)), none⟩] [4] []) <|
     .ret)
     (.skip)) <|
  .seq (.seq (.region [⟨some 44, .mv (.tmp 0), none⟩,
      ⟨some 45, .nilc (.tmp 44), none⟩,
      ⟨some 46, .fieldAddr 2 (.tmp 45), none⟩,
      ⟨some 47, .load false 1 (.tmp 46), none⟩,
      ⟨some 48, .bin .neq (.tmp 47) (.const (.int .i64 (0))), none⟩,
      ⟨some 49, .mv (.tmp 48), none⟩,
      ⟨some 50, .mv (.tmp 0), some (49, true)⟩,
      ⟨some 51, .nilc (.tmp 50), some (49, true)⟩,
      ⟨some 52, .fieldAddr 0 (.tmp 51), some (49, true)⟩,
      ⟨some 53, .load false 1 (.tmp 52), some (49, true)⟩,
      ⟨some 54, .call (.func F.spec_l15Both) [(.tmp 53)] [], some (49, true)⟩,
      ⟨some 55, .un .not (.tmp 54), some (49, true)⟩,
      ⟨some 56, .pick (.tmp 49) (.tmp 55) (.const (.bool false)), none⟩] [0, 1, 56] []) <|
   .cond (.tmp 56)
     (.seq (.region [⟨some 4, .mv (.const (.bool false)), none⟩] [4] []) <|
     .ret)
     (.skip)) <|
  .seq (.seq (.region [⟨some 57, .mv (.tmp 0), none⟩,
      ⟨some 58, .nilc (.tmp 57), none⟩,
      ⟨some 59, .fieldAddr 0 (.tmp 58), none⟩,
      ⟨some 60, .load false 1 (.tmp 59), none⟩,
      ⟨some 61, .bin .eql (.tmp 60) (.const (.int .i64 (7))), none⟩] [0, 1, 61] []) <|
   .cond (.tmp 61)
     (.seq (.region [⟨some 62, .mv (.tmp 0), none⟩,
        ⟨some 63, .nilc (.tmp 62), none⟩,
        ⟨some 64, .fieldAddr 3 (.tmp 63), none⟩,
        ⟨some 65, .load false 1 (.tmp 64), none⟩,
        ⟨some 66, .bin .eql (.tmp 65) (.const (.int .i64 (0))), none⟩,
        ⟨some 67, .mv (.tmp 66), none⟩,
        ⟨some 68, .mv (.tmp 0), some (67, true)⟩,
        ⟨some 69, .nilc (.tmp 68), some (67, true)⟩,
        ⟨some 70, .fieldAddr 6 (.tmp 69), some (67, true)⟩,
        ⟨some 71, .load true 2 (.tmp 70), some (67, true)⟩,
        ⟨some 72, .mv (.tmp 1), some (67, true)⟩,
        ⟨some 73, .call (.func F.spec_l02Field) [(.tmp 71), (.tmp 72)] [], some (67, true)⟩,
        ⟨some 74, .pick (.tmp 67) (.tmp 73) (.const (.bool false)), none⟩,
        ⟨some 75, .mv (.tmp 74), none⟩,
        ⟨some 76, .mv (.tmp 0), some (75, true)⟩,
        ⟨some 77, .nilc (.tmp 76), some (75, true)⟩,
        ⟨some 78, .fieldAddr 6 (.tmp 77), some (75, true)⟩,
        ⟨some 79, .fieldAddr 1 (.tmp 78), some (75, true)⟩,
        ⟨some 80, .load false 1 (.tmp 79), some (75, true)⟩,
        ⟨some 81, .mv (.tmp 0), some (75, true)⟩,
        ⟨some 82, .nilc (.tmp 81), some (75, true)⟩,
        ⟨some 83, .fieldAddr 6 (.tmp 82), some (75, true)⟩,
        ⟨some 84, .fieldAddr 0 (.tmp 83), some (75, true)⟩,
        ⟨some 85, .load false 1 (.tmp 84), some (75, true)⟩,
        ⟨some 86, .bin .sub (.tmp 80) (.tmp 85), some (75, true)⟩,
        ⟨some 87, .bin .leq (.tmp 86) (.const (.int .i64 (12))), some (75, true)⟩,
        ⟨some 88, .pick (.tmp 75) (.tmp 87) (.const (.bool false)), none⟩,
        ⟨some 89, .mv (.tmp 88), none⟩,
        ⟨some 90, .mv (.tmp 0), some (89, true)⟩,
        ⟨some 91, .nilc (.tmp 90), some (89, true)⟩,
        ⟨some 92, .fieldAddr 8 (.tmp 91), some (89, true)⟩,
        ⟨some 93, .load false 1 (.tmp 92), some (89, true)⟩,
        ⟨some 94, .binS .eql (.tmp 93) (.const (.string ⟨#[]⟩)), some (89, true)⟩,
        ⟨some 95, .pick (.tmp 89) (.tmp 94) (.const (.bool false)), none⟩,
        ⟨some 4, .mv (.tmp 95), none⟩] [4] [62, 64, 65, 63, 66, 67, 68, 69, 70, 71, 72, 73, 74, 75, 76, 77, 78, 79, 80, 81, 82, 83, 84, 85, 86, 87, 88, 89, 90, 91, 92, 93, 94, 95]) <|
     .ret)
     (.skip)) <|
  .seq (.seq (.region [⟨some 96, .mv (.tmp 0), none⟩,
      ⟨some 97, .nilc (.tmp 96), none⟩,
      ⟨some 98, .fieldAddr 6 (.tmp 97), none⟩,
      ⟨some 99, .load true 2 (.tmp 98), none⟩,
      ⟨some 100, .build [.v (.int .i64 (0)), .v (.int .i64 (0))] [], none⟩,
      ⟨some 101, .eqA true [0, 0] (.tmp 99) (.tmp 100), none⟩] [0, 101] []) <|
   .cond (.tmp 101)
     (.seq (.region [⟨some 4, .mv (.const (.bool false)), none⟩] [4] []) <|
     .ret)
     (.skip)) <|
  .seq (.seq (.region [⟨some 102, .mv (.tmp 0), none⟩,
      ⟨some 103, .nilc (.tmp 102), none⟩,
      ⟨some 104, .fieldAddr 0 (.tmp 103), none⟩,
      ⟨some 105, .load false 1 (.tmp 104), none⟩,
      ⟨some 106, .bin .eql (.tmp 105) (.const (.int .i64 (5))), none⟩] [0, 106] []) <|
   .cond (.tmp 106)
     (.seq (.region [⟨some 107, .mv (.tmp 0), none⟩,
        ⟨some 108, .nilc (.tmp 107), none⟩,
        ⟨some 109, .fieldAddr 8 (.tmp 108), none⟩,
        ⟨some 110, .load false 1 (.tmp 109), none⟩,
        ⟨some 111, .mv (.tmp 0), none⟩,
        ⟨some 112, .nilc (.tmp 111), none⟩,
        ⟨some 113, .fieldAddr 4 (.tmp 112), none⟩,
        ⟨some 114, .load true 2 (.tmp 113), none⟩,
        ⟨some 115, .call (.func F.spec_l09Text) [(.tmp 110), (.tmp 114)] [], none⟩,
        ⟨some 116, .bin .eql (.tmp 115) (.const (.int .i64 (0))), none⟩,
        ⟨some 4, .mv (.tmp 116), none⟩] [4] [107, 109, 110, 108, 111, 112, 113, 114, 115, 116]) <|
     .ret)
     (.skip)) <|
  .seq (.region [⟨some 117, .mv (.tmp 0), none⟩,
     ⟨some 118, .nilc (.tmp 117), none⟩,
     ⟨some 119, .fieldAddr 8 (.tmp 118), none⟩,
     ⟨some 120, .load false 1 (.tmp 119), none⟩,
     ⟨some 121, .binS .eql (.tmp 120) (.const (.string ⟨#[]⟩)), none⟩,
     ⟨some 4, .mv (.tmp 121), none⟩] [4] []) <|
  .ret
theorem Cd.spec_l15Step_rs : Try.f65.results.toList = [.tmp 4] := rfl
theorem Cd.spec_l15Step_nt : Try.f65.ntmps = 122 := rfl
theorem Cd.spec_l15Step_ok : CodeIsR Try.prog 65 Try.f65 Cd.spec_l15Step := ⟨Try.func65, by kernel_rfl, by decide +kernel⟩
/-- loop.example/g01012/spec.l00In -/
def Cd.spec_l00In : ACode :=
  .seq (.region [⟨some 6, .mv (.const (.bool false)), none⟩] [0, 1, 2] []) <|
  .seq (.region [⟨some 7, .mv (.tmp 0), none⟩,
     ⟨some 8, .mv (.tmp 1), none⟩,
     ⟨some 9, .bin .geq (.tmp 7) (.tmp 8), none⟩,
     ⟨some 10, .mv (.tmp 9), none⟩,
     ⟨some 11, .mv (.tmp 0), some (10, true)⟩,
     ⟨some 12, .mv (.tmp 2), some (10, true)⟩,
     ⟨some 13, .bin .leq (.tmp 11) (.tmp 12), some (10, true)⟩,
     ⟨some 14, .pick (.tmp 10) (.tmp 13) (.const (.bool false)), none⟩,
     ⟨some 6, .mv (.tmp 14), none⟩] [6] []) <|
  .ret
theorem Cd.spec_l00In_rs : Try.f66.results.toList = [.tmp 6] := rfl
theorem Cd.spec_l00In_nt : Try.f66.ntmps = 15 := rfl
theorem Cd.spec_l00In_ok : CodeIsR Try.prog 66 Try.f66 Cd.spec_l00In := ⟨Try.func66, by kernel_rfl, by decide +kernel⟩
/-- slices.ContainsFunc[[]loop.example/g01012/impl.Step,loop.example/g01012/impl.Step] -/
def Cd.slices_ContainsFunc___impl_Step_impl_Step_ : ACode :=
  .seq (.region [⟨some 4, .mv (.const (.bool false)), none⟩] [0, 1] []) <|
  .seq (.region [⟨some 5, .mv (.tmp 0), none⟩,
     ⟨some 6, .mv (.tmp 1), none⟩,
     ⟨some 7, .call (.func F.slices_IndexFunc___impl_Step_impl_Step_) [(.tmp 5), (.tmp 6)] [], none⟩,
     ⟨some 8, .bin .geq (.tmp 7) (.const (.int .i64 (0))), none⟩,
     ⟨some 4, .mv (.tmp 8), none⟩] [4] []) <|
  .ret
theorem Cd.slices_ContainsFunc___impl_Step_impl_Step__rs : Try.f67.results.toList = [.tmp 4] := rfl
theorem Cd.slices_ContainsFunc___impl_Step_impl_Step__nt : Try.f67.ntmps = 9 := rfl
theorem Cd.slices_ContainsFunc___impl_Step_impl_Step__ok : CodeIsR Try.prog 67 Try.f67 Cd.slices_ContainsFunc___impl_Step_impl_Step_ := ⟨Try.func67, by kernel_rfl, by decide +kernel⟩
/-- loop.example/g01012/impl.ValidFlow$1 -/
def Cd.impl_ValidFlow_1 : ACode :=
  .seq (.region [⟨some 2, .box (.tmp 0), none⟩,
     ⟨some 3, .mv (.const (.bool false)), none⟩] [1, 2] []) <|
  .seq (.region [⟨some 4, .load true 9 (.tmp 2), none⟩,
     ⟨some 5, .load false 1 (.tmp 1), none⟩,
     ⟨some 6, .call (.func F.impl_ValidStep) [(.tmp 4), (.tmp 5)] [], none⟩,
     ⟨some 7, .un .not (.tmp 6), none⟩,
     ⟨some 3, .mv (.tmp 7), none⟩] [3] []) <|
  .ret
theorem Cd.impl_ValidFlow_1_rs : Try.f68.results.toList = [.tmp 3] := rfl
theorem Cd.impl_ValidFlow_1_nt : Try.f68.ntmps = 8 := rfl
theorem Cd.impl_ValidFlow_1_ok : CodeIsR Try.prog 68 Try.f68 Cd.impl_ValidFlow_1 := ⟨Try.func68, by kernel_rfl, by decide +kernel⟩
/-- loop.example/g01012/impl.ValidStep -/
def Cd.impl_ValidStep : ACode :=
  .seq (.region [⟨some 2, .box (.tmp 0), none⟩,
     ⟨some 4, .mv (.const (.bool false)), none⟩] [1, 2] []) <|
  .seq (.block 0 (
     .seq (.region [⟨some 6, .mv (.tmp 1), none⟩,
        ⟨some 7, .call (.func F.impl_inside) [(.tmp 6), (.const (.int .i64 (1))), (.const (.int .i64 (20)))] [], none⟩,
        ⟨some 8, .un .not (.tmp 7), none⟩,
        ⟨some 9, .mv (.tmp 8), none⟩,
        ⟨some 10, .fieldAddr 0 (.tmp 2), some (9, false)⟩,
        ⟨some 11, .load false 1 (.tmp 10), some (9, false)⟩,
        ⟨some 12, .call (.func F.impl_inside) [(.tmp 11), (.const (.int .i64 (1))), (.const (.int .i64 (7)))] [], some (9, false)⟩,
        ⟨some 13, .un .not (.tmp 12), some (9, false)⟩,
        ⟨some 14, .pick (.tmp 9) (.const (.bool true)) (.tmp 13), none⟩,
        ⟨some 15, .mv (.tmp 14), none⟩,
        ⟨some 16, .fieldAddr 1 (.tmp 2), some (15, false)⟩,
        ⟨some 17, .load false 1 (.tmp 16), some (15, false)⟩,
        ⟨some 18, .call (.func F.impl_isTray) [(.tmp 17)] [], some (15, false)⟩,
        ⟨some 19, .un .not (.tmp 18), some (15, false)⟩,
        ⟨some 20, .pick (.tmp 15) (.const (.bool true)) (.tmp 19), none⟩,
        ⟨some 21, .mv (.tmp 20), none⟩,
        ⟨some 22, .fieldAddr 2 (.tmp 2), some (21, false)⟩,
        ⟨some 23, .load false 1 (.tmp 22), some (21, false)⟩,
        ⟨some 24, .call (.func F.impl_isTray) [(.tmp 23)] [], some (21, false)⟩,
        ⟨some 25, .un .not (.tmp 24), some (21, false)⟩,
        ⟨some 26, .pick (.tmp 21) (.const (.bool true)) (.tmp 25), none⟩,
        ⟨some 27, .mv (.tmp 26), none⟩,
        ⟨some 28, .fieldAddr 3 (.tmp 2), some (27, false)⟩,
        ⟨some 29, .load false 1 (.tmp 28), some (27, false)⟩,
        ⟨some 30, .call (.func F.impl_isTray) [(.tmp 29)] [], some (27, false)⟩,
        ⟨some 31, .un .not (.tmp 30), some (27, false)⟩,
        ⟨some 32, .pick (.tmp 27) (.const (.bool true)) (.tmp 31), none⟩,
        ⟨some 5, .mv (.tmp 32), none⟩] [1, 2, 5] []) <|
     .cond (.tmp 5)
       (.seq (.region [⟨some 4, .mv (.const (.bool false)), none⟩] [4] []) <|
       .ret)
       (.seq (.region [⟨some 34, .fieldAddr 2 (.tmp 2), none⟩,
          ⟨some 35, .load false 1 (.tmp 34), none⟩,
          ⟨some 36, .bin .neq (.tmp 35) (.const (.int .i64 (0))), none⟩,
          ⟨some 37, .mv (.tmp 36), none⟩,
          ⟨some 38, .fieldAddr 0 (.tmp 2), some (37, true)⟩,
          ⟨some 39, .load false 1 (.tmp 38), some (37, true)⟩,
          ⟨some 40, .call (.func F.impl_takesTwo) [(.tmp 39)] [], some (37, true)⟩,
          ⟨some 41, .un .not (.tmp 40), some (37, true)⟩,
          ⟨some 42, .pick (.tmp 37) (.tmp 41) (.const (.bool false)), none⟩,
          ⟨some 43, .mv (.tmp 42), none⟩,
          ⟨some 44, .fieldAddr 3 (.tmp 2), some (43, false)⟩,
          ⟨some 45, .load false 1 (.tmp 44), some (43, false)⟩,
          ⟨some 46, .bin .neq (.tmp 45) (.const (.int .i64 (0))), some (43, false)⟩,
          ⟨some 47, .mv (.tmp 46), some (43, false)⟩,
          ⟨some 48, .fieldAddr 0 (.tmp 2), some (47, true)⟩,
          ⟨some 49, .load false 1 (.tmp 48), some (47, true)⟩,
          ⟨some 50, .bin .eql (.tmp 49) (.const (.int .i64 (7))), some (47, true)⟩,
          ⟨some 51, .pick (.tmp 47) (.tmp 50) (.const (.bool false)), some (43, false)⟩,
          ⟨some 52, .pick (.tmp 43) (.const (.bool true)) (.tmp 51), none⟩,
          ⟨some 53, .mv (.tmp 52), none⟩,
          ⟨some 54, .fieldAddr 4 (.tmp 2), some (53, false)⟩,
          ⟨some 55, .load true 2 (.tmp 54), some (53, false)⟩,
          ⟨some 56, .mv (.tmp 1), some (53, false)⟩,
          ⟨some 57, .call (.func F.impl_isField) [(.tmp 55), (.tmp 56)] [], some (53, false)⟩,
          ⟨some 58, .un .not (.tmp 57), some (53, false)⟩,
          ⟨some 59, .pick (.tmp 53) (.const (.bool true)) (.tmp 58), none⟩,
          ⟨some 33, .mv (.tmp 59), none⟩] [1, 2, 33] []) <|
       .cond (.tmp 33)
         (.seq (.region [⟨some 4, .mv (.const (.bool false)), none⟩] [4] []) <|
         .ret)
         (.seq (.region [⟨some 61, .fieldAddr 0 (.tmp 2), none⟩,
            ⟨some 62, .load false 1 (.tmp 61), none⟩,
            ⟨some 63, .bin .eql (.tmp 62) (.const (.int .i64 (7))), none⟩,
            ⟨some 64, .mv (.tmp 63), none⟩,
            ⟨some 65, .fieldAddr 6 (.tmp 2), some (64, true)⟩,
            ⟨some 66, .load true 2 (.tmp 65), some (64, true)⟩,
            ⟨some 67, .mv (.tmp 1), some (64, true)⟩,
            ⟨some 68, .call (.func F.impl_isNumberField) [(.tmp 66), (.tmp 67)] [], some (64, true)⟩,
            ⟨some 69, .un .not (.tmp 68), some (64, true)⟩,
            ⟨some 70, .pick (.tmp 64) (.tmp 69) (.const (.bool false)), none⟩,
            ⟨some 71, .mv (.tmp 70), none⟩,
            ⟨some 72, .fieldAddr 0 (.tmp 2), some (71, false)⟩,
            ⟨some 73, .load false 1 (.tmp 72), some (71, false)⟩,
            ⟨some 74, .bin .neq (.tmp 73) (.const (.int .i64 (7))), some (71, false)⟩,
            ⟨some 75, .mv (.tmp 74), some (71, false)⟩,
            ⟨some 76, .fieldAddr 6 (.tmp 2), some (75, true)⟩,
            ⟨some 77, .load true 2 (.tmp 76), some (75, true)⟩,
            ⟨some 78, .build [.v (.int .i64 (0)), .v (.int .i64 (0))] [], some (75, true)⟩,
            ⟨some 79, .eqA true [0, 0] (.tmp 77) (.tmp 78), some (75, true)⟩,
            ⟨some 80, .pick (.tmp 75) (.tmp 79) (.const (.bool false)), some (71, false)⟩,
            ⟨some 81, .pick (.tmp 71) (.const (.bool true)) (.tmp 80), none⟩,
            ⟨some 60, .mv (.tmp 81), none⟩] [2, 60] []) <|
         .cond (.tmp 60)
           (.seq (.region [⟨some 4, .mv (.const (.bool false)), none⟩] [4] []) <|
           .ret)
           (.seq (.region [⟨some 83, .fieldAddr 0 (.tmp 2), none⟩,
              ⟨some 84, .load false 1 (.tmp 83), none⟩,
              ⟨some 85, .bin .eql (.tmp 84) (.const (.int .i64 (5))), none⟩,
              ⟨some 82, .mv (.tmp 85), none⟩] [2, 82] []) <|
           .cond (.tmp 82)
             (.seq (.region [⟨some 86, .fieldAddr 8 (.tmp 2), none⟩,
                ⟨some 87, .load false 1 (.tmp 86), none⟩,
                ⟨some 88, .call (.func F.impl_areCharacters) [(.tmp 87)] [], none⟩,
                ⟨some 89, .mv (.tmp 88), none⟩,
                ⟨some 90, .fieldAddr 8 (.tmp 2), some (89, true)⟩,
                ⟨some 91, .load false 1 (.tmp 90), some (89, true)⟩,
                ⟨some 92, .lenS (.tmp 91), some (89, true)⟩,
                ⟨some 93, .fieldAddr 4 (.tmp 2), some (89, true)⟩,
                ⟨some 94, .fieldAddr 1 (.tmp 93), some (89, true)⟩,
                ⟨some 95, .load false 1 (.tmp 94), some (89, true)⟩,
                ⟨some 96, .fieldAddr 4 (.tmp 2), some (89, true)⟩,
                ⟨some 97, .fieldAddr 0 (.tmp 96), some (89, true)⟩,
                ⟨some 98, .load false 1 (.tmp 97), some (89, true)⟩,
                ⟨some 99, .bin .sub (.tmp 95) (.tmp 98), some (89, true)⟩,
                ⟨some 100, .bin .eql (.tmp 92) (.tmp 99), some (89, true)⟩,
                ⟨some 101, .pick (.tmp 89) (.tmp 100) (.const (.bool false)), none⟩,
                ⟨some 4, .mv (.tmp 101), none⟩] [4] []) <|
             .ret)
             (.skip)))))) <|
  .seq (.region [⟨some 102, .fieldAddr 8 (.tmp 2), none⟩,
     ⟨some 103, .load false 1 (.tmp 102), none⟩,
     ⟨some 104, .binS .eql (.tmp 103) (.const (.string ⟨#[]⟩)), none⟩,
     ⟨some 4, .mv (.tmp 104), none⟩] [4] []) <|
  .ret
theorem Cd.impl_ValidStep_rs : Try.f69.results.toList = [.tmp 4] := rfl
theorem Cd.impl_ValidStep_nt : Try.f69.ntmps = 105 := rfl
theorem Cd.impl_ValidStep_ok : CodeIsR Try.prog 69 Try.f69 Cd.impl_ValidStep := ⟨Try.func69, by kernel_rfl, by decide +kernel⟩
/-- loop.example/g01012/spec.l03Code -/
def Cd.spec_l03Code : ACode :=
  .seq (.region [⟨some 2, .mv (.const (.int .i64 (0))), none⟩] [0] []) <|
  .seq (.region [⟨some 4, .mv (.tmp 0), none⟩,
     ⟨some 5, .conv .i64 (.tmp 4), none⟩,
     ⟨some 3, .mv (.tmp 5), none⟩] [0, 3] []) <|
  .seq (.block 0 (
     .seq (.region [⟨some 7, .mv (.tmp 0), none⟩,
        ⟨some 8, .bin .eql (.tmp 7) (.const (.int .u8 (32))), none⟩,
        ⟨some 6, .mv (.tmp 8), none⟩] [0, 3, 6] []) <|
     .cond (.tmp 6)
       (.seq (.region [⟨some 2, .mv (.const (.int .i64 (0))), none⟩] [2] []) <|
       .ret)
       (.seq (.region [⟨some 10, .mv (.tmp 0), none⟩,
          ⟨some 11, .bin .eql (.tmp 10) (.const (.int .u8 (38))), none⟩,
          ⟨some 9, .mv (.tmp 11), none⟩] [0, 3, 9] []) <|
       .cond (.tmp 9)
         (.seq (.region [⟨some 2, .mv (.const (.int .i64 (1))), none⟩] [2] []) <|
         .ret)
         (.seq (.region [⟨some 13, .mv (.tmp 0), none⟩,
            ⟨some 14, .bin .eql (.tmp 13) (.const (.int .u8 (45))), none⟩,
            ⟨some 12, .mv (.tmp 14), none⟩] [0, 3, 12] []) <|
         .cond (.tmp 12)
           (.seq (.region [⟨some 2, .mv (.const (.int .i64 (2))), none⟩] [2] []) <|
           .ret)
           (.seq (.region [⟨some 16, .mv (.tmp 0), none⟩,
              ⟨some 17, .bin .eql (.tmp 16) (.const (.int .u8 (47))), none⟩,
              ⟨some 15, .mv (.tmp 17), none⟩] [0, 3, 15] []) <|
           .cond (.tmp 15)
             (.seq (.region [⟨some 18, .call (.func F.spec_l02Bit) [(.const (.int .i64 (1)))] [], none⟩,
                ⟨some 19, .bin .or (.const (.int .i64 (4))) (.tmp 18), none⟩,
                ⟨some 2, .mv (.tmp 19), none⟩] [2] []) <|
             .ret)
             (.seq (.region [⟨some 21, .mv (.tmp 0), none⟩,
                ⟨some 22, .call (.func F.spec_l01Digit) [(.tmp 21)] [], none⟩,
                ⟨some 20, .mv (.tmp 22), none⟩] [0, 3, 20] []) <|
             .cond (.tmp 20)
               (.seq (.region [⟨some 23, .mv (.tmp 3), none⟩,
                  ⟨some 24, .bin .sub (.tmp 23) (.const (.int .i64 (48))), none⟩,
                  ⟨some 25, .call (.func F.spec_l02Bit) [(.tmp 24)] [], none⟩,
                  ⟨some 2, .mv (.tmp 25), none⟩] [2] []) <|
               .ret)
               (.seq (.region [⟨some 27, .mv (.tmp 0), none⟩,
                  ⟨some 28, .bin .geq (.tmp 27) (.const (.int .u8 (65))), none⟩,
                  ⟨some 29, .mv (.tmp 28), none⟩,
                  ⟨some 30, .mv (.tmp 0), some (29, true)⟩,
                  ⟨some 31, .bin .leq (.tmp 30) (.const (.int .u8 (73))), some (29, true)⟩,
                  ⟨some 32, .pick (.tmp 29) (.tmp 31) (.const (.bool false)), none⟩,
                  ⟨some 26, .mv (.tmp 32), none⟩] [0, 3, 26] []) <|
               .cond (.tmp 26)
                 (.seq (.region [⟨some 33, .mv (.tmp 3), none⟩,
                    ⟨some 34, .bin .sub (.tmp 33) (.const (.int .i64 (65))), none⟩,
                    ⟨some 35, .bin .add (.tmp 34) (.const (.int .i64 (1))), none⟩,
                    ⟨some 36, .call (.func F.spec_l02Bit) [(.tmp 35)] [], none⟩,
                    ⟨some 37, .bin .or (.const (.int .i64 (1))) (.tmp 36), none⟩,
                    ⟨some 2, .mv (.tmp 37), none⟩] [2] []) <|
                 .ret)
                 (.seq (.region [⟨some 39, .mv (.tmp 0), none⟩,
                    ⟨some 40, .bin .geq (.tmp 39) (.const (.int .u8 (74))), none⟩,
                    ⟨some 41, .mv (.tmp 40), none⟩,
                    ⟨some 42, .mv (.tmp 0), some (41, true)⟩,
                    ⟨some 43, .bin .leq (.tmp 42) (.const (.int .u8 (82))), some (41, true)⟩,
                    ⟨some 44, .pick (.tmp 41) (.tmp 43) (.const (.bool false)), none⟩,
                    ⟨some 38, .mv (.tmp 44), none⟩] [0, 3, 38] []) <|
                 .cond (.tmp 38)
                   (.seq (.region [⟨some 45, .mv (.tmp 3), none⟩,
                      ⟨some 46, .bin .sub (.tmp 45) (.const (.int .i64 (74))), none⟩,
                      ⟨some 47, .bin .add (.tmp 46) (.const (.int .i64 (1))), none⟩,
                      ⟨some 48, .call (.func F.spec_l02Bit) [(.tmp 47)] [], none⟩,
                      ⟨some 49, .bin .or (.const (.int .i64 (2))) (.tmp 48), none⟩,
                      ⟨some 2, .mv (.tmp 49), none⟩] [2] []) <|
                   .ret)
                   (.seq (.region [⟨some 51, .mv (.tmp 0), none⟩,
                      ⟨some 52, .bin .geq (.tmp 51) (.const (.int .u8 (83))), none⟩,
                      ⟨some 53, .mv (.tmp 52), none⟩,
                      ⟨some 54, .mv (.tmp 0), some (53, true)⟩,
                      ⟨some 55, .bin .leq (.tmp 54) (.const (.int .u8 (90))), some (53, true)⟩,
                      ⟨some 56, .pick (.tmp 53) (.tmp 55) (.const (.bool false)), none⟩,
                      ⟨some 50, .mv (.tmp 56), none⟩] [3, 50] []) <|
                   .cond (.tmp 50)
                     (.seq (.region [⟨some 57, .mv (.tmp 3), none⟩,
                        ⟨some 58, .bin .sub (.tmp 57) (.const (.int .i64 (83))), none⟩,
                        ⟨some 59, .bin .add (.tmp 58) (.const (.int .i64 (2))), none⟩,
                        ⟨some 60, .call (.func F.spec_l02Bit) [(.tmp 59)] [], none⟩,
                        ⟨some 61, .bin .or (.const (.int .i64 (4))) (.tmp 60), none⟩,
                        ⟨some 2, .mv (.tmp 61), none⟩] [2] []) <|
                     .ret)
                     (.skip)))))))))) <|
  .seq (.region [⟨some 2, .mv (.const (.int .i64 (-1))), none⟩] [2] []) <|
  .ret
theorem Cd.spec_l03Code_rs : Try.f77.results.toList = [.tmp 2] := rfl
theorem Cd.spec_l03Code_nt : Try.f77.ntmps = 62 := rfl
theorem Cd.spec_l03Code_ok : CodeIsR Try.prog 77 Try.f77 Cd.spec_l03Code := ⟨Try.func77, by kernel_rfl, by decide +kernel⟩
/-- loop.example/g01012/impl.isCharacter -/
def Cd.impl_isCharacter : ACode :=
  .seq (.region [⟨some 2, .mv (.const (.bool false)), none⟩] [0] []) <|
  .seq (.region [⟨some 3, .mv (.tmp 0), none⟩,
     ⟨some 4, .call (.func F.strings_IndexByte) [(.const (.string ⟨#[32, 38, 65, 66, 67, 68, 69, 70, 71, 72, 73, 45, 74, 75, 76, 77, 78, 79, 80, 81, 82, 47, 83, 84, 85, 86, 87, 88, 89, 90, 48, 49, 50, 51, 52, 53, 54, 55, 56, 57]⟩)), (.tmp 3)] [], none⟩,
     ⟨some 5, .bin .geq (.tmp 4) (.const (.int .i64 (0))), none⟩,
     ⟨some 2, .mv (.tmp 5), none⟩] [2] []) <|
  .ret
theorem Cd.impl_isCharacter_rs : Try.f78.results.toList = [.tmp 2] := rfl
theorem Cd.impl_isCharacter_nt : Try.f78.ntmps = 6 := rfl
theorem Cd.impl_isCharacter_ok : CodeIsR Try.prog 78 Try.f78 Cd.impl_isCharacter := ⟨Try.func78, by kernel_rfl, by decide +kernel⟩
/-- loop.example/g01012/spec.l15Tray -/
def Cd.spec_l15Tray : ACode :=
  .seq (.region [⟨some 2, .mv (.const (.bool false)), none⟩] [0] []) <|
  .seq (.region [⟨some 3, .mv (.tmp 0), none⟩,
     ⟨some 4, .call (.func F.spec_l00In) [(.tmp 3), (.const (.int .i64 (0))), (.const (.int .i64 (5)))] [], none⟩,
     ⟨some 2, .mv (.tmp 4), none⟩] [2] []) <|
  .ret
theorem Cd.spec_l15Tray_rs : Try.f79.results.toList = [.tmp 2] := rfl
theorem Cd.spec_l15Tray_nt : Try.f79.ntmps = 5 := rfl
theorem Cd.spec_l15Tray_ok : CodeIsR Try.prog 79 Try.f79 Cd.spec_l15Tray := ⟨Try.func79, by kernel_rfl, by decide +kernel⟩
/-- slices.IndexFunc[[]loop.example/g01012/impl.Step,loop.example/g01012/impl.Step] -/
def Cd.slices_IndexFunc___impl_Step_impl_Step_ : ACode :=
  .seq (.region [⟨some 4, .mv (.const (.int .i64 (0))), none⟩] [0, 1] []) <|
  .seq (.seq (.region [⟨some 6, .mv (.tmp 0), none⟩,
      ⟨some 7, .len (.tmp 6), none⟩,
      ⟨some 8, .mv (.const (.int .i64 (0))), none⟩] [0, 1, 7, 8] []) <|
   .block 0 (
     .loop (
       .seq (.region [⟨some 9, .bin .lss (.tmp 8) (.tmp 7), none⟩] [0, 1, 7, 8, 9] []) <|
       .seq (.cond (.tmp 9)
          (.skip)
          (.exit 0)) <|
       .seq (.block 1 (
          .seq (.region [⟨some 10, .mv (.tmp 8), none⟩,
             ⟨some 5, .mv (.tmp 10), none⟩] [0, 1, 5, 7, 8] []) <|
          .seq (.region [⟨some 11, .mv (.tmp 1), none⟩,
             ⟨some 12, .mv (.tmp 0), none⟩,
             ⟨some 13, .mv (.tmp 5), none⟩,
             ⟨some 14, .idxSl 9 (.tmp 12) (.tmp 13), none⟩,
             ⟨some 15, .load true 9 (.tmp 14), none⟩,
             ⟨some 16, .call (.tmp 11) [(.tmp 15)] [], none⟩] [0, 1, 5, 7, 8, 16] []) <|
          .cond (.tmp 16)
            (.seq (.region [⟨some 17, .mv (.tmp 5), none⟩,
               ⟨some 4, .mv (.tmp 17), none⟩] [4] []) <|
            .ret)
            (.skip))) <|
       .region [⟨some 18, .bin .add (.tmp 8) (.const (.int .i64 (1))), none⟩,
         ⟨some 8, .mv (.tmp 18), none⟩] [0, 1, 7, 8] []))) <|
  .seq (.region [⟨some 4, .mv (.const (.int .i64 (-1))), none⟩] [4] []) <|
  .ret
theorem Cd.slices_IndexFunc___impl_Step_impl_Step__rs : Try.f80.results.toList = [.tmp 4] := rfl
theorem Cd.slices_IndexFunc___impl_Step_impl_Step__nt : Try.f80.ntmps = 19 := rfl
theorem Cd.slices_IndexFunc___impl_Step_impl_Step__ok : CodeIsR Try.prog 80 Try.f80 Cd.slices_IndexFunc___impl_Step_impl_Step_ := ⟨Try.func80, by kernel_rfl, by decide +kernel⟩
/-- loop.example/g01012/impl.isTray -/
def Cd.impl_isTray : ACode :=
  .seq (.region [⟨some 2, .mv (.const (.bool false)), none⟩] [0] []) <|
  .seq (.region [⟨some 3, .mv (.tmp 0), none⟩,
     ⟨some 4, .call (.func F.impl_inside) [(.tmp 3), (.const (.int .i64 (0))), (.const (.int .i64 (5)))] [], none⟩,
     ⟨some 2, .mv (.tmp 4), none⟩] [2] []) <|
  .ret
theorem Cd.impl_isTray_rs : Try.f81.results.toList = [.tmp 2] := rfl
theorem Cd.impl_isTray_nt : Try.f81.ntmps = 5 := rfl
theorem Cd.impl_isTray_ok : CodeIsR Try.prog 81 Try.f81 Cd.impl_isTray := ⟨Try.func81, by kernel_rfl, by decide +kernel⟩
/-- loop.example/g01012/spec.l02Bit -/
def Cd.spec_l02Bit : ACode :=
  .seq (.region [⟨some 2, .mv (.const (.int .i64 (0))), none⟩] [0] []) <|
  .seq (.block 0 (
     .seq (.region [⟨some 4, .mv (.tmp 0), none⟩,
        ⟨some 5, .bin .eql (.tmp 4) (.const (.int .i64 (12))), none⟩,
        ⟨some 3, .mv (.tmp 5), none⟩] [0, 3] []) <|
     .cond (.tmp 3)
       (.seq (.region [⟨some 2, .mv (.const (.int .i64 (1))), none⟩] [2] []) <|
       .ret)
       (.seq (.region [⟨some 7, .mv (.tmp 0), none⟩,
          ⟨some 8, .bin .eql (.tmp 7) (.const (.int .i64 (11))), none⟩,
          ⟨some 6, .mv (.tmp 8), none⟩] [0, 6] []) <|
       .cond (.tmp 6)
         (.seq (.region [⟨some 2, .mv (.const (.int .i64 (2))), none⟩] [2] []) <|
         .ret)
         (.seq (.region [⟨some 10, .mv (.tmp 0), none⟩,
            ⟨some 11, .call (.func F.spec_l00In) [(.tmp 10), (.const (.int .i64 (0))), (.const (.int .i64 (9)))] [], none⟩,
            ⟨some 9, .mv (.tmp 11), none⟩] [0, 9] []) <|
         .cond (.tmp 9)
           (.seq (.region [⟨some 12, .mv (.tmp 0), none⟩,
              ⟨some 13, .conv .u64 (.tmp 12), none⟩,
              ⟨some 14, .bin .shl (.const (.int .i64 (4))) (.tmp 13), none⟩,
              ⟨some 2, .mv (.tmp 14), none⟩] [2] []) <|
           .ret)
           (.skip))))) <|
  .seq (.region [⟨some 2, .mv (.const (.int .i64 (0))), none⟩] [2] []) <|
  .ret
theorem Cd.spec_l02Bit_rs : Try.f84.results.toList = [.tmp 2] := rfl
theorem Cd.spec_l02Bit_nt : Try.f84.ntmps = 15 := rfl
theorem Cd.spec_l02Bit_ok : CodeIsR Try.prog 84 Try.f84 Cd.spec_l02Bit := ⟨Try.func84, by kernel_rfl, by decide +kernel⟩
/-- loop.example/g01012/spec.l01Digit -/
def Cd.spec_l01Digit : ACode :=
  .seq (.region [⟨some 2, .mv (.const (.bool false)), none⟩] [0] []) <|
  .seq (.region [⟨some 3, .mv (.tmp 0), none⟩,
     ⟨some 4, .bin .geq (.tmp 3) (.const (.int .u8 (48))), none⟩,
     ⟨some 5, .mv (.tmp 4), none⟩,
     ⟨some 6, .mv (.tmp 0), some (5, true)⟩,
     ⟨some 7, .bin .leq (.tmp 6) (.const (.int .u8 (57))), some (5, true)⟩,
     ⟨some 8, .pick (.tmp 5) (.tmp 7) (.const (.bool false)), none⟩,
     ⟨some 2, .mv (.tmp 8), none⟩] [2] []) <|
  .ret
theorem Cd.spec_l01Digit_rs : Try.f85.results.toList = [.tmp 2] := rfl
theorem Cd.spec_l01Digit_nt : Try.f85.ntmps = 9 := rfl
theorem Cd.spec_l01Digit_ok : CodeIsR Try.prog 85 Try.f85 Cd.spec_l01Digit := ⟨Try.func85, by kernel_rfl, by decide +kernel⟩
/-- strings.IndexByte -/
def Cd.strings_IndexByte : ACode :=
  .seq (.region [⟨some 4, .mv (.const (.int .i64 (0))), none⟩] [0, 1] []) <|
  .seq (.region [⟨some 5, .mv (.tmp 0), none⟩,
     ⟨some 6, .mv (.tmp 1), none⟩,
     ⟨some 7, .call (.func F.internal_stringslite_IndexByte) [(.tmp 5), (.tmp 6)] [], none⟩,
     ⟨some 4, .mv (.tmp 7), none⟩] [4] []) <|
  .ret
theorem Cd.strings_IndexByte_rs : Try.f86.results.toList = [.tmp 4] := rfl
theorem Cd.strings_IndexByte_nt : Try.f86.ntmps = 8 := rfl
theorem Cd.strings_IndexByte_ok : CodeIsR Try.prog 86 Try.f86 Cd.strings_IndexByte := ⟨Try.func86, by kernel_rfl, by decide +kernel⟩
/-- internal/stringslite.IndexByte -/
def Cd.internal_stringslite_IndexByte : ACode :=
  .seq (.region [⟨some 4, .mv (.const (.int .i64 (0))), none⟩] [0, 1] []) <|
  .seq (.region [⟨some 5, .mv (.tmp 0), none⟩,
     ⟨some 6, .mv (.tmp 1), none⟩,
     ⟨some 7, .idxB (.tmp 5) (.tmp 6), none⟩,
     ⟨some 4, .mv (.tmp 7), none⟩] [4] []) <|
  .ret
theorem Cd.internal_stringslite_IndexByte_rs : Try.f87.results.toList = [.tmp 4] := rfl
theorem Cd.internal_stringslite_IndexByte_nt : Try.f87.ntmps = 8 := rfl
theorem Cd.internal_stringslite_IndexByte_ok : CodeIsR Try.prog 87 Try.f87 Cd.internal_stringslite_IndexByte := ⟨Try.func87, by kernel_rfl, by decide +kernel⟩
end Go.Proofs.Ythpokkcbbpapdaa
