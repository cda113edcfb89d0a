/- The code of each function, resolved. -/
import Derived.Test.YtgeeipfdkamhmaaDoorFtC
import Derived.Test.YtgeeipfdkamhmaaDoorRows
namespace Go.Proofs.YtgeeipfdkamhmaaDoor
open Go.Vs
set_option maxRecDepth 100000
theorem Tryd.own : ownKnob Tryd.prog.godebug = none := by kernel_rfl
theorem Tryd.laidOut : laidOutB Tryd.prog = true := by kernel_rfl
theorem Tryd.mixed : Tryd.prog.follows .mixedOrders = true := Tryd.checked.mixed
namespace F
abbrev laws_FnReports : FuncId := 3
abbrev laws_a2Long : FuncId := 6
abbrev spec_A2Amounts : FuncId := 7
abbrev impl_AmountsAfter : FuncId := 8
abbrev impl_ReportAfter : FuncId := 9
abbrev impl_ReportOf : FuncId := 10
abbrev impl_MissingBy : FuncId := 11
abbrev spec_l00From : FuncId := 23
abbrev spec_l19Draw : FuncId := 24
abbrev spec_l19DrawFaults : FuncId := 25
abbrev spec_l19Faults : FuncId := 26
abbrev impl_faultCode : FuncId := 27
abbrev impl_amountsAfter : FuncId := 28
abbrev impl_reportOf : FuncId := 29
abbrev impl_ValidAmounts : FuncId := 30
abbrev impl_isReport : FuncId := 31
abbrev _impl_Report__less : FuncId := 32
abbrev __spec_l00Src__pick : FuncId := 54
abbrev __spec_l00Src__one : FuncId := 55
abbrev spec_l19DrawFault : FuncId := 56
abbrev spec_l19Fault : FuncId := 57
abbrev impl_areFaults : FuncId := 58
abbrev slices_IndexFunc___impl_Fault_impl_Fault_ : FuncId := 59
abbrev impl_amountsAfter_1 : FuncId := 60
abbrev impl_wheelsShow : FuncId := 61
abbrev impl_shown : FuncId := 62
abbrev impl_size_int64_ : FuncId := 63
abbrev impl_digitSum : FuncId := 64
abbrev slices_ContainsFunc___int64_int64_ : FuncId := 65
abbrev impl_ValidAmounts_1 : FuncId := 66
abbrev impl_inside : FuncId := 67
abbrev spec_l00In : FuncId := 70
abbrev impl_digitsOf : FuncId := 84
abbrev impl_absOf : FuncId := 85
abbrev impl_Decimal : FuncId := 93
abbrev __spec_l00Src__next : FuncId := 95
abbrev spec_l00Max : FuncId := 96
abbrev __spec_l00Src__among : FuncId := 97
abbrev spec_l19Form : FuncId := 98
abbrev spec_l19Power : FuncId := 99
abbrev impl_isFault : FuncId := 100
abbrev impl_digitAt : FuncId := 101
abbrev impl_digitList : FuncId := 102
abbrev slices_IndexFunc___int64_int64_ : FuncId := 103
abbrev strings_Count : FuncId := 119
abbrev strings_Index : FuncId := 120
abbrev strconv_FormatInt : FuncId := 123
abbrev internal_strconv_FormatInt : FuncId := 145
abbrev strconv_Itoa : FuncId := 158
abbrev internal_strconv_small : FuncId := 159
abbrev internal_strconv_numDigits : FuncId := 160
abbrev internal_strconv_formatBase10 : FuncId := 161
abbrev internal_strconv_Itoa : FuncId := 165
abbrev internal_strconv_log10Pow2 : FuncId := 166
end F
theorem Ld.t31 : ldOf Tryd.prog 31 = some (true, 3) := by kernel_rfl
theorem Ld.t45 : ldOf Tryd.prog 45 = some (true, 2) := by kernel_rfl
theorem Ld.t51 : ldOf Tryd.prog 51 = some (true, 3) := by kernel_rfl
theorem Ld.t75 : ldOf Tryd.prog 75 = some (true, 1) := by kernel_rfl
theorem Ld.t98 : ldOf Tryd.prog 98 = some (true, 4) := by kernel_rfl
theorem Ld.t104 : ldOf Tryd.prog 104 = some (true, 1) := by kernel_rfl
attribute [go_sem] Ld.t31 Ld.t45 Ld.t51 Ld.t75 Ld.t98 Ld.t104
/-- loop.example/g01012/laws.FnReports -/
def Cd.laws_FnReports : ACode :=
  .seq (.region [⟨some 2, .mv (.const (.bool false)), none⟩] [0] []) <|
  .seq (.seq (.region [⟨some 15, .mv (.tmp 0), none⟩,
      ⟨some 16, .call (.func F.laws_a2Long) [(.tmp 15), (.const (.slice none 0 0))] [], none⟩] [0, 16] []) <|
   .cond (.tmp 16)
     (.seq (.region [⟨some 2, .mv (.const (.bool true)), none⟩] [2] []) <|
     .ret)
     (.skip)) <|
  .seq (.region [⟨some 18, .mv (.tmp 0), none⟩,
     ⟨some 19, .call (.func F.spec_A2Amounts) [(.tmp 18)] [], none⟩,
     ⟨some 17, .mv (.tmp 19), none⟩,
     ⟨some 20, .extract (.tmp 17) 0, none⟩,
     ⟨some 21, .extract (.tmp 17) 1, none⟩,
     ⟨some 3, .mv (.tmp 20), none⟩,
     ⟨some 4, .mv (.tmp 21), none⟩] [3, 4] []) <|
  .seq (.region [⟨some 23, .mv (.tmp 3), none⟩,
     ⟨some 24, .mv (.tmp 4), none⟩,
     ⟨some 25, .call (.func F.impl_AmountsAfter) [(.tmp 23), (.tmp 24)] [], none⟩,
     ⟨some 22, .mv (.tmp 25), none⟩,
     ⟨some 26, .extract (.tmp 22) 0, none⟩,
     ⟨some 27, .extract (.tmp 22) 1, none⟩,
     ⟨some 5, .mv (.tmp 26), none⟩,
     ⟨some 6, .mv (.tmp 27), none⟩] [3, 4, 5, 6] []) <|
  .seq (.region [⟨some 29, .mv (.tmp 3), none⟩,
     ⟨some 30, .mv (.tmp 4), none⟩,
     ⟨some 31, .call (.func F.impl_ReportAfter) [(.tmp 29), (.tmp 30)] [], none⟩,
     ⟨some 28, .mv (.tmp 31), none⟩,
     ⟨some 32, .extract (.tmp 28) 0, none⟩,
     ⟨some 33, .extract (.tmp 28) 1, none⟩,
     ⟨some 7, .alloc [.v (.int .i64 (0)), .v (.int .i64 (0)), .v (.int .i64 (0))], none⟩,
     ⟨none, .store 3 (.tmp 7) (.tmp 32), none⟩,
     ⟨some 8, .mv (.tmp 33), none⟩] [3, 5, 6, 7, 8] []) <|
  .seq (.region [⟨some 35, .mv (.tmp 3), none⟩,
     ⟨some 36, .call (.func F.impl_ReportOf) [(.tmp 35)] [], none⟩,
     ⟨some 34, .mv (.tmp 36), none⟩,
     ⟨some 37, .extract (.tmp 34) 0, none⟩,
     ⟨some 38, .extract (.tmp 34) 1, none⟩,
     ⟨some 9, .alloc [.v (.int .i64 (0)), .v (.int .i64 (0)), .v (.int .i64 (0))], none⟩,
     ⟨none, .store 3 (.tmp 9) (.tmp 37), none⟩,
     ⟨some 10, .mv (.tmp 38), none⟩] [3, 5, 6, 7, 8, 9, 10] []) <|
  .seq (.region [⟨some 40, .mv (.tmp 3), none⟩,
     ⟨some 41, .load true 3 (.tmp 7), none⟩,
     ⟨some 42, .call (.func F.impl_MissingBy) [(.tmp 40), (.tmp 41)] [], none⟩,
     ⟨some 39, .mv (.tmp 42), none⟩,
     ⟨some 43, .extract (.tmp 39) 0, none⟩,
     ⟨some 44, .extract (.tmp 39) 1, none⟩,
     ⟨some 11, .alloc [.v (.int .i64 (0)), .v (.int .i64 (0)), .v (.int .i64 (0))], none⟩,
     ⟨none, .store 3 (.tmp 11) (.tmp 43), none⟩,
     ⟨some 12, .mv (.tmp 44), none⟩] [3, 5, 6, 7, 8, 9, 10, 11, 12] []) <|
  .seq (.seq (.region [⟨some 45, .mv (.tmp 6), none⟩,
      ⟨some 46, .bin .neq (.tmp 45) (.const (.int .i64 (0))), none⟩,
      ⟨some 47, .mv (.tmp 46), none⟩,
      ⟨some 48, .mv (.tmp 8), some (47, false)⟩,
      ⟨some 49, .bin .neq (.tmp 48) (.const (.int .i64 (0))), some (47, false)⟩,
      ⟨some 50, .pick (.tmp 47) (.const (.bool true)) (.tmp 49), none⟩,
      ⟨some 51, .mv (.tmp 50), none⟩,
      ⟨some 52, .mv (.tmp 10), some (51, false)⟩,
      ⟨some 53, .bin .neq (.tmp 52) (.const (.int .i64 (0))), some (51, false)⟩,
      ⟨some 54, .pick (.tmp 51) (.const (.bool true)) (.tmp 53), none⟩,
      ⟨some 55, .mv (.tmp 54), none⟩,
      ⟨some 56, .mv (.tmp 12), some (55, false)⟩,
      ⟨some 57, .bin .neq (.tmp 56) (.const (.int .i64 (0))), some (55, false)⟩,
      ⟨some 58, .pick (.tmp 55) (.const (.bool true)) (.tmp 57), none⟩,
      ⟨some 59, .mv (.tmp 58), none⟩,
      ⟨some 60, .fieldAddr 0 (.tmp 9), some (59, false)⟩,
      ⟨some 61, .load false 1 (.tmp 60), some (59, false)⟩,
      ⟨some 62, .mv (.tmp 3), some (59, false)⟩,
      ⟨some 63, .len (.tmp 62), some (59, false)⟩,
      ⟨some 64, .bin .neq (.tmp 61) (.tmp 63), some (59, false)⟩,
      ⟨some 65, .pick (.tmp 59) (.const (.bool true)) (.tmp 64), none⟩] [5, 7, 9, 11, 65] []) <|
   .cond (.tmp 65)
     (.seq (.region [⟨some 2, .mv (.const (.bool false)), none⟩] [2] []) <|
     .ret)
     (.skip)) <|
  .seq (.region [⟨some 13, .mv (.const (.int .i64 (0))), none⟩] [5, 7, 9, 11, 13] []) <|
  .seq (.seq (.region [⟨some 14, .mv (.const (.int .i64 (0))), none⟩] [5, 7, 9, 11, 13, 14] []) <|
   .block 0 (
     .loop (
       .seq (.seq (.region [⟨some 66, .mv (.tmp 14), none⟩,
           ⟨some 67, .mv (.tmp 5), none⟩,
           ⟨some 68, .len (.tmp 67), none⟩,
           ⟨some 69, .bin .lss (.tmp 66) (.tmp 68), none⟩] [5, 7, 9, 11, 13, 14, 69] []) <|
        .cond (.tmp 69)
          (.skip)
          (.exit 0)) <|
       .seq (.block 1 (
          .seq (.seq (.region [⟨some 72, .mv (.tmp 5), none⟩,
              ⟨some 73, .mv (.tmp 14), none⟩,
              ⟨some 74, .idxSl 1 (.tmp 72) (.tmp 73), none⟩,
              ⟨some 75, .load false 1 (.tmp 74), none⟩,
              ⟨some 76, .bin .lss (.tmp 75) (.const (.int .i64 (0))), none⟩,
              ⟨some 77, .mv (.tmp 76), none⟩,
              ⟨some 78, .mv (.tmp 5), some (77, false)⟩,
              ⟨some 79, .mv (.tmp 14), some (77, false)⟩,
              ⟨some 80, .idxSl 1 (.tmp 78) (.tmp 79), some (77, false)⟩,
              ⟨some 81, .load false 1 (.tmp 80), some (77, false)⟩,
              ⟨some 82, .bin .gtr (.tmp 81) (.const (.int .i64 (9999))), some (77, false)⟩,
              ⟨some 83, .pick (.tmp 77) (.const (.bool true)) (.tmp 82), none⟩] [5, 7, 9, 11, 13, 14, 83] []) <|
           .cond (.tmp 83)
             (.seq (.region [⟨some 2, .mv (.const (.bool false)), none⟩] [2] []) <|
             .ret)
             (.skip)) <|
          .region [⟨some 84, .mv (.tmp 13), none⟩,
            ⟨some 85, .mv (.tmp 5), none⟩,
            ⟨some 86, .mv (.tmp 14), none⟩,
            ⟨some 87, .idxSl 1 (.tmp 85) (.tmp 86), none⟩,
            ⟨some 88, .load false 1 (.tmp 87), none⟩,
            ⟨some 89, .bin .add (.tmp 84) (.tmp 88), none⟩,
            ⟨some 13, .mv (.tmp 89), none⟩] [5, 7, 9, 11, 13, 14] [])) <|
       .region [⟨some 70, .mv (.tmp 14), none⟩,
         ⟨some 71, .bin .add (.tmp 70) (.const (.int .i64 (1))), none⟩,
         ⟨some 14, .mv (.tmp 71), none⟩] [5, 7, 9, 11, 13, 14] []))) <|
  .seq (.region [⟨some 90, .fieldAddr 0 (.tmp 7), none⟩,
     ⟨some 91, .load false 1 (.tmp 90), none⟩,
     ⟨some 92, .mv (.tmp 5), none⟩,
     ⟨some 93, .len (.tmp 92), none⟩,
     ⟨some 94, .bin .eql (.tmp 91) (.tmp 93), none⟩,
     ⟨some 95, .mv (.tmp 94), none⟩,
     ⟨some 96, .fieldAddr 1 (.tmp 7), some (95, true)⟩,
     ⟨some 97, .load false 1 (.tmp 96), some (95, true)⟩,
     ⟨some 98, .mv (.tmp 13), some (95, true)⟩,
     ⟨some 99, .bin .eql (.tmp 97) (.tmp 98), some (95, true)⟩,
     ⟨some 100, .pick (.tmp 95) (.tmp 99) (.const (.bool false)), none⟩,
     ⟨some 101, .mv (.tmp 100), none⟩,
     ⟨some 102, .fieldAddr 0 (.tmp 11), some (101, true)⟩,
     ⟨some 103, .load false 1 (.tmp 102), some (101, true)⟩,
     ⟨some 104, .fieldAddr 0 (.tmp 7), some (101, true)⟩,
     ⟨some 105, .load false 1 (.tmp 104), some (101, true)⟩,
     ⟨some 106, .fieldAddr 0 (.tmp 9), some (101, true)⟩,
     ⟨some 107, .load false 1 (.tmp 106), some (101, true)⟩,
     ⟨some 108, .bin .sub (.tmp 105) (.tmp 107), some (101, true)⟩,
     ⟨some 109, .bin .eql (.tmp 103) (.tmp 108), some (101, true)⟩,
     ⟨some 110, .pick (.tmp 101) (.tmp 109) (.const (.bool false)), none⟩,
     ⟨some 111, .mv (.tmp 110), none⟩,
     ⟨some 112, .fieldAddr 1 (.tmp 11), some (111, true)⟩,
     ⟨some 113, .load false 1 (.tmp 112), some (111, true)⟩,
     ⟨some 114, .fieldAddr 1 (.tmp 7), some (111, true)⟩,
     ⟨some 115, .load false 1 (.tmp 114), some (111, true)⟩,
     ⟨some 116, .fieldAddr 1 (.tmp 9), some (111, true)⟩,
     ⟨some 117, .load false 1 (.tmp 116), some (111, true)⟩,
     ⟨some 118, .bin .sub (.tmp 115) (.tmp 117), some (111, true)⟩,
     ⟨some 119, .bin .eql (.tmp 113) (.tmp 118), some (111, true)⟩,
     ⟨some 120, .pick (.tmp 111) (.tmp 119) (.const (.bool false)), none⟩,
     ⟨some 121, .mv (.tmp 120), none⟩,
     ⟨some 122, .fieldAddr 2 (.tmp 11), some (121, true)⟩,
     ⟨some 123, .load false 1 (.tmp 122), some (121, true)⟩,
     ⟨some 124, .fieldAddr 2 (.tmp 7), some (121, true)⟩,
     ⟨some 125, .load false 1 (.tmp 124), some (121, true)⟩,
     ⟨some 126, .fieldAddr 2 (.tmp 9), some (121, true)⟩,
     ⟨some 127, .load false 1 (.tmp 126), some (121, true)⟩,
     ⟨some 128, .bin .sub (.tmp 125) (.tmp 127), some (121, true)⟩,
     ⟨some 129, .bin .eql (.tmp 123) (.tmp 128), some (121, true)⟩,
     ⟨some 130, .pick (.tmp 121) (.tmp 129) (.const (.bool false)), none⟩,
     ⟨some 2, .mv (.tmp 130), none⟩] [2] []) <|
  .ret
theorem Cd.laws_FnReports_rs : Tryd.f3.results.toList = [.tmp 2] := rfl
theorem Cd.laws_FnReports_nt : Tryd.f3.ntmps = 131 := rfl
theorem Cd.laws_FnReports_ok : CodeIsR Tryd.prog 3 Tryd.f3 Cd.laws_FnReports := ⟨Tryd.func3, by kernel_rfl, by decide +kernel⟩
/-- loop.example/g01012/laws.a2Long -/
def Cd.laws_a2Long : ACode :=
  .seq (.region [⟨some 4, .mv (.const (.bool false)), none⟩] [0, 1] []) <|
  .seq (.region [⟨some 5, .mv (.tmp 0), none⟩,
     ⟨some 6, .len (.tmp 5), none⟩,
     ⟨some 7, .bin .gtr (.tmp 6) (.const (.int .i64 (3000))), none⟩,
     ⟨some 8, .mv (.tmp 7), none⟩,
     ⟨some 9, .mv (.tmp 1), some (8, false)⟩,
     ⟨some 10, .len (.tmp 9), some (8, false)⟩,
     ⟨some 11, .bin .gtr (.tmp 10) (.const (.int .i64 (3000))), some (8, false)⟩,
     ⟨some 12, .pick (.tmp 8) (.const (.bool true)) (.tmp 11), none⟩,
     ⟨some 4, .mv (.tmp 12), none⟩] [4] []) <|
  .ret
theorem Cd.laws_a2Long_rs : Tryd.f6.results.toList = [.tmp 4] := rfl
theorem Cd.laws_a2Long_nt : Tryd.f6.ntmps = 13 := rfl
theorem Cd.laws_a2Long_ok : CodeIsR Tryd.prog 6 Tryd.f6 Cd.laws_a2Long := ⟨Tryd.func6, by kernel_rfl, by decide +kernel⟩
/-- loop.example/g01012/spec.A2Amounts -/
def Cd.spec_A2Amounts : ACode :=
  .seq (.region [⟨some 2, .mv (.const (.slice none 0 0)), none⟩,
     ⟨some 3, .mv (.const (.slice none 0 0)), none⟩] [0] []) <|
  .seq (.region [⟨some 7, .mv (.tmp 0), none⟩,
     ⟨some 8, .call (.func F.spec_l00From) [(.tmp 7)] [], none⟩,
     ⟨some 4, .mv (.tmp 8), none⟩] [4] []) <|
  .seq (.region [⟨some 9, .mv (.tmp 4), none⟩,
     ⟨some 10, .call (.func F.spec_l19Draw) [(.tmp 9)] [0], none⟩,
     ⟨some 5, .mv (.tmp 10), none⟩] [4, 5] []) <|
  .seq (.region [⟨some 11, .mv (.tmp 4), none⟩,
     ⟨some 12, .mv (.tmp 5), none⟩,
     ⟨some 13, .len (.tmp 12), none⟩,
     ⟨some 14, .call (.func F.spec_l19DrawFaults) [(.tmp 11), (.tmp 13)] [0], none⟩,
     ⟨some 6, .mv (.tmp 14), none⟩] [5, 6] []) <|
  .seq (.seq (.region [⟨some 15, .mv (.tmp 5), none⟩,
      ⟨some 16, .mv (.tmp 6), none⟩,
      ⟨some 17, .call (.func F.spec_l19Faults) [(.tmp 15), (.tmp 16)] [], none⟩,
      ⟨some 18, .un .not (.tmp 17), none⟩] [5, 6, 18] []) <|
   .cond (.tmp 18)
     (.seq (.region [⟨some 19, .mv (.tmp 5), none⟩,
        ⟨some 20, .bslice 4 0 [.v (.int .i64 (0)), .v (.int .i64 (0)), .v (.int .i64 (0)), .v (.int .i64 (0))] [], none⟩,
        ⟨some 2, .mv (.tmp 19), none⟩,
        ⟨some 3, .mv (.tmp 20), none⟩] [2, 3] []) <|
     .ret)
     (.skip)) <|
  .seq (.region [⟨some 21, .mv (.tmp 5), none⟩,
     ⟨some 22, .mv (.tmp 6), none⟩,
     ⟨some 2, .mv (.tmp 21), none⟩,
     ⟨some 3, .mv (.tmp 22), none⟩] [2, 3] []) <|
  .ret
theorem Cd.spec_A2Amounts_rs : Tryd.f7.results.toList = [.tmp 2, .tmp 3] := rfl
theorem Cd.spec_A2Amounts_nt : Tryd.f7.ntmps = 23 := rfl
theorem Cd.spec_A2Amounts_ok : CodeIsR Tryd.prog 7 Tryd.f7 Cd.spec_A2Amounts := ⟨Tryd.func7, by kernel_rfl, by decide +kernel⟩
/-- loop.example/g01012/impl.AmountsAfter -/
def Cd.impl_AmountsAfter : ACode :=
  .seq (.region [⟨some 4, .mv (.const (.slice none 0 0)), none⟩,
     ⟨some 5, .mv (.const (.int .i64 (0))), none⟩] [0, 1] []) <|
  .seq (.seq (.region [⟨some 7, .mv (.tmp 0), none⟩,
      ⟨some 8, .mv (.tmp 1), none⟩,
      ⟨some 9, .call (.func F.impl_faultCode) [(.tmp 7), (.tmp 8)] [], none⟩,
      ⟨some 6, .mv (.tmp 9), none⟩] [0, 1, 6] []) <|
   .seq (.region [⟨some 10, .mv (.tmp 6), none⟩,
      ⟨some 11, .bin .neq (.tmp 10) (.const (.int .i64 (0))), none⟩] [0, 1, 6, 11] []) <|
   .cond (.tmp 11)
     (.seq (.region [⟨some 12, .mv (.tmp 6), none⟩,
        ⟨some 4, .mv (.const (.slice none 0 0)), none⟩,
        ⟨some 5, .mv (.tmp 12), none⟩] [4, 5] []) <|
     .ret)
     (.skip)) <|
  .seq (.region [⟨some 13, .mv (.tmp 0), none⟩,
     ⟨some 14, .mv (.tmp 1), none⟩,
     ⟨some 15, .call (.func F.impl_amountsAfter) [(.tmp 13), (.tmp 14)] [], none⟩,
     ⟨some 4, .mv (.tmp 15), none⟩,
     ⟨some 5, .mv (.const (.int .i64 (0))), none⟩] [4, 5] []) <|
  .ret
theorem Cd.impl_AmountsAfter_rs : Tryd.f8.results.toList = [.tmp 4, .tmp 5] := rfl
theorem Cd.impl_AmountsAfter_nt : Tryd.f8.ntmps = 16 := rfl
theorem Cd.impl_AmountsAfter_ok : CodeIsR Tryd.prog 8 Tryd.f8 Cd.impl_AmountsAfter := ⟨Tryd.func8, by kernel_rfl, by decide +kernel⟩
/-- loop.example/g01012/impl.ReportAfter -/
def Cd.impl_ReportAfter : ACode :=
  .seq (.region [⟨some 4, .alloc [.v (.int .i64 (0)), .v (.int .i64 (0)), .v (.int .i64 (0))], none⟩,
     ⟨some 5, .mv (.const (.int .i64 (0))), none⟩] [0, 1, 4] []) <|
  .seq (.seq (.region [⟨some 7, .mv (.tmp 0), none⟩,
      ⟨some 8, .mv (.tmp 1), none⟩,
      ⟨some 9, .call (.func F.impl_faultCode) [(.tmp 7), (.tmp 8)] [], none⟩,
      ⟨some 6, .mv (.tmp 9), none⟩] [0, 1, 4, 6] []) <|
   .seq (.region [⟨some 10, .mv (.tmp 6), none⟩,
      ⟨some 11, .bin .neq (.tmp 10) (.const (.int .i64 (0))), none⟩] [0, 1, 4, 6, 11] []) <|
   .cond (.tmp 11)
     (.seq (.region [⟨some 12, .build [.v (.int .i64 (0)), .v (.int .i64 (0)), .v (.int .i64 (0))] [], none⟩,
        ⟨some 13, .mv (.tmp 6), none⟩,
        ⟨none, .store 3 (.tmp 4) (.tmp 12), none⟩,
        ⟨some 5, .mv (.tmp 13), none⟩] [4, 5] []) <|
     .ret)
     (.skip)) <|
  .seq (.region [⟨some 14, .mv (.tmp 0), none⟩,
     ⟨some 15, .mv (.tmp 1), none⟩,
     ⟨some 16, .call (.func F.impl_amountsAfter) [(.tmp 14), (.tmp 15)] [], none⟩,
     ⟨some 17, .call (.func F.impl_reportOf) [(.tmp 16)] [], none⟩,
     ⟨none, .store 3 (.tmp 4) (.tmp 17), none⟩,
     ⟨some 5, .mv (.const (.int .i64 (0))), none⟩] [4, 5] []) <|
  .ret
theorem Cd.impl_ReportAfter_rs : Tryd.f9.results.toList = [.cell 4 31, .tmp 5] := rfl
theorem Cd.impl_ReportAfter_nt : Tryd.f9.ntmps = 18 := rfl
theorem Cd.impl_ReportAfter_ok : CodeIsR Tryd.prog 9 Tryd.f9 Cd.impl_ReportAfter := ⟨Tryd.func9, by kernel_rfl, by decide +kernel⟩
/-- loop.example/g01012/impl.ReportOf -/
def Cd.impl_ReportOf : ACode :=
  .seq (.region [⟨some 2, .alloc [.v (.int .i64 (0)), .v (.int .i64 (0)), .v (.int .i64 (0))], none⟩,
     ⟨some 3, .mv (.const (.int .i64 (0))), none⟩] [0, 2] []) <|
  .seq (.seq (.region [⟨some 4, .mv (.tmp 0), none⟩,
      ⟨some 5, .call (.func F.impl_ValidAmounts) [(.tmp 4)] [], none⟩,
      ⟨some 6, .un .not (.tmp 5), none⟩] [0, 2, 6] []) <|
   .cond (.tmp 6)
     (.seq (.region [⟨some 7, .build [.v (.int .i64 (0)), .v (.int .i64 (0)), .v (.int .i64 (0))] [], none⟩,
        ⟨none, .store 3 (.tmp 2) (.tmp 7), none⟩,
        ⟨some 3, .mv (.const (.int .i64 (1))), none⟩] [2, 3] []) <|
     .ret)
     (.skip)) <|
  .seq (.region [⟨some 8, .mv (.tmp 0), none⟩,
     ⟨some 9, .call (.func F.impl_reportOf) [(.tmp 8)] [], none⟩,
     ⟨none, .store 3 (.tmp 2) (.tmp 9), none⟩,
     ⟨some 3, .mv (.const (.int .i64 (0))), none⟩] [2, 3] []) <|
  .ret
theorem Cd.impl_ReportOf_rs : Tryd.f10.results.toList = [.cell 2 31, .tmp 3] := rfl
theorem Cd.impl_ReportOf_nt : Tryd.f10.ntmps = 10 := rfl
theorem Cd.impl_ReportOf_ok : CodeIsR Tryd.prog 10 Tryd.f10 Cd.impl_ReportOf := ⟨Tryd.func10, by kernel_rfl, by decide +kernel⟩
/-- loop.example/g01012/impl.MissingBy DRAWS -/
def Cd.impl_MissingBy : ACode :=
  .seq (.region [⟨some 3, .box (.tmp 1), none⟩,
     ⟨some 4, .alloc [.v (.int .i64 (0)), .v (.int .i64 (0)), .v (.int .i64 (0))], none⟩,
     ⟨some 5, .mv (.const (.int .i64 (0))), none⟩] [0, 3, 4] []) <|
  .seq (.block 0 (
     .seq (.region [⟨some 7, .mv (.tmp 0), none⟩,
        ⟨some 8, .call (.func F.impl_ValidAmounts) [(.tmp 7)] [], none⟩,
        ⟨some 9, .un .not (.tmp 8), none⟩,
        ⟨some 6, .mv (.tmp 9), none⟩] [0, 3, 4, 6] []) <|
     .cond (.tmp 6)
       (.seq (.region [⟨some 10, .build [.v (.int .i64 (0)), .v (.int .i64 (0)), .v (.int .i64 (0))] [], none⟩,
          ⟨none, .store 3 (.tmp 4) (.tmp 10), none⟩,
          ⟨some 5, .mv (.const (.int .i64 (1))), none⟩] [4, 5] []) <|
       .ret)
       (.seq (.region [⟨some 12, .load true 3 (.tmp 3), none⟩,
          ⟨some 13, .call (.func F.impl_isReport) [(.tmp 12)] [], none⟩,
          ⟨some 14, .un .not (.tmp 13), none⟩,
          ⟨some 11, .mv (.tmp 14), none⟩] [0, 3, 4, 11] []) <|
       .cond (.tmp 11)
         (.seq (.region [⟨some 15, .build [.v (.int .i64 (0)), .v (.int .i64 (0)), .v (.int .i64 (0))] [], none⟩,
            ⟨none, .store 3 (.tmp 4) (.tmp 15), none⟩,
            ⟨some 5, .mv (.const (.int .i64 (2))), none⟩] [4, 5] []) <|
         .ret)
         (.skip)))) <|
  .seq (.region [⟨some 16, .load true 3 (.tmp 3), none⟩,
     ⟨some 17, .mv (.tmp 0), none⟩,
     ⟨some 18, .call (.func F.impl_reportOf) [(.tmp 17)] [], none⟩,
     ⟨some 19, .call (.func F._impl_Report__less) [(.tmp 16), (.tmp 18)] [], none⟩,
     ⟨none, .store 3 (.tmp 4) (.tmp 19), none⟩,
     ⟨some 5, .mv (.const (.int .i64 (0))), none⟩] [4, 5] [16, 17, 18, 19]) <|
  .ret
theorem Cd.impl_MissingBy_rs : Tryd.f11.results.toList = [.cell 4 31, .tmp 5] := rfl
theorem Cd.impl_MissingBy_nt : Tryd.f11.ntmps = 20 := rfl
theorem Cd.impl_MissingBy_ok : CodeIsR Tryd.prog 11 Tryd.f11 Cd.impl_MissingBy := ⟨Tryd.func11, by kernel_rfl, by decide +kernel⟩
/-- loop.example/g01012/spec.l00From -/
def Cd.spec_l00From : ACode :=
  .seq (.region [⟨some 2, .mv (.const (.pointer none)), none⟩] [0] []) <|
  .seq (.region [⟨some 3, .mv (.tmp 0), none⟩,
     ⟨some 4, .build [.v (.slice none 0 0), .v (.int .i64 (0)), .v (.int .u64 (0))] [(0, 1, (.tmp 3))], none⟩,
     ⟨some 5, .box (.tmp 4), none⟩,
     ⟨some 2, .mv (.tmp 5), none⟩] [2] []) <|
  .ret
theorem Cd.spec_l00From_rs : Tryd.f23.results.toList = [.tmp 2] := rfl
theorem Cd.spec_l00From_nt : Tryd.f23.ntmps = 6 := rfl
theorem Cd.spec_l00From_ok : CodeIsR Tryd.prog 23 Tryd.f23 Cd.spec_l00From := ⟨Tryd.func23, by kernel_rfl, by decide +kernel⟩
/-- loop.example/g01012/spec.l19Draw -/
def Cd.spec_l19Draw : ACode :=
  .seq (.region [⟨some 2, .mv (.const (.slice none 0 0)), none⟩] [0] []) <|
  .seq (.naming 3 (
     .region [⟨some 6, .bslice 1 0 [.v (.int .i64 (0))] [], none⟩,
       ⟨some 3, .mv (.tmp 6), none⟩] [0, 3] [])) <|
  .seq (.seq (.region [⟨some 7, .mv (.tmp 0), none⟩,
      ⟨some 8, .call (.func F.__spec_l00Src__pick) [(.tmp 7), (.const (.int .i64 (7)))] [0], none⟩,
      ⟨some 4, .mv (.tmp 8), none⟩] [0, 3, 4] []) <|
   .block 0 (
     .loop (
       .seq (.seq (.region [⟨some 9, .mv (.tmp 4), none⟩,
           ⟨some 10, .bin .gtr (.tmp 9) (.const (.int .i64 (0))), none⟩] [0, 3, 4, 10] []) <|
        .cond (.tmp 10)
          (.skip)
          (.exit 0)) <|
       .seq (.block 1 (
          .seq (.region [⟨some 13, .mv (.tmp 0), none⟩,
             ⟨some 14, .call (.func F.__spec_l00Src__pick) [(.tmp 13), (.const (.int .i64 (1000)))] [0], none⟩,
             ⟨some 5, .mv (.tmp 14), none⟩] [0, 3, 4, 5] []) <|
          .seq (.seq (.region [⟨some 15, .mv (.tmp 0), none⟩,
              ⟨some 16, .call (.func F.__spec_l00Src__one) [(.tmp 15), (.const (.int .i64 (3)))] [0], none⟩] [0, 3, 4, 5, 16] []) <|
           .cond (.tmp 16)
             (.region [⟨some 17, .mv (.tmp 0), none⟩,
               ⟨some 18, .call (.func F.__spec_l00Src__pick) [(.tmp 17), (.const (.int .i64 (10000)))] [0], none⟩,
               ⟨some 5, .mv (.tmp 18), none⟩] [0, 3, 4, 5] [])
             (.skip)) <|
          .naming 3 (
            .region [⟨some 19, .mv (.tmp 3), none⟩,
              ⟨some 20, .mv (.tmp 5), none⟩,
              ⟨some 21, .bslice 1 1 [.v (.int .i64 (0))] [(0, (.tmp 20))], none⟩,
              ⟨some 22, .append 1 8 (.tmp 19) (.tmp 21), none⟩,
              ⟨some 3, .mv (.tmp 22), none⟩] [0, 3, 4] []))) <|
       .region [⟨some 11, .mv (.tmp 4), none⟩,
         ⟨some 12, .bin .sub (.tmp 11) (.const (.int .i64 (1))), none⟩,
         ⟨some 4, .mv (.tmp 12), none⟩] [0, 3, 4] []))) <|
  .seq (.region [⟨some 23, .mv (.tmp 3), none⟩,
     ⟨some 2, .mv (.tmp 23), none⟩] [2] []) <|
  .ret
theorem Cd.spec_l19Draw_rs : Tryd.f24.results.toList = [.tmp 2] := rfl
theorem Cd.spec_l19Draw_nt : Tryd.f24.ntmps = 24 := rfl
theorem Cd.spec_l19Draw_ok : CodeIsR Tryd.prog 24 Tryd.f24 Cd.spec_l19Draw := ⟨Tryd.func24, by kernel_rfl, by decide +kernel⟩
/-- loop.example/g01012/spec.l19DrawFaults DRAWS -/
def Cd.spec_l19DrawFaults : ACode :=
  .seq (.region [⟨some 4, .mv (.const (.slice none 0 0)), none⟩] [0, 1] []) <|
  .seq (.region [⟨some 8, .bslice 4 0 [.v (.int .i64 (0)), .v (.int .i64 (0)), .v (.int .i64 (0)), .v (.int .i64 (0))] [], none⟩,
     ⟨some 5, .mv (.tmp 8), none⟩] [0, 1, 5] []) <|
  .seq (.seq (.region [⟨some 9, .mv (.tmp 0), none⟩,
      ⟨some 10, .call (.func F.__spec_l00Src__pick) [(.tmp 9), (.const (.int .i64 (3)))] [0], none⟩,
      ⟨some 6, .mv (.tmp 10), none⟩] [0, 1, 5, 6] []) <|
   .block 0 (
     .loop (
       .seq (.seq (.region [⟨some 11, .mv (.tmp 6), none⟩,
           ⟨some 12, .bin .gtr (.tmp 11) (.const (.int .i64 (0))), none⟩] [0, 1, 5, 6, 12] []) <|
        .cond (.tmp 12)
          (.skip)
          (.exit 0)) <|
       .seq (.block 1 (
          .seq (.region [⟨some 15, .mv (.tmp 0), none⟩,
             ⟨some 16, .mv (.tmp 1), none⟩,
             ⟨some 17, .call (.func F.spec_l19DrawFault) [(.tmp 15), (.tmp 16)] [0], none⟩,
             ⟨some 7, .alloc [.v (.int .i64 (0)), .v (.int .i64 (0)), .v (.int .i64 (0)), .v (.int .i64 (0))], none⟩,
             ⟨none, .store 4 (.tmp 7) (.tmp 17), none⟩] [0, 1, 5, 6, 7] []) <|
          .seq (.region [⟨some 18, .mv (.tmp 5), none⟩,
             ⟨some 19, .len (.tmp 18), none⟩,
             ⟨some 20, .bin .gtr (.tmp 19) (.const (.int .i64 (0))), none⟩,
             ⟨some 21, .mv (.tmp 20), none⟩,
             ⟨some 22, .fieldAddr 1 (.tmp 7), some (21, true)⟩,
             ⟨some 23, .load false 1 (.tmp 22), some (21, true)⟩,
             ⟨some 24, .mv (.tmp 5), some (21, true)⟩,
             ⟨some 25, .idxSl 4 (.tmp 24) (.const (.int .i64 (0))), some (21, true)⟩,
             ⟨some 26, .fieldAddr 1 (.tmp 25), some (21, true)⟩,
             ⟨some 27, .load false 1 (.tmp 26), some (21, true)⟩,
             ⟨some 28, .bin .lss (.tmp 23) (.tmp 27), some (21, true)⟩,
             ⟨some 29, .pick (.tmp 21) (.tmp 28) (.const (.bool false)), none⟩] [0, 1, 5, 6, 7, 29] [18, 20, 21, 19, 22, 23, 24, 25, 26, 27, 28, 29]) <|
          .cond (.tmp 29)
            (.region [⟨some 30, .load true 4 (.tmp 7), none⟩,
              ⟨some 31, .bslice 4 1 [.v (.int .i64 (0)), .v (.int .i64 (0)), .v (.int .i64 (0)), .v (.int .i64 (0))] [(0, (.tmp 30))], none⟩,
              ⟨some 32, .mv (.tmp 5), none⟩,
              ⟨some 33, .append 4 32 (.tmp 31) (.tmp 32), none⟩,
              ⟨some 5, .mv (.tmp 33), none⟩] [0, 1, 5, 6] [])
            (.region [⟨some 34, .mv (.tmp 5), none⟩,
              ⟨some 35, .load true 4 (.tmp 7), none⟩,
              ⟨some 36, .bslice 4 1 [.v (.int .i64 (0)), .v (.int .i64 (0)), .v (.int .i64 (0)), .v (.int .i64 (0))] [(0, (.tmp 35))], none⟩,
              ⟨some 37, .append 4 32 (.tmp 34) (.tmp 36), none⟩,
              ⟨some 5, .mv (.tmp 37), none⟩] [0, 1, 5, 6] []))) <|
       .region [⟨some 13, .mv (.tmp 6), none⟩,
         ⟨some 14, .bin .sub (.tmp 13) (.const (.int .i64 (1))), none⟩,
         ⟨some 6, .mv (.tmp 14), none⟩] [0, 1, 5, 6] []))) <|
  .seq (.seq (.region [⟨some 38, .mv (.tmp 0), none⟩,
      ⟨some 39, .call (.func F.__spec_l00Src__one) [(.tmp 38), (.const (.int .i64 (16)))] [0], none⟩] [5, 39] []) <|
   .cond (.tmp 39)
     (.region [⟨some 40, .mv (.tmp 5), none⟩,
       ⟨some 41, .build [.v (.int .i64 (0)), .v (.int .i64 (0)), .v (.int .i64 (0)), .v (.int .i64 (0))] [(0, 1, (.const (.int .i64 (1)))), (1, 1, (.const (.int .i64 (11))))], none⟩,
       ⟨some 42, .bslice 4 1 [.v (.int .i64 (0)), .v (.int .i64 (0)), .v (.int .i64 (0)), .v (.int .i64 (0))] [(0, (.tmp 41))], none⟩,
       ⟨some 43, .append 4 32 (.tmp 40) (.tmp 42), none⟩,
       ⟨some 5, .mv (.tmp 43), none⟩] [5] [])
     (.skip)) <|
  .seq (.region [⟨some 44, .mv (.tmp 5), none⟩,
     ⟨some 4, .mv (.tmp 44), none⟩] [4] []) <|
  .ret
theorem Cd.spec_l19DrawFaults_rs : Tryd.f25.results.toList = [.tmp 4] := rfl
theorem Cd.spec_l19DrawFaults_nt : Tryd.f25.ntmps = 45 := rfl
theorem Cd.spec_l19DrawFaults_ok : CodeIsR Tryd.prog 25 Tryd.f25 Cd.spec_l19DrawFaults := ⟨Tryd.func25, by kernel_rfl, by decide +kernel⟩
/-- loop.example/g01012/spec.l19Faults DRAWS -/
def Cd.spec_l19Faults : ACode :=
  .seq (.region [⟨some 4, .mv (.const (.bool false)), none⟩] [0, 1] []) <|
  .seq (.seq (.region [⟨some 5, .mv (.const (.int .i64 (0))), none⟩] [0, 1, 5] []) <|
   .block 0 (
     .loop (
       .seq (.seq (.region [⟨some 6, .mv (.tmp 5), none⟩,
           ⟨some 7, .mv (.tmp 1), none⟩,
           ⟨some 8, .len (.tmp 7), none⟩,
           ⟨some 9, .bin .lss (.tmp 6) (.tmp 8), none⟩] [0, 1, 5, 9] []) <|
        .cond (.tmp 9)
          (.skip)
          (.exit 0)) <|
       .seq (.block 1 (
          .seq (.region [⟨some 12, .mv (.tmp 0), none⟩,
             ⟨some 13, .mv (.tmp 1), none⟩,
             ⟨some 14, .mv (.tmp 5), none⟩,
             ⟨some 15, .idxSl 4 (.tmp 13) (.tmp 14), none⟩,
             ⟨some 16, .load true 4 (.tmp 15), none⟩,
             ⟨some 17, .call (.func F.spec_l19Fault) [(.tmp 12), (.tmp 16)] [], none⟩,
             ⟨some 18, .un .not (.tmp 17), none⟩,
             ⟨some 19, .mv (.tmp 18), none⟩,
             ⟨some 20, .mv (.tmp 5), some (19, false)⟩,
             ⟨some 21, .bin .gtr (.tmp 20) (.const (.int .i64 (0))), some (19, false)⟩,
             ⟨some 22, .mv (.tmp 21), some (19, false)⟩,
             ⟨some 23, .mv (.tmp 1), some (22, true)⟩,
             ⟨some 24, .mv (.tmp 5), some (22, true)⟩,
             ⟨some 25, .bin .sub (.tmp 24) (.const (.int .i64 (1))), some (22, true)⟩,
             ⟨some 26, .idxSl 4 (.tmp 23) (.tmp 25), some (22, true)⟩,
             ⟨some 27, .fieldAddr 1 (.tmp 26), some (22, true)⟩,
             ⟨some 28, .load false 1 (.tmp 27), some (22, true)⟩,
             ⟨some 29, .mv (.tmp 1), some (22, true)⟩,
             ⟨some 30, .mv (.tmp 5), some (22, true)⟩,
             ⟨some 31, .idxSl 4 (.tmp 29) (.tmp 30), some (22, true)⟩,
             ⟨some 32, .fieldAddr 1 (.tmp 31), some (22, true)⟩,
             ⟨some 33, .load false 1 (.tmp 32), some (22, true)⟩,
             ⟨some 34, .bin .geq (.tmp 28) (.tmp 33), some (22, true)⟩,
             ⟨some 35, .pick (.tmp 22) (.tmp 34) (.const (.bool false)), some (19, false)⟩,
             ⟨some 36, .pick (.tmp 19) (.const (.bool true)) (.tmp 35), none⟩] [0, 1, 5, 36] [12, 13, 14, 15, 16, 17, 18, 19, 20, 21, 22, 23, 24, 25, 26, 27, 28, 29, 30, 31, 32, 33, 34, 35, 36]) <|
          .cond (.tmp 36)
            (.seq (.region [⟨some 4, .mv (.const (.bool false)), none⟩] [4] []) <|
            .ret)
            (.skip))) <|
       .region [⟨some 10, .mv (.tmp 5), none⟩,
         ⟨some 11, .bin .add (.tmp 10) (.const (.int .i64 (1))), none⟩,
         ⟨some 5, .mv (.tmp 11), none⟩] [0, 1, 5] []))) <|
  .seq (.region [⟨some 37, .mv (.tmp 1), none⟩,
     ⟨some 38, .len (.tmp 37), none⟩,
     ⟨some 39, .bin .leq (.tmp 38) (.const (.int .i64 (2))), none⟩,
     ⟨some 4, .mv (.tmp 39), none⟩] [4] []) <|
  .ret
theorem Cd.spec_l19Faults_rs : Tryd.f26.results.toList = [.tmp 4] := rfl
theorem Cd.spec_l19Faults_nt : Tryd.f26.ntmps = 40 := rfl
theorem Cd.spec_l19Faults_ok : CodeIsR Tryd.prog 26 Tryd.f26 Cd.spec_l19Faults := ⟨Tryd.func26, by kernel_rfl, by decide +kernel⟩
/-- loop.example/g01012/impl.faultCode -/
def Cd.impl_faultCode : ACode :=
  .seq (.region [⟨some 4, .mv (.const (.int .i64 (0))), none⟩] [0, 1] []) <|
  .seq (.block 0 (
     .seq (.region [⟨some 6, .mv (.tmp 0), none⟩,
        ⟨some 7, .call (.func F.impl_ValidAmounts) [(.tmp 6)] [], none⟩,
        ⟨some 8, .un .not (.tmp 7), none⟩,
        ⟨some 5, .mv (.tmp 8), none⟩] [0, 1, 5] []) <|
     .cond (.tmp 5)
       (.seq (.region [⟨some 4, .mv (.const (.int .i64 (1))), none⟩] [4] []) <|
       .ret)
       (.seq (.region [⟨some 10, .mv (.tmp 0), none⟩,
          ⟨some 11, .mv (.tmp 1), none⟩,
          ⟨some 12, .call (.func F.impl_areFaults) [(.tmp 10), (.tmp 11)] [], none⟩,
          ⟨some 13, .un .not (.tmp 12), none⟩,
          ⟨some 9, .mv (.tmp 13), none⟩] [9] []) <|
       .cond (.tmp 9)
         (.seq (.region [⟨some 4, .mv (.const (.int .i64 (2))), none⟩] [4] []) <|
         .ret)
         (.skip)))) <|
  .seq (.region [⟨some 4, .mv (.const (.int .i64 (0))), none⟩] [4] []) <|
  .ret
theorem Cd.impl_faultCode_rs : Tryd.f27.results.toList = [.tmp 4] := rfl
theorem Cd.impl_faultCode_nt : Tryd.f27.ntmps = 14 := rfl
theorem Cd.impl_faultCode_ok : CodeIsR Tryd.prog 27 Tryd.f27 Cd.impl_faultCode := ⟨Tryd.func27, by kernel_rfl, by decide +kernel⟩
/-- loop.example/g01012/impl.amountsAfter -/
def Cd.impl_amountsAfter : ACode :=
  .seq (.region [⟨some 4, .mv (.const (.slice none 0 0)), none⟩] [0, 1] []) <|
  .seq (.naming 5 (
     .region [⟨some 11, .bslice 1 0 [.v (.int .i64 (0))] [], none⟩,
       ⟨some 5, .mv (.tmp 11), none⟩] [0, 1, 5] [])) <|
  .seq (.seq (.region [⟨some 12, .mv (.tmp 0), none⟩,
      ⟨some 13, .len (.tmp 12), none⟩,
      ⟨some 14, .mv (.const (.int .i64 (0))), none⟩] [1, 5, 12, 13, 14] []) <|
   .block 0 (
     .loop (
       .seq (.region [⟨some 15, .bin .lss (.tmp 14) (.tmp 13), none⟩] [1, 5, 12, 13, 14, 15] []) <|
       .seq (.cond (.tmp 15)
          (.skip)
          (.exit 0)) <|
       .seq (.block 1 (
          .seq (.region [⟨some 16, .mv (.tmp 14), none⟩,
             ⟨some 17, .idxSl 1 (.tmp 12) (.tmp 14), none⟩,
             ⟨some 18, .load false 1 (.tmp 17), none⟩,
             ⟨some 6, .alloc [.v (.int .i64 (0))], none⟩,
             ⟨none, .store 1 (.tmp 6) (.tmp 16), none⟩,
             ⟨some 7, .mv (.tmp 18), none⟩] [1, 5, 6, 7, 12, 13, 14] []) <|
          .seq (.region [⟨some 19, .mv (.tmp 1), none⟩,
             ⟨some 20, .mkfn F.impl_amountsAfter_1 [(.tmp 6)], none⟩,
             ⟨some 21, .call (.func F.slices_IndexFunc___impl_Fault_impl_Fault_) [(.tmp 19), (.tmp 20)] [], none⟩,
             ⟨some 8, .mv (.tmp 21), none⟩] [1, 5, 7, 8, 12, 13, 14] []) <|
          .seq (.seq (.region [⟨some 22, .mv (.tmp 8), none⟩,
              ⟨some 23, .bin .lss (.tmp 22) (.const (.int .i64 (0))), none⟩] [1, 5, 7, 8, 12, 13, 14, 23] []) <|
           .cond (.tmp 23)
             (.seq (.naming 5 (
                .region [⟨some 24, .mv (.tmp 5), none⟩,
                  ⟨some 25, .mv (.tmp 7), none⟩,
                  ⟨some 26, .bslice 1 1 [.v (.int .i64 (0))] [(0, (.tmp 25))], none⟩,
                  ⟨some 27, .append 1 8 (.tmp 24) (.tmp 26), none⟩,
                  ⟨some 5, .mv (.tmp 27), none⟩] [1, 5, 12, 13, 14] [])) <|
             .exit 1)
             (.skip)) <|
          .seq (.region [⟨some 28, .mv (.tmp 1), none⟩,
             ⟨some 29, .mv (.tmp 8), none⟩,
             ⟨some 30, .idxSl 4 (.tmp 28) (.tmp 29), none⟩,
             ⟨some 31, .load true 4 (.tmp 30), none⟩,
             ⟨some 9, .alloc [.v (.int .i64 (0)), .v (.int .i64 (0)), .v (.int .i64 (0)), .v (.int .i64 (0))], none⟩,
             ⟨none, .store 4 (.tmp 9) (.tmp 31), none⟩] [1, 5, 7, 9, 12, 13, 14] []) <|
          .seq (.region [⟨some 32, .fieldAddr 0 (.tmp 9), none⟩,
             ⟨some 33, .load false 1 (.tmp 32), none⟩] [1, 5, 7, 9, 12, 13, 14, 33] []) <|
          .block 2 (
            .seq (.region [⟨some 35, .bin .eql (.tmp 33) (.const (.int .i64 (2))), none⟩,
               ⟨some 34, .mv (.tmp 35), none⟩] [1, 5, 7, 9, 12, 13, 14, 33, 34] []) <|
            .cond (.tmp 34)
              (.naming 5 (
                .region [⟨some 36, .mv (.tmp 5), none⟩,
                  ⟨some 37, .mv (.tmp 7), none⟩,
                  ⟨some 38, .mv (.tmp 7), none⟩,
                  ⟨some 39, .bslice 1 2 [.v (.int .i64 (0))] [(0, (.tmp 37)), (1, (.tmp 38))], none⟩,
                  ⟨some 40, .append 1 8 (.tmp 36) (.tmp 39), none⟩,
                  ⟨some 5, .mv (.tmp 40), none⟩] [1, 5, 12, 13, 14] []))
              (.seq (.region [⟨some 42, .bin .eql (.tmp 33) (.const (.int .i64 (3))), none⟩,
                 ⟨some 41, .mv (.tmp 42), none⟩] [1, 5, 7, 9, 12, 13, 14, 41] []) <|
              .cond (.tmp 41)
                (.seq (.region [⟨some 43, .mv (.tmp 7), none⟩,
                   ⟨some 44, .call (.func F.impl_wheelsShow) [(.const (.int .i64 (4))), (.tmp 43)] [], none⟩,
                   ⟨some 10, .alloc [.v (.slice none 0 0)], none⟩,
                   ⟨none, .store 1 (.tmp 10) (.tmp 44), none⟩] [1, 5, 9, 10, 12, 13, 14] []) <|
                .seq (.region [⟨some 45, .fieldAddr 0 (.tmp 10), none⟩,
                   ⟨some 46, .load false 1 (.tmp 45), none⟩,
                   ⟨some 47, .fieldAddr 2 (.tmp 9), none⟩,
                   ⟨some 48, .load false 1 (.tmp 47), none⟩,
                   ⟨some 49, .fieldAddr 3 (.tmp 9), none⟩,
                   ⟨some 50, .load false 1 (.tmp 49), none⟩,
                   ⟨some 51, .idxSl 1 (.tmp 46) (.tmp 48), none⟩,
                   ⟨none, .store 1 (.tmp 51) (.tmp 50), none⟩] [1, 5, 10, 12, 13, 14] []) <|
                .naming 5 (
                  .region [⟨some 52, .mv (.tmp 5), none⟩,
                    ⟨some 53, .load true 1 (.tmp 10), none⟩,
                    ⟨some 54, .call (.func F.impl_shown) [(.tmp 53)] [], none⟩,
                    ⟨some 55, .bslice 1 1 [.v (.int .i64 (0))] [(0, (.tmp 54))], none⟩,
                    ⟨some 56, .append 1 8 (.tmp 52) (.tmp 55), none⟩,
                    ⟨some 5, .mv (.tmp 56), none⟩] [1, 5, 12, 13, 14] []))
                (.skip))))) <|
       .region [⟨some 57, .bin .add (.tmp 14) (.const (.int .i64 (1))), none⟩,
         ⟨some 14, .mv (.tmp 57), none⟩] [1, 5, 12, 13, 14] []))) <|
  .seq (.region [⟨some 58, .mv (.tmp 5), none⟩,
     ⟨some 4, .mv (.tmp 58), none⟩] [4] []) <|
  .ret
theorem Cd.impl_amountsAfter_rs : Tryd.f28.results.toList = [.tmp 4] := rfl
theorem Cd.impl_amountsAfter_nt : Tryd.f28.ntmps = 59 := rfl
theorem Cd.impl_amountsAfter_ok : CodeIsR Tryd.prog 28 Tryd.f28 Cd.impl_amountsAfter := ⟨Tryd.func28, by kernel_rfl, by decide +kernel⟩
/-- loop.example/g01012/impl.reportOf DRAWS -/
def Cd.impl_reportOf : ACode :=
  .seq (.region [⟨some 2, .alloc [.v (.int .i64 (0)), .v (.int .i64 (0)), .v (.int .i64 (0))], none⟩] [0, 2] []) <|
  .seq (.region [⟨some 6, .mv (.tmp 0), none⟩,
     ⟨some 7, .call (.func F.impl_size_int64_) [(.tmp 6)] [], none⟩,
     ⟨some 8, .build [.v (.int .i64 (0)), .v (.int .i64 (0)), .v (.int .i64 (0))] [(0, 1, (.tmp 7))], none⟩,
     ⟨some 3, .alloc [.v (.int .i64 (0)), .v (.int .i64 (0)), .v (.int .i64 (0))], none⟩,
     ⟨none, .store 3 (.tmp 3) (.tmp 8), none⟩] [0, 2, 3] []) <|
  .seq (.seq (.region [⟨some 9, .mv (.tmp 0), none⟩,
      ⟨some 10, .len (.tmp 9), none⟩,
      ⟨some 11, .mv (.const (.int .i64 (0))), none⟩] [2, 3, 9, 10, 11] []) <|
   .block 0 (
     .loop (
       .seq (.region [⟨some 12, .bin .lss (.tmp 11) (.tmp 10), none⟩] [2, 3, 9, 10, 11, 12] []) <|
       .seq (.cond (.tmp 12)
          (.skip)
          (.exit 0)) <|
       .seq (.block 1 (
          .seq (.region [⟨some 13, .idxSl 1 (.tmp 9) (.tmp 11), none⟩,
             ⟨some 14, .load false 1 (.tmp 13), none⟩,
             ⟨some 5, .mv (.tmp 14), none⟩] [2, 3, 5, 9, 10, 11] []) <|
          .seq (.region [⟨some 15, .fieldAddr 1 (.tmp 3), none⟩,
             ⟨some 16, .load false 1 (.tmp 15), none⟩,
             ⟨some 17, .mv (.tmp 5), none⟩,
             ⟨some 18, .bin .add (.tmp 16) (.tmp 17), none⟩,
             ⟨some 19, .fieldAddr 1 (.tmp 3), none⟩,
             ⟨none, .store 1 (.tmp 19) (.tmp 18), none⟩] [2, 3, 5, 9, 10, 11] []) <|
          .region [⟨some 20, .fieldAddr 2 (.tmp 3), none⟩,
            ⟨some 21, .load false 1 (.tmp 20), none⟩,
            ⟨some 22, .mv (.tmp 5), none⟩,
            ⟨some 23, .call (.func F.impl_digitSum) [(.tmp 22)] [], none⟩,
            ⟨some 24, .bin .add (.tmp 21) (.tmp 23), none⟩,
            ⟨some 25, .fieldAddr 2 (.tmp 3), none⟩,
            ⟨none, .store 1 (.tmp 25) (.tmp 24), none⟩] [2, 3, 9, 10, 11] [20, 22, 21, 23, 24])) <|
       .region [⟨some 26, .bin .add (.tmp 11) (.const (.int .i64 (1))), none⟩,
         ⟨some 11, .mv (.tmp 26), none⟩] [2, 3, 9, 10, 11] []))) <|
  .seq (.region [⟨some 27, .load true 3 (.tmp 3), none⟩,
     ⟨none, .store 3 (.tmp 2) (.tmp 27), none⟩] [2] []) <|
  .ret
theorem Cd.impl_reportOf_rs : Tryd.f29.results.toList = [.cell 2 31] := rfl
theorem Cd.impl_reportOf_nt : Tryd.f29.ntmps = 28 := rfl
theorem Cd.impl_reportOf_ok : CodeIsR Tryd.prog 29 Tryd.f29 Cd.impl_reportOf := ⟨Tryd.func29, by kernel_rfl, by decide +kernel⟩
/-- loop.example/g01012/impl.ValidAmounts -/
def Cd.impl_ValidAmounts : ACode :=
  .seq (.region [⟨some 2, .mv (.const (.bool false)), none⟩] [0] []) <|
  .seq (.region [⟨some 3, .mv (.tmp 0), none⟩,
     ⟨some 4, .len (.tmp 3), none⟩,
     ⟨some 5, .bin .leq (.tmp 4) (.const (.int .i64 (12))), none⟩,
     ⟨some 6, .mv (.tmp 5), none⟩,
     ⟨some 7, .mv (.tmp 0), some (6, true)⟩,
     ⟨some 8, .call (.func F.slices_ContainsFunc___int64_int64_) [(.tmp 7), (.func F.impl_ValidAmounts_1)] [], some (6, true)⟩,
     ⟨some 9, .un .not (.tmp 8), some (6, true)⟩,
     ⟨some 10, .pick (.tmp 6) (.tmp 9) (.const (.bool false)), none⟩,
     ⟨some 2, .mv (.tmp 10), none⟩] [2] []) <|
  .ret
theorem Cd.impl_ValidAmounts_rs : Tryd.f30.results.toList = [.tmp 2] := rfl
theorem Cd.impl_ValidAmounts_nt : Tryd.f30.ntmps = 11 := rfl
theorem Cd.impl_ValidAmounts_ok : CodeIsR Tryd.prog 30 Tryd.f30 Cd.impl_ValidAmounts := ⟨Tryd.func30, by kernel_rfl, by decide +kernel⟩
/-- loop.example/g01012/impl.isReport -/
def Cd.impl_isReport : ACode :=
  .seq (.region [⟨some 1, .box (.tmp 0), none⟩,
     ⟨some 2, .mv (.const (.bool false)), none⟩] [1] []) <|
  .seq (.region [⟨some 3, .fieldAddr 0 (.tmp 1), none⟩,
     ⟨some 4, .load false 1 (.tmp 3), none⟩,
     ⟨some 5, .call (.func F.impl_inside) [(.tmp 4), (.const (.int .i64 (-1000000000))), (.const (.int .i64 (1000000000)))] [], none⟩,
     ⟨some 6, .mv (.tmp 5), none⟩,
     ⟨some 7, .fieldAddr 1 (.tmp 1), some (6, true)⟩,
     ⟨some 8, .load false 1 (.tmp 7), some (6, true)⟩,
     ⟨some 9, .call (.func F.impl_inside) [(.tmp 8), (.const (.int .i64 (-1000000000))), (.const (.int .i64 (1000000000)))] [], some (6, true)⟩,
     ⟨some 10, .pick (.tmp 6) (.tmp 9) (.const (.bool false)), none⟩,
     ⟨some 11, .mv (.tmp 10), none⟩,
     ⟨some 12, .fieldAddr 2 (.tmp 1), some (11, true)⟩,
     ⟨some 13, .load false 1 (.tmp 12), some (11, true)⟩,
     ⟨some 14, .call (.func F.impl_inside) [(.tmp 13), (.const (.int .i64 (-1000000000))), (.const (.int .i64 (1000000000)))] [], some (11, true)⟩,
     ⟨some 15, .pick (.tmp 11) (.tmp 14) (.const (.bool false)), none⟩,
     ⟨some 2, .mv (.tmp 15), none⟩] [2] []) <|
  .ret
theorem Cd.impl_isReport_rs : Tryd.f31.results.toList = [.tmp 2] := rfl
theorem Cd.impl_isReport_nt : Tryd.f31.ntmps = 16 := rfl
theorem Cd.impl_isReport_ok : CodeIsR Tryd.prog 31 Tryd.f31 Cd.impl_isReport := ⟨Tryd.func31, by kernel_rfl, by decide +kernel⟩
/-- (loop.example/g01012/impl.Report).less -/
def Cd._impl_Report__less : ACode :=
  .seq (.region [⟨some 2, .box (.tmp 0), none⟩,
     ⟨some 3, .box (.tmp 1), none⟩,
     ⟨some 4, .alloc [.v (.int .i64 (0)), .v (.int .i64 (0)), .v (.int .i64 (0))], none⟩] [2, 3, 4] []) <|
  .seq (.region [⟨some 5, .fieldAddr 0 (.tmp 2), none⟩,
     ⟨some 6, .load false 1 (.tmp 5), none⟩,
     ⟨some 7, .fieldAddr 0 (.tmp 3), none⟩,
     ⟨some 8, .load false 1 (.tmp 7), none⟩,
     ⟨some 9, .bin .sub (.tmp 6) (.tmp 8), none⟩,
     ⟨some 10, .fieldAddr 1 (.tmp 2), none⟩,
     ⟨some 11, .load false 1 (.tmp 10), none⟩,
     ⟨some 12, .fieldAddr 1 (.tmp 3), none⟩,
     ⟨some 13, .load false 1 (.tmp 12), none⟩,
     ⟨some 14, .bin .sub (.tmp 11) (.tmp 13), none⟩,
     ⟨some 15, .fieldAddr 2 (.tmp 2), none⟩,
     ⟨some 16, .load false 1 (.tmp 15), none⟩,
     ⟨some 17, .fieldAddr 2 (.tmp 3), none⟩,
     ⟨some 18, .load false 1 (.tmp 17), none⟩,
     ⟨some 19, .bin .sub (.tmp 16) (.tmp 18), none⟩,
     ⟨some 20, .build [.v (.int .i64 (0)), .v (.int .i64 (0)), .v (.int .i64 (0))] [(0, 1, (.tmp 9)), (1, 1, (.tmp 14)), (2, 1, (.tmp 19))], none⟩,
     ⟨none, .store 3 (.tmp 4) (.tmp 20), none⟩] [4] []) <|
  .ret
theorem Cd._impl_Report__less_rs : Tryd.f32.results.toList = [.cell 4 31] := rfl
theorem Cd._impl_Report__less_nt : Tryd.f32.ntmps = 21 := rfl
theorem Cd._impl_Report__less_ok : CodeIsR Tryd.prog 32 Tryd.f32 Cd._impl_Report__less := ⟨Tryd.func32, by kernel_rfl, by decide +kernel⟩
/-- (*loop.example/g01012/spec.l00Src).pick -/
def Cd.__spec_l00Src__pick : ACode :=
  .seq (.region [⟨some 4, .mv (.const (.int .i64 (0))), none⟩] [0, 1] []) <|
  .seq (.seq (.region [⟨some 6, .mv (.tmp 1), none⟩,
      ⟨some 7, .bin .leq (.tmp 6) (.const (.int .i64 (1))), none⟩] [0, 1, 7] []) <|
   .cond (.tmp 7)
     (.seq (.region [⟨some 4, .mv (.const (.int .i64 (0))), none⟩] [4] []) <|
     .ret)
     (.skip)) <|
  .seq (.region [⟨some 8, .mv (.tmp 0), none⟩,
     ⟨some 9, .call (.func F.__spec_l00Src__next) [(.tmp 8)] [0], none⟩,
     ⟨some 5, .mv (.tmp 9), none⟩] [0, 1, 5] []) <|
  .seq (.seq (.region [⟨some 10, .mv (.tmp 1), none⟩,
      ⟨some 11, .bin .gtr (.tmp 10) (.const (.int .i64 (200))), none⟩] [0, 1, 5, 11] []) <|
   .cond (.tmp 11)
     (.region [⟨some 12, .mv (.tmp 5), none⟩,
       ⟨some 13, .bin .mul (.tmp 12) (.const (.int .i64 (256))), none⟩,
       ⟨some 14, .mv (.tmp 0), none⟩,
       ⟨some 15, .call (.func F.__spec_l00Src__next) [(.tmp 14)] [0], none⟩,
       ⟨some 16, .bin .add (.tmp 13) (.tmp 15), none⟩,
       ⟨some 5, .mv (.tmp 16), none⟩] [1, 5] [])
     (.skip)) <|
  .seq (.region [⟨some 17, .mv (.tmp 5), none⟩,
     ⟨some 18, .mv (.tmp 1), none⟩,
     ⟨some 19, .bin .rem (.tmp 17) (.tmp 18), none⟩,
     ⟨some 4, .mv (.tmp 19), none⟩] [4] []) <|
  .ret
theorem Cd.__spec_l00Src__pick_rs : Tryd.f54.results.toList = [.tmp 4] := rfl
theorem Cd.__spec_l00Src__pick_nt : Tryd.f54.ntmps = 20 := rfl
theorem Cd.__spec_l00Src__pick_ok : CodeIsR Tryd.prog 54 Tryd.f54 Cd.__spec_l00Src__pick := ⟨Tryd.func54, by kernel_rfl, by decide +kernel⟩
/-- (*loop.example/g01012/spec.l00Src).one -/
def Cd.__spec_l00Src__one : ACode :=
  .seq (.region [⟨some 4, .mv (.const (.bool false)), none⟩] [0, 1] []) <|
  .seq (.region [⟨some 5, .mv (.tmp 0), none⟩,
     ⟨some 6, .mv (.tmp 1), none⟩,
     ⟨some 7, .call (.func F.__spec_l00Src__pick) [(.tmp 5), (.tmp 6)] [0], none⟩,
     ⟨some 8, .bin .eql (.tmp 7) (.const (.int .i64 (0))), none⟩,
     ⟨some 4, .mv (.tmp 8), none⟩] [4] []) <|
  .ret
theorem Cd.__spec_l00Src__one_rs : Tryd.f55.results.toList = [.tmp 4] := rfl
theorem Cd.__spec_l00Src__one_nt : Tryd.f55.ntmps = 9 := rfl
theorem Cd.__spec_l00Src__one_ok : CodeIsR Tryd.prog 55 Tryd.f55 Cd.__spec_l00Src__one := ⟨Tryd.func55, by kernel_rfl, by decide +kernel⟩
/-- loop.example/g01012/spec.l19DrawFault -/
def Cd.spec_l19DrawFault : ACode :=
  .seq (.region [⟨some 4, .alloc [.v (.int .i64 (0)), .v (.int .i64 (0)), .v (.int .i64 (0)), .v (.int .i64 (0))], none⟩] [0, 1, 4] []) <|
  .seq (.region [⟨some 6, .mv (.tmp 0), none⟩,
     ⟨some 7, .call (.func F.__spec_l00Src__pick) [(.tmp 6), (.const (.int .i64 (3)))] [0], none⟩,
     ⟨some 8, .bin .add (.const (.int .i64 (1))) (.tmp 7), none⟩,
     ⟨some 9, .build [.v (.int .i64 (0)), .v (.int .i64 (0)), .v (.int .i64 (0)), .v (.int .i64 (0))] [(0, 1, (.tmp 8))], none⟩,
     ⟨some 5, .alloc [.v (.int .i64 (0)), .v (.int .i64 (0)), .v (.int .i64 (0)), .v (.int .i64 (0))], none⟩,
     ⟨none, .store 4 (.tmp 5) (.tmp 9), none⟩] [0, 1, 4, 5] []) <|
  .seq (.region [⟨some 10, .mv (.tmp 0), none⟩,
     ⟨some 11, .mv (.tmp 1), none⟩,
     ⟨some 12, .call (.func F.spec_l00Max) [(.const (.int .i64 (1))), (.tmp 11)] [], none⟩,
     ⟨some 13, .call (.func F.__spec_l00Src__pick) [(.tmp 10), (.tmp 12)] [0], none⟩,
     ⟨some 14, .fieldAddr 1 (.tmp 5), none⟩,
     ⟨none, .store 1 (.tmp 14) (.tmp 13), none⟩] [0, 4, 5] []) <|
  .seq (.seq (.region [⟨some 15, .fieldAddr 0 (.tmp 5), none⟩,
      ⟨some 16, .load false 1 (.tmp 15), none⟩,
      ⟨some 17, .bin .eql (.tmp 16) (.const (.int .i64 (3))), none⟩] [0, 4, 5, 17] []) <|
   .cond (.tmp 17)
     (.seq (.region [⟨some 18, .mv (.tmp 0), none⟩,
        ⟨some 19, .call (.func F.__spec_l00Src__pick) [(.tmp 18), (.const (.int .i64 (4)))] [0], none⟩,
        ⟨some 20, .fieldAddr 2 (.tmp 5), none⟩,
        ⟨none, .store 1 (.tmp 20) (.tmp 19), none⟩] [0, 4, 5] []) <|
     .region [⟨some 21, .mv (.tmp 0), none⟩,
       ⟨some 22, .call (.func F.__spec_l00Src__pick) [(.tmp 21), (.const (.int .i64 (10)))] [0], none⟩,
       ⟨some 23, .fieldAddr 3 (.tmp 5), none⟩,
       ⟨none, .store 1 (.tmp 23) (.tmp 22), none⟩] [0, 4, 5] [])
     (.skip)) <|
  .seq (.seq (.region [⟨some 24, .mv (.tmp 0), none⟩,
      ⟨some 25, .call (.func F.__spec_l00Src__pick) [(.tmp 24), (.const (.int .i64 (20)))] [0], none⟩] [0, 4, 5, 25] []) <|
   .block 0 (
     .seq (.region [⟨some 27, .bin .eql (.tmp 25) (.const (.int .i64 (0))), none⟩,
        ⟨some 26, .mv (.tmp 27), none⟩] [0, 4, 5, 25, 26] []) <|
     .cond (.tmp 26)
       (.region [⟨some 28, .mv (.tmp 0), none⟩,
         ⟨some 29, .bslice 1 2 [.v (.int .i64 (0))] [(0, (.const (.int .i64 (0)))), (1, (.const (.int .i64 (4))))], none⟩,
         ⟨some 30, .call (.func F.__spec_l00Src__among) [(.tmp 28), (.tmp 29)] [0], none⟩,
         ⟨some 31, .fieldAddr 0 (.tmp 5), none⟩,
         ⟨none, .store 1 (.tmp 31) (.tmp 30), none⟩] [4, 5] [])
       (.seq (.region [⟨some 33, .bin .eql (.tmp 25) (.const (.int .i64 (1))), none⟩,
          ⟨some 32, .mv (.tmp 33), none⟩] [0, 4, 5, 25, 32] []) <|
       .cond (.tmp 32)
         (.region [⟨some 34, .mv (.tmp 0), none⟩,
           ⟨some 35, .bslice 1 3 [.v (.int .i64 (0))] [(0, (.const (.int .i64 (-1)))), (1, (.const (.int .i64 (11)))), (2, (.const (.int .i64 (12))))], none⟩,
           ⟨some 36, .call (.func F.__spec_l00Src__among) [(.tmp 34), (.tmp 35)] [0], none⟩,
           ⟨some 37, .fieldAddr 1 (.tmp 5), none⟩,
           ⟨none, .store 1 (.tmp 37) (.tmp 36), none⟩] [4, 5] [])
         (.seq (.region [⟨some 39, .bin .eql (.tmp 25) (.const (.int .i64 (2))), none⟩,
            ⟨some 38, .mv (.tmp 39), none⟩] [0, 4, 5, 25, 38] []) <|
         .cond (.tmp 38)
           (.region [⟨some 40, .mv (.tmp 0), none⟩,
             ⟨some 41, .bslice 1 4 [.v (.int .i64 (0))] [(0, (.const (.int .i64 (-1)))), (1, (.const (.int .i64 (1)))), (2, (.const (.int .i64 (3)))), (3, (.const (.int .i64 (4))))], none⟩,
             ⟨some 42, .call (.func F.__spec_l00Src__among) [(.tmp 40), (.tmp 41)] [0], none⟩,
             ⟨some 43, .fieldAddr 2 (.tmp 5), none⟩,
             ⟨none, .store 1 (.tmp 43) (.tmp 42), none⟩] [4, 5] [])
           (.seq (.region [⟨some 45, .bin .eql (.tmp 25) (.const (.int .i64 (3))), none⟩,
              ⟨some 44, .mv (.tmp 45), none⟩] [0, 4, 5, 44] []) <|
           .cond (.tmp 44)
             (.region [⟨some 46, .mv (.tmp 0), none⟩,
               ⟨some 47, .bslice 1 4 [.v (.int .i64 (0))] [(0, (.const (.int .i64 (-1)))), (1, (.const (.int .i64 (1)))), (2, (.const (.int .i64 (9)))), (3, (.const (.int .i64 (10))))], none⟩,
               ⟨some 48, .call (.func F.__spec_l00Src__among) [(.tmp 46), (.tmp 47)] [0], none⟩,
               ⟨some 49, .fieldAddr 3 (.tmp 5), none⟩,
               ⟨none, .store 1 (.tmp 49) (.tmp 48), none⟩] [4, 5] [])
             (.skip)))))) <|
  .seq (.region [⟨some 50, .load true 4 (.tmp 5), none⟩,
     ⟨none, .store 4 (.tmp 4) (.tmp 50), none⟩] [4] []) <|
  .ret
theorem Cd.spec_l19DrawFault_rs : Tryd.f56.results.toList = [.cell 4 98] := rfl
theorem Cd.spec_l19DrawFault_nt : Tryd.f56.ntmps = 51 := rfl
theorem Cd.spec_l19DrawFault_ok : CodeIsR Tryd.prog 56 Tryd.f56 Cd.spec_l19DrawFault := ⟨Tryd.func56, by kernel_rfl, by decide +kernel⟩
/-- loop.example/g01012/spec.l19Fault DRAWS -/
def Cd.spec_l19Fault : ACode :=
  .seq (.region [⟨some 3, .box (.tmp 1), none⟩,
     ⟨some 4, .mv (.const (.bool false)), none⟩] [0, 3] []) <|
  .seq (.seq (.region [⟨some 5, .load true 4 (.tmp 3), none⟩,
      ⟨some 6, .call (.func F.spec_l19Form) [(.tmp 5)] [], none⟩,
      ⟨some 7, .un .not (.tmp 6), none⟩,
      ⟨some 8, .mv (.tmp 7), none⟩,
      ⟨some 9, .fieldAddr 1 (.tmp 3), some (8, false)⟩,
      ⟨some 10, .load false 1 (.tmp 9), some (8, false)⟩,
      ⟨some 11, .mv (.tmp 0), some (8, false)⟩,
      ⟨some 12, .len (.tmp 11), some (8, false)⟩,
      ⟨some 13, .bin .geq (.tmp 10) (.tmp 12), some (8, false)⟩,
      ⟨some 14, .pick (.tmp 8) (.const (.bool true)) (.tmp 13), none⟩] [0, 3, 14] []) <|
   .cond (.tmp 14)
     (.seq (.region [⟨some 4, .mv (.const (.bool false)), none⟩] [4] []) <|
     .ret)
     (.skip)) <|
  .seq (.region [⟨some 15, .fieldAddr 0 (.tmp 3), none⟩,
     ⟨some 16, .load false 1 (.tmp 15), none⟩,
     ⟨some 17, .bin .neq (.tmp 16) (.const (.int .i64 (3))), none⟩,
     ⟨some 18, .mv (.tmp 17), none⟩,
     ⟨some 19, .mv (.tmp 0), some (18, false)⟩,
     ⟨some 20, .fieldAddr 1 (.tmp 3), some (18, false)⟩,
     ⟨some 21, .load false 1 (.tmp 20), some (18, false)⟩,
     ⟨some 22, .idxSl 1 (.tmp 19) (.tmp 21), some (18, false)⟩,
     ⟨some 23, .load false 1 (.tmp 22), some (18, false)⟩,
     ⟨some 24, .fieldAddr 2 (.tmp 3), some (18, false)⟩,
     ⟨some 25, .load false 1 (.tmp 24), some (18, false)⟩,
     ⟨some 26, .call (.func F.spec_l19Power) [(.tmp 25)] [], some (18, false)⟩,
     ⟨some 27, .bin .quo (.tmp 23) (.tmp 26), some (18, false)⟩,
     ⟨some 28, .bin .rem (.tmp 27) (.const (.int .i64 (10))), some (18, false)⟩,
     ⟨some 29, .fieldAddr 3 (.tmp 3), some (18, false)⟩,
     ⟨some 30, .load false 1 (.tmp 29), some (18, false)⟩,
     ⟨some 31, .bin .neq (.tmp 28) (.tmp 30), some (18, false)⟩,
     ⟨some 32, .pick (.tmp 18) (.const (.bool true)) (.tmp 31), none⟩,
     ⟨some 4, .mv (.tmp 32), none⟩] [4] [15, 17, 18, 16, 19, 20, 21, 22, 23, 24, 25, 26, 27, 28, 29, 30, 31, 32]) <|
  .ret
theorem Cd.spec_l19Fault_rs : Tryd.f57.results.toList = [.tmp 4] := rfl
theorem Cd.spec_l19Fault_nt : Tryd.f57.ntmps = 33 := rfl
theorem Cd.spec_l19Fault_ok : CodeIsR Tryd.prog 57 Tryd.f57 Cd.spec_l19Fault := ⟨Tryd.func57, by kernel_rfl, by decide +kernel⟩
/-- loop.example/g01012/impl.areFaults DRAWS -/
def Cd.impl_areFaults : ACode :=
  .seq (.region [⟨some 4, .mv (.const (.bool false)), none⟩] [0, 1] []) <|
  .seq (.seq (.region [⟨some 7, .mv (.tmp 1), none⟩,
      ⟨some 8, .len (.tmp 7), none⟩,
      ⟨some 9, .mv (.const (.int .i64 (0))), none⟩] [0, 1, 7, 8, 9] []) <|
   .block 0 (
     .loop (
       .seq (.region [⟨some 10, .bin .lss (.tmp 9) (.tmp 8), none⟩] [0, 1, 7, 8, 9, 10] []) <|
       .seq (.cond (.tmp 10)
          (.skip)
          (.exit 0)) <|
       .seq (.block 1 (
          .seq (.region [⟨some 11, .mv (.tmp 9), none⟩,
             ⟨some 12, .idxSl 4 (.tmp 7) (.tmp 9), none⟩,
             ⟨some 13, .load true 4 (.tmp 12), none⟩,
             ⟨some 6, .alloc [.v (.int .i64 (0)), .v (.int .i64 (0)), .v (.int .i64 (0)), .v (.int .i64 (0))], none⟩,
             ⟨some 5, .mv (.tmp 11), none⟩,
             ⟨none, .store 4 (.tmp 6) (.tmp 13), none⟩] [0, 1, 5, 6, 7, 8, 9] []) <|
          .seq (.seq (.region [⟨some 14, .load true 4 (.tmp 6), none⟩,
              ⟨some 15, .call (.func F.impl_isFault) [(.tmp 14)] [], none⟩,
              ⟨some 16, .un .not (.tmp 15), none⟩,
              ⟨some 17, .mv (.tmp 16), none⟩,
              ⟨some 18, .fieldAddr 1 (.tmp 6), some (17, false)⟩,
              ⟨some 19, .load false 1 (.tmp 18), some (17, false)⟩,
              ⟨some 20, .mv (.tmp 0), some (17, false)⟩,
              ⟨some 21, .call (.func F.impl_size_int64_) [(.tmp 20)] [], some (17, false)⟩,
              ⟨some 22, .bin .sub (.tmp 21) (.const (.int .i64 (1))), some (17, false)⟩,
              ⟨some 23, .call (.func F.impl_inside) [(.tmp 19), (.const (.int .i64 (0))), (.tmp 22)] [], some (17, false)⟩,
              ⟨some 24, .un .not (.tmp 23), some (17, false)⟩,
              ⟨some 25, .pick (.tmp 17) (.const (.bool true)) (.tmp 24), none⟩,
              ⟨some 26, .mv (.tmp 25), none⟩,
              ⟨some 27, .mv (.tmp 5), some (26, false)⟩,
              ⟨some 28, .bin .gtr (.tmp 27) (.const (.int .i64 (0))), some (26, false)⟩,
              ⟨some 29, .mv (.tmp 28), some (26, false)⟩,
              ⟨some 30, .mv (.tmp 1), some (29, true)⟩,
              ⟨some 31, .mv (.tmp 5), some (29, true)⟩,
              ⟨some 32, .bin .sub (.tmp 31) (.const (.int .i64 (1))), some (29, true)⟩,
              ⟨some 33, .idxSl 4 (.tmp 30) (.tmp 32), some (29, true)⟩,
              ⟨some 34, .fieldAddr 1 (.tmp 33), some (29, true)⟩,
              ⟨some 35, .load false 1 (.tmp 34), some (29, true)⟩,
              ⟨some 36, .fieldAddr 1 (.tmp 6), some (29, true)⟩,
              ⟨some 37, .load false 1 (.tmp 36), some (29, true)⟩,
              ⟨some 38, .bin .geq (.tmp 35) (.tmp 37), some (29, true)⟩,
              ⟨some 39, .pick (.tmp 29) (.tmp 38) (.const (.bool false)), some (26, false)⟩,
              ⟨some 40, .pick (.tmp 26) (.const (.bool true)) (.tmp 39), none⟩] [0, 1, 6, 7, 8, 9, 40] [14, 16, 17, 18, 15, 19, 20, 21, 22, 23, 24, 25, 26, 27, 28, 29, 30, 31, 32, 33, 34, 35, 36, 37, 38, 39, 40]) <|
           .cond (.tmp 40)
             (.seq (.region [⟨some 4, .mv (.const (.bool false)), none⟩] [4] []) <|
             .ret)
             (.skip)) <|
          .seq (.region [⟨some 41, .fieldAddr 0 (.tmp 6), none⟩,
             ⟨some 42, .load false 1 (.tmp 41), none⟩,
             ⟨some 43, .bin .eql (.tmp 42) (.const (.int .i64 (3))), none⟩,
             ⟨some 44, .mv (.tmp 43), none⟩,
             ⟨some 45, .mv (.tmp 0), some (44, true)⟩,
             ⟨some 46, .fieldAddr 1 (.tmp 6), some (44, true)⟩,
             ⟨some 47, .load false 1 (.tmp 46), some (44, true)⟩,
             ⟨some 48, .idxSl 1 (.tmp 45) (.tmp 47), some (44, true)⟩,
             ⟨some 49, .load false 1 (.tmp 48), some (44, true)⟩,
             ⟨some 50, .fieldAddr 2 (.tmp 6), some (44, true)⟩,
             ⟨some 51, .load false 1 (.tmp 50), some (44, true)⟩,
             ⟨some 52, .call (.func F.impl_digitAt) [(.tmp 49), (.tmp 51)] [], some (44, true)⟩,
             ⟨some 53, .fieldAddr 3 (.tmp 6), some (44, true)⟩,
             ⟨some 54, .load false 1 (.tmp 53), some (44, true)⟩,
             ⟨some 55, .bin .eql (.tmp 52) (.tmp 54), some (44, true)⟩,
             ⟨some 56, .pick (.tmp 44) (.tmp 55) (.const (.bool false)), none⟩] [0, 1, 7, 8, 9, 56] [41, 43, 44, 42, 45, 46, 47, 48, 49, 50, 51, 52, 53, 54, 55, 56]) <|
          .cond (.tmp 56)
            (.seq (.region [⟨some 4, .mv (.const (.bool false)), none⟩] [4] []) <|
            .ret)
            (.skip))) <|
       .region [⟨some 57, .bin .add (.tmp 9) (.const (.int .i64 (1))), none⟩,
         ⟨some 9, .mv (.tmp 57), none⟩] [0, 1, 7, 8, 9] []))) <|
  .seq (.region [⟨some 58, .mv (.tmp 1), none⟩,
     ⟨some 59, .len (.tmp 58), none⟩,
     ⟨some 60, .bin .leq (.tmp 59) (.const (.int .i64 (2))), none⟩,
     ⟨some 4, .mv (.tmp 60), none⟩] [4] []) <|
  .ret
theorem Cd.impl_areFaults_rs : Tryd.f58.results.toList = [.tmp 4] := rfl
theorem Cd.impl_areFaults_nt : Tryd.f58.ntmps = 61 := rfl
theorem Cd.impl_areFaults_ok : CodeIsR Tryd.prog 58 Tryd.f58 Cd.impl_areFaults := ⟨Tryd.func58, by kernel_rfl, by decide +kernel⟩
/-- slices.IndexFunc[[]loop.example/g01012/impl.Fault,loop.example/g01012/impl.Fault] -/
def Cd.slices_IndexFunc___impl_Fault_impl_Fault_ : ACode :=
  .seq (.region [⟨some 4, .mv (.const (.int .i64 (0))), none⟩] [0, 1] []) <|
  .seq (.seq (.region [⟨some 6, .mv (.tmp 0), none⟩,
      ⟨some 7, .len (.tmp 6), none⟩,
      ⟨some 8, .mv (.const (.int .i64 (0))), none⟩] [0, 1, 7, 8] []) <|
   .block 0 (
     .loop (
       .seq (.region [⟨some 9, .bin .lss (.tmp 8) (.tmp 7), none⟩] [0, 1, 7, 8, 9] []) <|
       .seq (.cond (.tmp 9)
          (.skip)
          (.exit 0)) <|
       .seq (.block 1 (
          .seq (.region [⟨some 10, .mv (.tmp 8), none⟩,
             ⟨some 5, .mv (.tmp 10), none⟩] [0, 1, 5, 7, 8] []) <|
          .seq (.region [⟨some 11, .mv (.tmp 1), none⟩,
             ⟨some 12, .mv (.tmp 0), none⟩,
             ⟨some 13, .mv (.tmp 5), none⟩,
             ⟨some 14, .idxSl 4 (.tmp 12) (.tmp 13), none⟩,
             ⟨some 15, .load true 4 (.tmp 14), none⟩,
             ⟨some 16, .call (.tmp 11) [(.tmp 15)] [], none⟩] [0, 1, 5, 7, 8, 16] []) <|
          .cond (.tmp 16)
            (.seq (.region [⟨some 17, .mv (.tmp 5), none⟩,
               ⟨some 4, .mv (.tmp 17), none⟩] [4] []) <|
            .ret)
            (.skip))) <|
       .region [⟨some 18, .bin .add (.tmp 8) (.const (.int .i64 (1))), none⟩,
         ⟨some 8, .mv (.tmp 18), none⟩] [0, 1, 7, 8] []))) <|
  .seq (.region [⟨some 4, .mv (.const (.int .i64 (-1))), none⟩] [4] []) <|
  .ret
theorem Cd.slices_IndexFunc___impl_Fault_impl_Fault__rs : Tryd.f59.results.toList = [.tmp 4] := rfl
theorem Cd.slices_IndexFunc___impl_Fault_impl_Fault__nt : Tryd.f59.ntmps = 19 := rfl
theorem Cd.slices_IndexFunc___impl_Fault_impl_Fault__ok : CodeIsR Tryd.prog 59 Tryd.f59 Cd.slices_IndexFunc___impl_Fault_impl_Fault_ := ⟨Tryd.func59, by kernel_rfl, by decide +kernel⟩
/-- loop.example/g01012/impl.amountsAfter$1 -/
def Cd.impl_amountsAfter_1 : ACode :=
  .seq (.region [⟨some 2, .box (.tmp 0), none⟩,
     ⟨some 3, .mv (.const (.bool false)), none⟩] [1, 2] []) <|
  .seq (.region [⟨some 4, .fieldAddr 1 (.tmp 2), none⟩,
     ⟨some 5, .load false 1 (.tmp 4), none⟩,
     ⟨some 6, .load false 1 (.tmp 1), none⟩,
     ⟨some 7, .bin .eql (.tmp 5) (.tmp 6), none⟩,
     ⟨some 3, .mv (.tmp 7), none⟩] [3] []) <|
  .ret
theorem Cd.impl_amountsAfter_1_rs : Tryd.f60.results.toList = [.tmp 3] := rfl
theorem Cd.impl_amountsAfter_1_nt : Tryd.f60.ntmps = 8 := rfl
theorem Cd.impl_amountsAfter_1_ok : CodeIsR Tryd.prog 60 Tryd.f60 Cd.impl_amountsAfter_1 := ⟨Tryd.func60, by kernel_rfl, by decide +kernel⟩
/-- loop.example/g01012/impl.wheelsShow -/
def Cd.impl_wheelsShow : ACode :=
  .seq (.region [⟨some 4, .alloc [.v (.slice none 0 0)], none⟩] [0, 1, 4] []) <|
  .seq (.region [⟨some 6, .bslice 1 0 [.v (.int .i64 (0))] [], none⟩,
     ⟨some 7, .build [.v (.slice none 0 0)] [(0, 1, (.tmp 6))], none⟩,
     ⟨some 5, .alloc [.v (.slice none 0 0)], none⟩,
     ⟨none, .store 1 (.tmp 5) (.tmp 7), none⟩] [0, 1, 4, 5] []) <|
  .seq (.seq (.region [⟨some 8, .mv (.tmp 0), none⟩,
      ⟨some 9, .mv (.const (.int .i64 (0))), none⟩] [1, 4, 5, 8, 9] []) <|
   .block 0 (
     .loop (
       .seq (.region [⟨some 10, .bin .lss (.tmp 9) (.tmp 8), none⟩] [1, 4, 5, 8, 9, 10] []) <|
       .seq (.cond (.tmp 10)
          (.skip)
          (.exit 0)) <|
       .seq (.block 1 (
          .seq (.region [⟨some 11, .fieldAddr 0 (.tmp 5), none⟩,
             ⟨some 12, .load false 1 (.tmp 11), none⟩,
             ⟨some 13, .mv (.tmp 1), none⟩,
             ⟨some 14, .bin .rem (.tmp 13) (.const (.int .i64 (10))), none⟩,
             ⟨some 15, .bslice 1 1 [.v (.int .i64 (0))] [(0, (.tmp 14))], none⟩,
             ⟨some 16, .append 1 8 (.tmp 12) (.tmp 15), none⟩,
             ⟨some 17, .fieldAddr 0 (.tmp 5), none⟩,
             ⟨none, .store 1 (.tmp 17) (.tmp 16), none⟩] [1, 4, 5, 8, 9] []) <|
          .region [⟨some 18, .mv (.tmp 1), none⟩,
            ⟨some 19, .bin .quo (.tmp 18) (.const (.int .i64 (10))), none⟩,
            ⟨some 1, .mv (.tmp 19), none⟩] [1, 4, 5, 8, 9] [])) <|
       .region [⟨some 20, .bin .add (.tmp 9) (.const (.int .i64 (1))), none⟩,
         ⟨some 9, .mv (.tmp 20), none⟩] [1, 4, 5, 8, 9] []))) <|
  .seq (.region [⟨some 21, .load true 1 (.tmp 5), none⟩,
     ⟨none, .store 1 (.tmp 4) (.tmp 21), none⟩] [4] []) <|
  .ret
theorem Cd.impl_wheelsShow_rs : Tryd.f61.results.toList = [.cell 4 104] := rfl
theorem Cd.impl_wheelsShow_nt : Tryd.f61.ntmps = 22 := rfl
theorem Cd.impl_wheelsShow_ok : CodeIsR Tryd.prog 61 Tryd.f61 Cd.impl_wheelsShow := ⟨Tryd.func61, by kernel_rfl, by decide +kernel⟩
/-- loop.example/g01012/impl.shown -/
def Cd.impl_shown : ACode :=
  .seq (.region [⟨some 1, .box (.tmp 0), none⟩,
     ⟨some 2, .mv (.const (.int .i64 (0))), none⟩] [1] []) <|
  .seq (.region [⟨some 3, .mv (.const (.int .i64 (0))), none⟩] [1, 3] []) <|
  .seq (.seq (.region [⟨some 5, .fieldAddr 0 (.tmp 1), none⟩,
      ⟨some 6, .load false 1 (.tmp 5), none⟩,
      ⟨some 7, .len (.tmp 6), none⟩,
      ⟨some 8, .bin .sub (.tmp 7) (.const (.int .i64 (1))), none⟩,
      ⟨some 4, .mv (.tmp 8), none⟩] [1, 3, 4] []) <|
   .block 0 (
     .loop (
       .seq (.seq (.region [⟨some 9, .mv (.tmp 4), none⟩,
           ⟨some 10, .bin .geq (.tmp 9) (.const (.int .i64 (0))), none⟩] [1, 3, 4, 10] []) <|
        .cond (.tmp 10)
          (.skip)
          (.exit 0)) <|
       .seq (.block 1 (
          .region [⟨some 13, .mv (.tmp 3), none⟩,
            ⟨some 14, .bin .mul (.const (.int .i64 (10))) (.tmp 13), none⟩,
            ⟨some 15, .fieldAddr 0 (.tmp 1), none⟩,
            ⟨some 16, .load false 1 (.tmp 15), none⟩,
            ⟨some 17, .mv (.tmp 4), none⟩,
            ⟨some 18, .idxSl 1 (.tmp 16) (.tmp 17), none⟩,
            ⟨some 19, .load false 1 (.tmp 18), none⟩,
            ⟨some 20, .bin .add (.tmp 14) (.tmp 19), none⟩,
            ⟨some 3, .mv (.tmp 20), none⟩] [1, 3, 4] [])) <|
       .region [⟨some 11, .mv (.tmp 4), none⟩,
         ⟨some 12, .bin .sub (.tmp 11) (.const (.int .i64 (1))), none⟩,
         ⟨some 4, .mv (.tmp 12), none⟩] [1, 3, 4] []))) <|
  .seq (.region [⟨some 21, .mv (.tmp 3), none⟩,
     ⟨some 2, .mv (.tmp 21), none⟩] [2] []) <|
  .ret
theorem Cd.impl_shown_rs : Tryd.f62.results.toList = [.tmp 2] := rfl
theorem Cd.impl_shown_nt : Tryd.f62.ntmps = 22 := rfl
theorem Cd.impl_shown_ok : CodeIsR Tryd.prog 62 Tryd.f62 Cd.impl_shown := ⟨Tryd.func62, by kernel_rfl, by decide +kernel⟩
/-- loop.example/g01012/impl.size[int64] -/
def Cd.impl_size_int64_ : ACode :=
  .seq (.region [⟨some 2, .mv (.const (.int .i64 (0))), none⟩] [0] []) <|
  .seq (.region [⟨some 3, .mv (.tmp 0), none⟩,
     ⟨some 4, .len (.tmp 3), none⟩,
     ⟨some 2, .mv (.tmp 4), none⟩] [2] []) <|
  .ret
theorem Cd.impl_size_int64__rs : Tryd.f63.results.toList = [.tmp 2] := rfl
theorem Cd.impl_size_int64__nt : Tryd.f63.ntmps = 5 := rfl
theorem Cd.impl_size_int64__ok : CodeIsR Tryd.prog 63 Tryd.f63 Cd.impl_size_int64_ := ⟨Tryd.func63, by kernel_rfl, by decide +kernel⟩
/-- loop.example/g01012/impl.digitSum -/
def Cd.impl_digitSum : ACode :=
  .seq (.region [⟨some 2, .mv (.const (.int .i64 (0))), none⟩] [0] []) <|
  .seq (.region [⟨some 3, .mv (.const (.int .i64 (0))), none⟩] [0, 3] []) <|
  .seq (.seq (.region [⟨some 6, .mv (.tmp 0), none⟩,
      ⟨some 7, .call (.func F.impl_digitList) [(.tmp 6)] [], none⟩,
      ⟨some 8, .len (.tmp 7), none⟩,
      ⟨some 9, .mv (.const (.int .i64 (0))), none⟩] [3, 7, 8, 9] []) <|
   .block 0 (
     .loop (
       .seq (.region [⟨some 10, .bin .lss (.tmp 9) (.tmp 8), none⟩] [3, 7, 8, 9, 10] []) <|
       .seq (.cond (.tmp 10)
          (.skip)
          (.exit 0)) <|
       .seq (.block 1 (
          .seq (.region [⟨some 11, .idxSl 1 (.tmp 7) (.tmp 9), none⟩,
             ⟨some 12, .load false 1 (.tmp 11), none⟩,
             ⟨some 5, .mv (.tmp 12), none⟩] [3, 5, 7, 8, 9] []) <|
          .region [⟨some 13, .mv (.tmp 3), none⟩,
            ⟨some 14, .mv (.tmp 5), none⟩,
            ⟨some 15, .bin .add (.tmp 13) (.tmp 14), none⟩,
            ⟨some 3, .mv (.tmp 15), none⟩] [3, 7, 8, 9] [])) <|
       .region [⟨some 16, .bin .add (.tmp 9) (.const (.int .i64 (1))), none⟩,
         ⟨some 9, .mv (.tmp 16), none⟩] [3, 7, 8, 9] []))) <|
  .seq (.region [⟨some 17, .mv (.tmp 3), none⟩,
     ⟨some 2, .mv (.tmp 17), none⟩] [2] []) <|
  .ret
theorem Cd.impl_digitSum_rs : Tryd.f64.results.toList = [.tmp 2] := rfl
theorem Cd.impl_digitSum_nt : Tryd.f64.ntmps = 18 := rfl
theorem Cd.impl_digitSum_ok : CodeIsR Tryd.prog 64 Tryd.f64 Cd.impl_digitSum := ⟨Tryd.func64, by kernel_rfl, by decide +kernel⟩
/-- slices.ContainsFunc[[]int64,int64] -/
def Cd.slices_ContainsFunc___int64_int64_ : ACode :=
  .seq (.region [⟨some 4, .mv (.const (.bool false)), none⟩] [0, 1] []) <|
  .seq (.region [⟨some 5, .mv (.tmp 0), none⟩,
     ⟨some 6, .mv (.tmp 1), none⟩,
     ⟨some 7, .call (.func F.slices_IndexFunc___int64_int64_) [(.tmp 5), (.tmp 6)] [], none⟩,
     ⟨some 8, .bin .geq (.tmp 7) (.const (.int .i64 (0))), none⟩,
     ⟨some 4, .mv (.tmp 8), none⟩] [4] []) <|
  .ret
theorem Cd.slices_ContainsFunc___int64_int64__rs : Tryd.f65.results.toList = [.tmp 4] := rfl
theorem Cd.slices_ContainsFunc___int64_int64__nt : Tryd.f65.ntmps = 9 := rfl
theorem Cd.slices_ContainsFunc___int64_int64__ok : CodeIsR Tryd.prog 65 Tryd.f65 Cd.slices_ContainsFunc___int64_int64_ := ⟨Tryd.func65, by kernel_rfl, by decide +kernel⟩
/-- loop.example/g01012/impl.ValidAmounts$1 -/
def Cd.impl_ValidAmounts_1 : ACode :=
  .seq (.region [⟨some 2, .mv (.const (.bool false)), none⟩] [0] []) <|
  .seq (.region [⟨some 3, .mv (.tmp 0), none⟩,
     ⟨some 4, .call (.func F.impl_inside) [(.tmp 3), (.const (.int .i64 (0))), (.const (.int .i64 (9999)))] [], none⟩,
     ⟨some 5, .un .not (.tmp 4), none⟩,
     ⟨some 2, .mv (.tmp 5), none⟩] [2] []) <|
  .ret
theorem Cd.impl_ValidAmounts_1_rs : Tryd.f66.results.toList = [.tmp 2] := rfl
theorem Cd.impl_ValidAmounts_1_nt : Tryd.f66.ntmps = 6 := rfl
theorem Cd.impl_ValidAmounts_1_ok : CodeIsR Tryd.prog 66 Tryd.f66 Cd.impl_ValidAmounts_1 := ⟨Tryd.func66, by kernel_rfl, by decide +kernel⟩
/-- loop.example/g01012/impl.inside -/
def Cd.impl_inside : ACode :=
  .seq (.region [⟨some 6, .mv (.const (.bool false)), none⟩] [0, 1, 2] []) <|
  .seq (.region [⟨some 7, .mv (.tmp 0), none⟩,
     ⟨some 8, .mv (.tmp 1), none⟩,
     ⟨some 9, .bin .geq (.tmp 7) (.tmp 8), none⟩,
     ⟨some 10, .mv (.tmp 9), none⟩,
     ⟨some 11, .mv (.tmp 0), some (10, true)⟩,
     ⟨some 12, .mv (.tmp 2), some (10, true)⟩,
     ⟨some 13, .bin .leq (.tmp 11) (.tmp 12), some (10, true)⟩,
     ⟨some 14, .pick (.tmp 10) (.tmp 13) (.const (.bool false)), none⟩,
     ⟨some 6, .mv (.tmp 14), none⟩] [6] []) <|
  .ret
theorem Cd.impl_inside_rs : Tryd.f67.results.toList = [.tmp 6] := rfl
theorem Cd.impl_inside_nt : Tryd.f67.ntmps = 15 := rfl
theorem Cd.impl_inside_ok : CodeIsR Tryd.prog 67 Tryd.f67 Cd.impl_inside := ⟨Tryd.func67, by kernel_rfl, by decide +kernel⟩
/-- loop.example/g01012/spec.l00In -/
def Cd.spec_l00In : ACode :=
  .seq (.region [⟨some 6, .mv (.const (.bool false)), none⟩] [0, 1, 2] []) <|
  .seq (.region [⟨some 7, .mv (.tmp 0), none⟩,
     ⟨some 8, .mv (.tmp 1), none⟩,
     ⟨some 9, .bin .geq (.tmp 7) (.tmp 8), none⟩,
     ⟨some 10, .mv (.tmp 9), none⟩,
     ⟨some 11, .mv (.tmp 0), some (10, true)⟩,
     ⟨some 12, .mv (.tmp 2), some (10, true)⟩,
     ⟨some 13, .bin .leq (.tmp 11) (.tmp 12), some (10, true)⟩,
     ⟨some 14, .pick (.tmp 10) (.tmp 13) (.const (.bool false)), none⟩,
     ⟨some 6, .mv (.tmp 14), none⟩] [6] []) <|
  .ret
theorem Cd.spec_l00In_rs : Tryd.f70.results.toList = [.tmp 6] := rfl
theorem Cd.spec_l00In_nt : Tryd.f70.ntmps = 15 := rfl
theorem Cd.spec_l00In_ok : CodeIsR Tryd.prog 70 Tryd.f70 Cd.spec_l00In := ⟨Tryd.func70, by kernel_rfl, by decide +kernel⟩
/-- loop.example/g01012/impl.digitsOf -/
def Cd.impl_digitsOf : ACode :=
  .seq (.region [⟨some 2, .mv (.const (.int .i64 (0))), none⟩] [0] []) <|
  .seq (.region [⟨some 3, .mv (.tmp 0), none⟩,
     ⟨some 4, .call (.func F.impl_Decimal) [(.tmp 3)] [], none⟩,
     ⟨some 5, .lenS (.tmp 4), none⟩,
     ⟨some 2, .mv (.tmp 5), none⟩] [2] []) <|
  .ret
theorem Cd.impl_digitsOf_rs : Tryd.f84.results.toList = [.tmp 2] := rfl
theorem Cd.impl_digitsOf_nt : Tryd.f84.ntmps = 6 := rfl
theorem Cd.impl_digitsOf_ok : CodeIsR Tryd.prog 84 Tryd.f84 Cd.impl_digitsOf := ⟨Tryd.func84, by kernel_rfl, by decide +kernel⟩
/-- loop.example/g01012/impl.absOf -/
def Cd.impl_absOf : ACode :=
  .seq (.region [⟨some 2, .mv (.const (.int .i64 (0))), none⟩] [0] []) <|
  .seq (.region [⟨some 3, .mv (.tmp 0), none⟩,
     ⟨some 4, .mv (.tmp 0), none⟩,
     ⟨some 5, .un .neg (.tmp 4), none⟩,
     ⟨some 6, .mm true (.tmp 3) (.tmp 5), none⟩,
     ⟨some 2, .mv (.tmp 6), none⟩] [2] []) <|
  .ret
theorem Cd.impl_absOf_rs : Tryd.f85.results.toList = [.tmp 2] := rfl
theorem Cd.impl_absOf_nt : Tryd.f85.ntmps = 7 := rfl
theorem Cd.impl_absOf_ok : CodeIsR Tryd.prog 85 Tryd.f85 Cd.impl_absOf := ⟨Tryd.func85, by kernel_rfl, by decide +kernel⟩
/-- loop.example/g01012/impl.Decimal -/
def Cd.impl_Decimal : ACode :=
  .seq (.region [⟨some 2, .mv (.const (.string ⟨#[]⟩)), none⟩] [0] []) <|
  .seq (.region [⟨some 3, .mv (.tmp 0), none⟩,
     ⟨some 4, .call (.func F.strconv_FormatInt) [(.tmp 3), (.const (.int .i64 (10)))] [], none⟩,
     ⟨some 2, .mv (.tmp 4), none⟩] [2] []) <|
  .ret
theorem Cd.impl_Decimal_rs : Tryd.f93.results.toList = [.tmp 2] := rfl
theorem Cd.impl_Decimal_nt : Tryd.f93.ntmps = 5 := rfl
theorem Cd.impl_Decimal_ok : CodeIsR Tryd.prog 93 Tryd.f93 Cd.impl_Decimal := ⟨Tryd.func93, by kernel_rfl, by decide +kernel⟩
/-- (*loop.example/g01012/spec.l00Src).next DRAWS -/
def Cd.__spec_l00Src__next : ACode :=
  .seq (.region [⟨some 2, .mv (.const (.int .i64 (0))), none⟩] [0] []) <|
  .seq (.region [⟨some 3, .mv (.const (.int .i64 (0))), none⟩] [0, 3] []) <|
  .seq (.seq (.region [⟨some 4, .mv (.tmp 0), none⟩,
      ⟨some 5, .nilc (.tmp 4), none⟩,
      ⟨some 6, .fieldAddr 1 (.tmp 5), none⟩,
      ⟨some 7, .load false 1 (.tmp 6), none⟩,
      ⟨some 8, .mv (.tmp 0), none⟩,
      ⟨some 9, .nilc (.tmp 8), none⟩,
      ⟨some 10, .fieldAddr 0 (.tmp 9), none⟩,
      ⟨some 11, .load false 1 (.tmp 10), none⟩,
      ⟨some 12, .len (.tmp 11), none⟩,
      ⟨some 13, .bin .lss (.tmp 7) (.tmp 12), none⟩] [0, 3, 13] [4, 6, 7, 5, 8, 9, 10, 11, 12, 13]) <|
   .cond (.tmp 13)
     (.region [⟨some 14, .mv (.tmp 0), none⟩,
       ⟨some 15, .nilc (.tmp 14), none⟩,
       ⟨some 16, .fieldAddr 0 (.tmp 15), none⟩,
       ⟨some 17, .load false 1 (.tmp 16), none⟩,
       ⟨some 18, .mv (.tmp 0), none⟩,
       ⟨some 19, .nilc (.tmp 18), none⟩,
       ⟨some 20, .fieldAddr 1 (.tmp 19), none⟩,
       ⟨some 21, .load false 1 (.tmp 20), none⟩,
       ⟨some 22, .idxSl 1 (.tmp 17) (.tmp 21), none⟩,
       ⟨some 23, .load false 1 (.tmp 22), none⟩,
       ⟨some 24, .conv .i64 (.tmp 23), none⟩,
       ⟨some 3, .mv (.tmp 24), none⟩] [0, 3] [14, 16, 17, 15, 18, 19, 20, 21, 22, 23, 24])
     (.skip)) <|
  .seq (.region [⟨some 25, .mv (.tmp 0), none⟩,
     ⟨some 26, .nilc (.tmp 25), none⟩,
     ⟨some 27, .fieldAddr 1 (.tmp 26), none⟩,
     ⟨some 28, .load false 1 (.tmp 27), none⟩,
     ⟨some 29, .bin .add (.tmp 28) (.const (.int .i64 (1))), none⟩,
     ⟨some 30, .nilc (.tmp 25), none⟩,
     ⟨some 31, .fieldAddr 1 (.tmp 30), none⟩,
     ⟨none, .store 1 (.tmp 31) (.tmp 29), none⟩] [0, 3] []) <|
  .seq (.region [⟨some 32, .mv (.tmp 0), none⟩,
     ⟨some 33, .mv (.tmp 0), none⟩,
     ⟨some 34, .nilc (.tmp 33), none⟩,
     ⟨some 35, .fieldAddr 2 (.tmp 34), none⟩,
     ⟨some 36, .load false 1 (.tmp 35), none⟩,
     ⟨some 37, .bin .mul (.tmp 36) (.const (.int .u64 (6364136223846793005))), none⟩,
     ⟨some 38, .mv (.tmp 3), none⟩,
     ⟨some 39, .conv .u64 (.tmp 38), none⟩,
     ⟨some 40, .bin .add (.tmp 37) (.tmp 39), none⟩,
     ⟨some 41, .bin .add (.tmp 40) (.const (.int .u64 (1442695040888963407))), none⟩,
     ⟨some 42, .nilc (.tmp 32), none⟩,
     ⟨some 43, .fieldAddr 2 (.tmp 42), none⟩,
     ⟨none, .store 1 (.tmp 43) (.tmp 41), none⟩] [0, 3] []) <|
  .seq (.seq (.region [⟨some 44, .mv (.tmp 0), none⟩,
      ⟨some 45, .nilc (.tmp 44), none⟩,
      ⟨some 46, .fieldAddr 1 (.tmp 45), none⟩,
      ⟨some 47, .load false 1 (.tmp 46), none⟩,
      ⟨some 48, .mv (.tmp 0), none⟩,
      ⟨some 49, .nilc (.tmp 48), none⟩,
      ⟨some 50, .fieldAddr 0 (.tmp 49), none⟩,
      ⟨some 51, .load false 1 (.tmp 50), none⟩,
      ⟨some 52, .len (.tmp 51), none⟩,
      ⟨some 53, .bin .leq (.tmp 47) (.tmp 52), none⟩] [0, 3, 53] [44, 46, 47, 45, 48, 49, 50, 51, 52, 53]) <|
   .cond (.tmp 53)
     (.seq (.region [⟨some 54, .mv (.tmp 3), none⟩,
        ⟨some 2, .mv (.tmp 54), none⟩] [2] []) <|
     .ret)
     (.skip)) <|
  .seq (.region [⟨some 55, .mv (.tmp 0), none⟩,
     ⟨some 56, .nilc (.tmp 55), none⟩,
     ⟨some 57, .fieldAddr 2 (.tmp 56), none⟩,
     ⟨some 58, .load false 1 (.tmp 57), none⟩,
     ⟨some 59, .bin .shr (.tmp 58) (.const (.int .u64 (40))), none⟩,
     ⟨some 60, .bin .and (.tmp 59) (.const (.int .u64 (255))), none⟩,
     ⟨some 61, .conv .i64 (.tmp 60), none⟩,
     ⟨some 2, .mv (.tmp 61), none⟩] [2] []) <|
  .ret
theorem Cd.__spec_l00Src__next_rs : Tryd.f95.results.toList = [.tmp 2] := rfl
theorem Cd.__spec_l00Src__next_nt : Tryd.f95.ntmps = 62 := rfl
theorem Cd.__spec_l00Src__next_ok : CodeIsR Tryd.prog 95 Tryd.f95 Cd.__spec_l00Src__next := ⟨Tryd.func95, by kernel_rfl, by decide +kernel⟩
/-- loop.example/g01012/spec.l00Max -/
def Cd.spec_l00Max : ACode :=
  .seq (.region [⟨some 4, .mv (.const (.int .i64 (0))), none⟩] [0, 1] []) <|
  .seq (.seq (.region [⟨some 5, .mv (.tmp 0), none⟩,
      ⟨some 6, .mv (.tmp 1), none⟩,
      ⟨some 7, .bin .gtr (.tmp 5) (.tmp 6), none⟩] [0, 1, 7] []) <|
   .cond (.tmp 7)
     (.seq (.region [⟨some 8, .mv (.tmp 0), none⟩,
        ⟨some 4, .mv (.tmp 8), none⟩] [4] []) <|
     .ret)
     (.skip)) <|
  .seq (.region [⟨some 9, .mv (.tmp 1), none⟩,
     ⟨some 4, .mv (.tmp 9), none⟩] [4] []) <|
  .ret
theorem Cd.spec_l00Max_rs : Tryd.f96.results.toList = [.tmp 4] := rfl
theorem Cd.spec_l00Max_nt : Tryd.f96.ntmps = 10 := rfl
theorem Cd.spec_l00Max_ok : CodeIsR Tryd.prog 96 Tryd.f96 Cd.spec_l00Max := ⟨Tryd.func96, by kernel_rfl, by decide +kernel⟩
/-- (*loop.example/g01012/spec.l00Src).among -/
def Cd.__spec_l00Src__among : ACode :=
  .seq (.region [⟨some 4, .mv (.const (.int .i64 (0))), none⟩] [0, 1] []) <|
  .seq (.region [⟨some 5, .mv (.tmp 1), none⟩,
     ⟨some 6, .mv (.tmp 0), none⟩,
     ⟨some 7, .mv (.tmp 1), none⟩,
     ⟨some 8, .len (.tmp 7), none⟩,
     ⟨some 9, .call (.func F.__spec_l00Src__pick) [(.tmp 6), (.tmp 8)] [0], none⟩,
     ⟨some 10, .idxSl 1 (.tmp 5) (.tmp 9), none⟩,
     ⟨some 11, .load false 1 (.tmp 10), none⟩,
     ⟨some 4, .mv (.tmp 11), none⟩] [4] []) <|
  .ret
theorem Cd.__spec_l00Src__among_rs : Tryd.f97.results.toList = [.tmp 4] := rfl
theorem Cd.__spec_l00Src__among_nt : Tryd.f97.ntmps = 12 := rfl
theorem Cd.__spec_l00Src__among_ok : CodeIsR Tryd.prog 97 Tryd.f97 Cd.__spec_l00Src__among := ⟨Tryd.func97, by kernel_rfl, by decide +kernel⟩
/-- loop.example/g01012/spec.l19Form -/
def Cd.spec_l19Form : ACode :=
  .seq (.region [⟨some 1, .box (.tmp 0), none⟩,
     ⟨some 2, .mv (.const (.bool false)), none⟩] [1] []) <|
  .seq (.seq (.region [⟨some 3, .fieldAddr 0 (.tmp 1), none⟩,
      ⟨some 4, .load false 1 (.tmp 3), none⟩,
      ⟨some 5, .call (.func F.spec_l00In) [(.tmp 4), (.const (.int .i64 (1))), (.const (.int .i64 (3)))] [], none⟩,
      ⟨some 6, .un .not (.tmp 5), none⟩,
      ⟨some 7, .mv (.tmp 6), none⟩,
      ⟨some 8, .fieldAddr 1 (.tmp 1), some (7, false)⟩,
      ⟨some 9, .load false 1 (.tmp 8), some (7, false)⟩,
      ⟨some 10, .call (.func F.spec_l00In) [(.tmp 9), (.const (.int .i64 (0))), (.const (.int .i64 (11)))] [], some (7, false)⟩,
      ⟨some 11, .un .not (.tmp 10), some (7, false)⟩,
      ⟨some 12, .pick (.tmp 7) (.const (.bool true)) (.tmp 11), none⟩] [1, 12] []) <|
   .cond (.tmp 12)
     (.seq (.region [⟨some 2, .mv (.const (.bool false)), none⟩] [2] []) <|
     .ret)
     (.skip)) <|
  .seq (.seq (.region [⟨some 13, .fieldAddr 0 (.tmp 1), none⟩,
      ⟨some 14, .load false 1 (.tmp 13), none⟩,
      ⟨some 15, .bin .eql (.tmp 14) (.const (.int .i64 (3))), none⟩] [1, 15] []) <|
   .cond (.tmp 15)
     (.seq (.region [⟨some 16, .fieldAddr 2 (.tmp 1), none⟩,
        ⟨some 17, .load false 1 (.tmp 16), none⟩,
        ⟨some 18, .call (.func F.spec_l00In) [(.tmp 17), (.const (.int .i64 (0))), (.const (.int .i64 (3)))] [], none⟩,
        ⟨some 19, .mv (.tmp 18), none⟩,
        ⟨some 20, .fieldAddr 3 (.tmp 1), some (19, true)⟩,
        ⟨some 21, .load false 1 (.tmp 20), some (19, true)⟩,
        ⟨some 22, .call (.func F.spec_l00In) [(.tmp 21), (.const (.int .i64 (0))), (.const (.int .i64 (9)))] [], some (19, true)⟩,
        ⟨some 23, .pick (.tmp 19) (.tmp 22) (.const (.bool false)), none⟩,
        ⟨some 2, .mv (.tmp 23), none⟩] [2] []) <|
     .ret)
     (.skip)) <|
  .seq (.region [⟨some 24, .fieldAddr 2 (.tmp 1), none⟩,
     ⟨some 25, .load false 1 (.tmp 24), none⟩,
     ⟨some 26, .bin .eql (.tmp 25) (.const (.int .i64 (0))), none⟩,
     ⟨some 27, .mv (.tmp 26), none⟩,
     ⟨some 28, .fieldAddr 3 (.tmp 1), some (27, true)⟩,
     ⟨some 29, .load false 1 (.tmp 28), some (27, true)⟩,
     ⟨some 30, .bin .eql (.tmp 29) (.const (.int .i64 (0))), some (27, true)⟩,
     ⟨some 31, .pick (.tmp 27) (.tmp 30) (.const (.bool false)), none⟩,
     ⟨some 2, .mv (.tmp 31), none⟩] [2] []) <|
  .ret
theorem Cd.spec_l19Form_rs : Tryd.f98.results.toList = [.tmp 2] := rfl
theorem Cd.spec_l19Form_nt : Tryd.f98.ntmps = 32 := rfl
theorem Cd.spec_l19Form_ok : CodeIsR Tryd.prog 98 Tryd.f98 Cd.spec_l19Form := ⟨Tryd.func98, by kernel_rfl, by decide +kernel⟩
/-- loop.example/g01012/spec.l19Power -/
def Cd.spec_l19Power : ACode :=
  .seq (.region [⟨some 2, .mv (.const (.int .i64 (0))), none⟩] [0] []) <|
  .seq (.region [⟨some 3, .mv (.const (.int .i64 (1))), none⟩] [0, 3] []) <|
  .seq (.block 0 (
     .loop (
       .seq (.seq (.region [⟨some 4, .mv (.tmp 0), none⟩,
           ⟨some 5, .bin .gtr (.tmp 4) (.const (.int .i64 (0))), none⟩] [0, 3, 5] []) <|
        .cond (.tmp 5)
          (.skip)
          (.exit 0)) <|
       .seq (.block 1 (
          .region [⟨some 8, .mv (.tmp 3), none⟩,
            ⟨some 9, .bin .mul (.tmp 8) (.const (.int .i64 (10))), none⟩,
            ⟨some 3, .mv (.tmp 9), none⟩] [0, 3] [])) <|
       .region [⟨some 6, .mv (.tmp 0), none⟩,
         ⟨some 7, .bin .sub (.tmp 6) (.const (.int .i64 (1))), none⟩,
         ⟨some 0, .mv (.tmp 7), none⟩] [0, 3] []))) <|
  .seq (.region [⟨some 10, .mv (.tmp 3), none⟩,
     ⟨some 2, .mv (.tmp 10), none⟩] [2] []) <|
  .ret
theorem Cd.spec_l19Power_rs : Tryd.f99.results.toList = [.tmp 2] := rfl
theorem Cd.spec_l19Power_nt : Tryd.f99.ntmps = 11 := rfl
theorem Cd.spec_l19Power_ok : CodeIsR Tryd.prog 99 Tryd.f99 Cd.spec_l19Power := ⟨Tryd.func99, by kernel_rfl, by decide +kernel⟩
/-- loop.example/g01012/impl.isFault -/
def Cd.impl_isFault : ACode :=
  .seq (.region [⟨some 1, .box (.tmp 0), none⟩,
     ⟨some 2, .mv (.const (.bool false)), none⟩] [1] []) <|
  .seq (.seq (.region [⟨some 3, .fieldAddr 0 (.tmp 1), none⟩,
      ⟨some 4, .load false 1 (.tmp 3), none⟩,
      ⟨some 5, .bin .eql (.tmp 4) (.const (.int .i64 (3))), none⟩] [1, 5] []) <|
   .cond (.tmp 5)
     (.seq (.region [⟨some 6, .fieldAddr 2 (.tmp 1), none⟩,
        ⟨some 7, .load false 1 (.tmp 6), none⟩,
        ⟨some 8, .call (.func F.impl_inside) [(.tmp 7), (.const (.int .i64 (0))), (.const (.int .i64 (3)))] [], none⟩,
        ⟨some 9, .mv (.tmp 8), none⟩,
        ⟨some 10, .fieldAddr 3 (.tmp 1), some (9, true)⟩,
        ⟨some 11, .load false 1 (.tmp 10), some (9, true)⟩,
        ⟨some 12, .call (.func F.impl_inside) [(.tmp 11), (.const (.int .i64 (0))), (.const (.int .i64 (9)))] [], some (9, true)⟩,
        ⟨some 13, .pick (.tmp 9) (.tmp 12) (.const (.bool false)), none⟩,
        ⟨some 2, .mv (.tmp 13), none⟩] [2] []) <|
     .ret)
     (.skip)) <|
  .seq (.region [⟨some 14, .fieldAddr 0 (.tmp 1), none⟩,
     ⟨some 15, .load false 1 (.tmp 14), none⟩,
     ⟨some 16, .call (.func F.impl_inside) [(.tmp 15), (.const (.int .i64 (1))), (.const (.int .i64 (2)))] [], none⟩,
     ⟨some 17, .mv (.tmp 16), none⟩,
     ⟨some 18, .fieldAddr 2 (.tmp 1), some (17, true)⟩,
     ⟨some 19, .load false 1 (.tmp 18), some (17, true)⟩,
     ⟨some 20, .bin .eql (.tmp 19) (.const (.int .i64 (0))), some (17, true)⟩,
     ⟨some 21, .pick (.tmp 17) (.tmp 20) (.const (.bool false)), none⟩,
     ⟨some 22, .mv (.tmp 21), none⟩,
     ⟨some 23, .fieldAddr 3 (.tmp 1), some (22, true)⟩,
     ⟨some 24, .load false 1 (.tmp 23), some (22, true)⟩,
     ⟨some 25, .bin .eql (.tmp 24) (.const (.int .i64 (0))), some (22, true)⟩,
     ⟨some 26, .pick (.tmp 22) (.tmp 25) (.const (.bool false)), none⟩,
     ⟨some 2, .mv (.tmp 26), none⟩] [2] []) <|
  .ret
theorem Cd.impl_isFault_rs : Tryd.f100.results.toList = [.tmp 2] := rfl
theorem Cd.impl_isFault_nt : Tryd.f100.ntmps = 27 := rfl
theorem Cd.impl_isFault_ok : CodeIsR Tryd.prog 100 Tryd.f100 Cd.impl_isFault := ⟨Tryd.func100, by kernel_rfl, by decide +kernel⟩
/-- loop.example/g01012/impl.digitAt -/
def Cd.impl_digitAt : ACode :=
  .seq (.region [⟨some 4, .mv (.const (.int .i64 (0))), none⟩] [0, 1] []) <|
  .seq (.region [⟨some 5, .mv (.tmp 0), none⟩,
     ⟨some 6, .call (.func F.impl_wheelsShow) [(.const (.int .i64 (4))), (.tmp 5)] [], none⟩,
     ⟨some 7, .field false 0 1 (.tmp 6), none⟩,
     ⟨some 8, .mv (.tmp 1), none⟩,
     ⟨some 9, .idxSl 1 (.tmp 7) (.tmp 8), none⟩,
     ⟨some 10, .load false 1 (.tmp 9), none⟩,
     ⟨some 4, .mv (.tmp 10), none⟩] [4] []) <|
  .ret
theorem Cd.impl_digitAt_rs : Tryd.f101.results.toList = [.tmp 4] := rfl
theorem Cd.impl_digitAt_nt : Tryd.f101.ntmps = 11 := rfl
theorem Cd.impl_digitAt_ok : CodeIsR Tryd.prog 101 Tryd.f101 Cd.impl_digitAt := ⟨Tryd.func101, by kernel_rfl, by decide +kernel⟩
/-- loop.example/g01012/impl.digitList -/
def Cd.impl_digitList : ACode :=
  .seq (.region [⟨some 2, .mv (.const (.slice none 0 0)), none⟩] [0] []) <|
  .seq (.region [⟨some 3, .mv (.tmp 0), none⟩,
     ⟨some 4, .call (.func F.impl_absOf) [(.tmp 3)] [], none⟩,
     ⟨some 5, .call (.func F.impl_digitsOf) [(.tmp 4)] [], none⟩,
     ⟨some 6, .mv (.tmp 0), none⟩,
     ⟨some 7, .call (.func F.impl_absOf) [(.tmp 6)] [], none⟩,
     ⟨some 8, .call (.func F.impl_wheelsShow) [(.tmp 5), (.tmp 7)] [], none⟩,
     ⟨some 9, .field false 0 1 (.tmp 8), none⟩,
     ⟨some 2, .mv (.tmp 9), none⟩] [2] []) <|
  .ret
theorem Cd.impl_digitList_rs : Tryd.f102.results.toList = [.tmp 2] := rfl
theorem Cd.impl_digitList_nt : Tryd.f102.ntmps = 10 := rfl
theorem Cd.impl_digitList_ok : CodeIsR Tryd.prog 102 Tryd.f102 Cd.impl_digitList := ⟨Tryd.func102, by kernel_rfl, by decide +kernel⟩
/-- slices.IndexFunc[[]int64,int64] -/
def Cd.slices_IndexFunc___int64_int64_ : ACode :=
  .seq (.region [⟨some 4, .mv (.const (.int .i64 (0))), none⟩] [0, 1] []) <|
  .seq (.seq (.region [⟨some 6, .mv (.tmp 0), none⟩,
      ⟨some 7, .len (.tmp 6), none⟩,
      ⟨some 8, .mv (.const (.int .i64 (0))), none⟩] [0, 1, 7, 8] []) <|
   .block 0 (
     .loop (
       .seq (.region [⟨some 9, .bin .lss (.tmp 8) (.tmp 7), none⟩] [0, 1, 7, 8, 9] []) <|
       .seq (.cond (.tmp 9)
          (.skip)
          (.exit 0)) <|
       .seq (.block 1 (
          .seq (.region [⟨some 10, .mv (.tmp 8), none⟩,
             ⟨some 5, .mv (.tmp 10), none⟩] [0, 1, 5, 7, 8] []) <|
          .seq (.region [⟨some 11, .mv (.tmp 1), none⟩,
             ⟨some 12, .mv (.tmp 0), none⟩,
             ⟨some 13, .mv (.tmp 5), none⟩,
             ⟨some 14, .idxSl 1 (.tmp 12) (.tmp 13), none⟩,
             ⟨some 15, .load false 1 (.tmp 14), none⟩,
             ⟨some 16, .call (.tmp 11) [(.tmp 15)] [], none⟩] [0, 1, 5, 7, 8, 16] []) <|
          .cond (.tmp 16)
            (.seq (.region [⟨some 17, .mv (.tmp 5), none⟩,
               ⟨some 4, .mv (.tmp 17), none⟩] [4] []) <|
            .ret)
            (.skip))) <|
       .region [⟨some 18, .bin .add (.tmp 8) (.const (.int .i64 (1))), none⟩,
         ⟨some 8, .mv (.tmp 18), none⟩] [0, 1, 7, 8] []))) <|
  .seq (.region [⟨some 4, .mv (.const (.int .i64 (-1))), none⟩] [4] []) <|
  .ret
theorem Cd.slices_IndexFunc___int64_int64__rs : Tryd.f103.results.toList = [.tmp 4] := rfl
theorem Cd.slices_IndexFunc___int64_int64__nt : Tryd.f103.ntmps = 19 := rfl
theorem Cd.slices_IndexFunc___int64_int64__ok : CodeIsR Tryd.prog 103 Tryd.f103 Cd.slices_IndexFunc___int64_int64_ := ⟨Tryd.func103, by kernel_rfl, by decide +kernel⟩
/-- strconv.FormatInt -/
def Cd.strconv_FormatInt : ACode :=
  .seq (.region [⟨some 4, .mv (.const (.string ⟨#[]⟩)), none⟩] [0, 1] []) <|
  .seq (.region [⟨some 5, .mv (.tmp 0), none⟩,
     ⟨some 6, .mv (.tmp 1), none⟩,
     ⟨some 7, .call (.func F.internal_strconv_FormatInt) [(.tmp 5), (.tmp 6)] [], none⟩,
     ⟨some 4, .mv (.tmp 7), none⟩] [4] []) <|
  .ret
theorem Cd.strconv_FormatInt_rs : Tryd.f123.results.toList = [.tmp 4] := rfl
theorem Cd.strconv_FormatInt_nt : Tryd.f123.ntmps = 8 := rfl
theorem Cd.strconv_FormatInt_ok : CodeIsR Tryd.prog 123 Tryd.f123 Cd.strconv_FormatInt := ⟨Tryd.func123, by kernel_rfl, by decide +kernel⟩
end Go.Proofs.YtgeeipfdkamhmaaDoor
