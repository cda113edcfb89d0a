/- The code of each function, resolved. -/
import Derived.Test.YtpdmjalhahblmaaDoorVtC
import Derived.Test.YtpdmjalhahblmaaDoorRows
namespace Go.Proofs.YtpdmjalhahblmaaDoor
open Go.Vs
set_option maxRecDepth 100000
theorem Tryd.own : ownKnob Tryd.prog.godebug = none := by kernel_rfl
theorem Tryd.laidOut : laidOutB Tryd.prog = true := by kernel_rfl
theorem Tryd.mixed : Tryd.prog.follows .mixedOrders = true := Tryd.checked.mixed
namespace F
abbrev laws_FnExactReadControl : FuncId := 3
abbrev spec_ReadControl : FuncId := 4
abbrev impl_ReadControl : FuncId := 5
abbrev laws_eqControl : FuncId := 6
abbrev spec_l01Split : FuncId := 7
abbrev spec_l01Number : FuncId := 8
abbrev spec_l18Ok : FuncId := 9
abbrev strings_Split : FuncId := 10
abbrev impl_ReadDecimal : FuncId := 11
abbrev impl_isPlainControl : FuncId := 12
abbrev impl_ControlText : FuncId := 13
abbrev spec_l01Digit : FuncId := 14
abbrev spec_l01Dec : FuncId := 15
abbrev spec_l00In : FuncId := 16
abbrev strings_genSplit : FuncId := 17
abbrev impl_Decimal : FuncId := 19
abbrev strings_TrimPrefix : FuncId := 20
abbrev impl_inside : FuncId := 21
abbrev strings_Count : FuncId := 23
abbrev strings_Index : FuncId := 24
abbrev strconv_FormatInt : FuncId := 27
abbrev strconv_syntaxError : FuncId := 34
abbrev strconv_rangeError : FuncId := 35
abbrev internal_strconv_FormatInt : FuncId := 38
abbrev internal_strconv_lower : FuncId := 45
abbrev strconv_Itoa : FuncId := 49
abbrev internal_strconv_small : FuncId := 50
abbrev internal_strconv_numDigits : FuncId := 51
abbrev internal_strconv_formatBase10 : FuncId := 52
abbrev internal_strconv_Itoa : FuncId := 56
abbrev internal_strconv_log10Pow2 : FuncId := 57
end F
theorem Ld.t23 : ldOf Tryd.prog 23 = some (true, 3) := by kernel_rfl
attribute [go_sem] Ld.t23
/-- loop.example/g01012/laws.FnExactReadControl -/
def Cd.laws_FnExactReadControl : ACode :=
  .seq (.region [⟨some 2, .mv (.const (.bool false)), none⟩] [0] []) <|
  .seq (.seq (.region [⟨some 7, .mv (.tmp 0), none⟩,
      ⟨some 8, .lenS (.tmp 7), none⟩,
      ⟨some 9, .bin .gtr (.tmp 8) (.const (.int .i64 (1048576))), none⟩] [0, 9] []) <|
   .cond (.tmp 9)
     (.seq (.region [⟨some 2, .mv (.const (.bool true)), none⟩] [2] []) <|
     .ret)
     (.skip)) <|
  .seq (.region [⟨some 11, .mv (.tmp 0), none⟩,
     ⟨some 12, .call (.func F.spec_ReadControl) [(.tmp 11)] [], none⟩,
     ⟨some 10, .mv (.tmp 12), none⟩,
     ⟨some 13, .extract (.tmp 10) 0, none⟩,
     ⟨some 14, .extract (.tmp 10) 1, none⟩,
     ⟨some 3, .alloc [.v (.int .i64 (0)), .v (.int .i64 (0)), .v (.int .i64 (0))], none⟩,
     ⟨none, .store 3 (.tmp 3) (.tmp 13), none⟩,
     ⟨some 4, .mv (.tmp 14), none⟩] [0, 3, 4] []) <|
  .seq (.region [⟨some 16, .mv (.tmp 0), none⟩,
     ⟨some 17, .call (.func F.impl_ReadControl) [(.tmp 16)] [], none⟩,
     ⟨some 15, .mv (.tmp 17), none⟩,
     ⟨some 18, .extract (.tmp 15) 0, none⟩,
     ⟨some 19, .extract (.tmp 15) 1, none⟩,
     ⟨some 5, .alloc [.v (.int .i64 (0)), .v (.int .i64 (0)), .v (.int .i64 (0))], none⟩,
     ⟨none, .store 3 (.tmp 5) (.tmp 18), none⟩,
     ⟨some 6, .mv (.tmp 19), none⟩] [3, 4, 5, 6] []) <|
  .seq (.seq (.region [⟨some 20, .load true 3 (.tmp 5), none⟩,
      ⟨some 21, .load true 3 (.tmp 3), none⟩,
      ⟨some 22, .call (.func F.laws_eqControl) [(.tmp 20), (.tmp 21)] [], none⟩,
      ⟨some 23, .un .not (.tmp 22), none⟩,
      ⟨some 24, .mv (.tmp 23), none⟩,
      ⟨some 25, .mv (.tmp 6), some (24, false)⟩,
      ⟨some 26, .mv (.tmp 4), some (24, false)⟩,
      ⟨some 27, .binB .neq (.tmp 25) (.tmp 26), some (24, false)⟩,
      ⟨some 28, .pick (.tmp 24) (.const (.bool true)) (.tmp 27), none⟩] [28] []) <|
   .cond (.tmp 28)
     (.seq (.region [⟨some 2, .mv (.const (.bool false)), none⟩] [2] []) <|
     .ret)
     (.skip)) <|
  .seq (.region [⟨some 2, .mv (.const (.bool true)), none⟩] [2] []) <|
  .ret
theorem Cd.laws_FnExactReadControl_rs : Tryd.f3.results.toList = [.tmp 2] := rfl
theorem Cd.laws_FnExactReadControl_nt : Tryd.f3.ntmps = 29 := rfl
theorem Cd.laws_FnExactReadControl_ok : CodeIsR Tryd.prog 3 Tryd.f3 Cd.laws_FnExactReadControl := ⟨Tryd.func3, by kernel_rfl, by decide +kernel⟩
/-- loop.example/g01012/spec.ReadControl -/
def Cd.spec_ReadControl : ACode :=
  .seq (.region [⟨some 2, .alloc [.v (.int .i64 (0)), .v (.int .i64 (0)), .v (.int .i64 (0))], none⟩,
     ⟨some 3, .mv (.const (.bool false)), none⟩] [0, 2] []) <|
  .seq (.region [⟨some 12, .mv (.tmp 0), none⟩,
     ⟨some 13, .call (.func F.spec_l01Split) [(.tmp 12), (.const (.int .u8 (32)))] [], none⟩,
     ⟨some 4, .mv (.tmp 13), none⟩] [2, 4] []) <|
  .seq (.seq (.region [⟨some 14, .mv (.tmp 4), none⟩,
      ⟨some 15, .len (.tmp 14), none⟩,
      ⟨some 16, .bin .neq (.tmp 15) (.const (.int .i64 (6))), none⟩,
      ⟨some 17, .mv (.tmp 16), none⟩,
      ⟨some 18, .mv (.tmp 4), some (17, false)⟩,
      ⟨some 19, .idxSl 1 (.tmp 18) (.const (.int .i64 (1))), some (17, false)⟩,
      ⟨some 20, .load false 1 (.tmp 19), some (17, false)⟩,
      ⟨some 21, .binS .neq (.tmp 20) (.const (.string ⟨#[99, 97, 114, 100, 115]⟩)), some (17, false)⟩,
      ⟨some 22, .pick (.tmp 17) (.const (.bool true)) (.tmp 21), none⟩,
      ⟨some 23, .mv (.tmp 22), none⟩,
      ⟨some 24, .mv (.tmp 4), some (23, false)⟩,
      ⟨some 25, .idxSl 1 (.tmp 24) (.const (.int .i64 (3))), some (23, false)⟩,
      ⟨some 26, .load false 1 (.tmp 25), some (23, false)⟩,
      ⟨some 27, .binS .neq (.tmp 26) (.const (.string ⟨#[115, 117, 109]⟩)), some (23, false)⟩,
      ⟨some 28, .pick (.tmp 23) (.const (.bool true)) (.tmp 27), none⟩,
      ⟨some 29, .mv (.tmp 28), none⟩,
      ⟨some 30, .mv (.tmp 4), some (29, false)⟩,
      ⟨some 31, .idxSl 1 (.tmp 30) (.const (.int .i64 (5))), some (29, false)⟩,
      ⟨some 32, .load false 1 (.tmp 31), some (29, false)⟩,
      ⟨some 33, .binS .neq (.tmp 32) (.const (.string ⟨#[100, 105, 103, 105, 116, 115]⟩)), some (29, false)⟩,
      ⟨some 34, .pick (.tmp 29) (.const (.bool true)) (.tmp 33), none⟩] [2, 4, 34] []) <|
   .cond (.tmp 34)
     (.seq (.region [⟨some 35, .build [.v (.int .i64 (0)), .v (.int .i64 (0)), .v (.int .i64 (0))] [], none⟩,
        ⟨none, .store 3 (.tmp 2) (.tmp 35), none⟩,
        ⟨some 3, .mv (.const (.bool false)), none⟩] [2, 3] []) <|
     .ret)
     (.skip)) <|
  .seq (.region [⟨some 37, .mv (.tmp 4), none⟩,
     ⟨some 38, .idxSl 1 (.tmp 37) (.const (.int .i64 (0))), none⟩,
     ⟨some 39, .load false 1 (.tmp 38), none⟩,
     ⟨some 40, .call (.func F.spec_l01Number) [(.tmp 39)] [], none⟩,
     ⟨some 36, .mv (.tmp 40), none⟩,
     ⟨some 41, .extract (.tmp 36) 0, none⟩,
     ⟨some 42, .extract (.tmp 36) 1, none⟩,
     ⟨some 5, .mv (.tmp 41), none⟩,
     ⟨some 6, .mv (.tmp 42), none⟩] [2, 4, 5, 6] []) <|
  .seq (.region [⟨some 44, .mv (.tmp 4), none⟩,
     ⟨some 45, .idxSl 1 (.tmp 44) (.const (.int .i64 (2))), none⟩,
     ⟨some 46, .load false 1 (.tmp 45), none⟩,
     ⟨some 47, .call (.func F.spec_l01Number) [(.tmp 46)] [], none⟩,
     ⟨some 43, .mv (.tmp 47), none⟩,
     ⟨some 48, .extract (.tmp 43) 0, none⟩,
     ⟨some 49, .extract (.tmp 43) 1, none⟩,
     ⟨some 7, .mv (.tmp 48), none⟩,
     ⟨some 8, .mv (.tmp 49), none⟩] [2, 4, 5, 6, 7, 8] []) <|
  .seq (.region [⟨some 51, .mv (.tmp 4), none⟩,
     ⟨some 52, .idxSl 1 (.tmp 51) (.const (.int .i64 (4))), none⟩,
     ⟨some 53, .load false 1 (.tmp 52), none⟩,
     ⟨some 54, .call (.func F.spec_l01Number) [(.tmp 53)] [], none⟩,
     ⟨some 50, .mv (.tmp 54), none⟩,
     ⟨some 55, .extract (.tmp 50) 0, none⟩,
     ⟨some 56, .extract (.tmp 50) 1, none⟩,
     ⟨some 9, .mv (.tmp 55), none⟩,
     ⟨some 10, .mv (.tmp 56), none⟩] [2, 5, 6, 7, 8, 9, 10] []) <|
  .seq (.region [⟨some 57, .mv (.tmp 5), none⟩,
     ⟨some 58, .mv (.tmp 7), none⟩,
     ⟨some 59, .mv (.tmp 9), none⟩,
     ⟨some 60, .build [.v (.int .i64 (0)), .v (.int .i64 (0)), .v (.int .i64 (0))] [(0, 1, (.tmp 57)), (1, 1, (.tmp 58)), (2, 1, (.tmp 59))], none⟩,
     ⟨some 11, .alloc [.v (.int .i64 (0)), .v (.int .i64 (0)), .v (.int .i64 (0))], none⟩,
     ⟨none, .store 3 (.tmp 11) (.tmp 60), none⟩] [2, 6, 8, 10, 11] []) <|
  .seq (.seq (.region [⟨some 61, .mv (.tmp 6), none⟩,
      ⟨some 62, .un .not (.tmp 61), none⟩,
      ⟨some 63, .mv (.tmp 62), none⟩,
      ⟨some 64, .mv (.tmp 8), some (63, false)⟩,
      ⟨some 65, .un .not (.tmp 64), some (63, false)⟩,
      ⟨some 66, .pick (.tmp 63) (.const (.bool true)) (.tmp 65), none⟩,
      ⟨some 67, .mv (.tmp 66), none⟩,
      ⟨some 68, .mv (.tmp 10), some (67, false)⟩,
      ⟨some 69, .un .not (.tmp 68), some (67, false)⟩,
      ⟨some 70, .pick (.tmp 67) (.const (.bool true)) (.tmp 69), none⟩,
      ⟨some 71, .mv (.tmp 70), none⟩,
      ⟨some 72, .load true 3 (.tmp 11), some (71, false)⟩,
      ⟨some 73, .call (.func F.spec_l18Ok) [(.tmp 72)] [], some (71, false)⟩,
      ⟨some 74, .un .not (.tmp 73), some (71, false)⟩,
      ⟨some 75, .pick (.tmp 71) (.const (.bool true)) (.tmp 74), none⟩] [2, 11, 75] []) <|
   .cond (.tmp 75)
     (.seq (.region [⟨some 76, .build [.v (.int .i64 (0)), .v (.int .i64 (0)), .v (.int .i64 (0))] [], none⟩,
        ⟨none, .store 3 (.tmp 2) (.tmp 76), none⟩,
        ⟨some 3, .mv (.const (.bool false)), none⟩] [2, 3] []) <|
     .ret)
     (.skip)) <|
  .seq (.region [⟨some 77, .load true 3 (.tmp 11), none⟩,
     ⟨none, .store 3 (.tmp 2) (.tmp 77), none⟩,
     ⟨some 3, .mv (.const (.bool true)), none⟩] [2, 3] []) <|
  .ret
theorem Cd.spec_ReadControl_rs : Tryd.f4.results.toList = [.cell 2 23, .tmp 3] := rfl
theorem Cd.spec_ReadControl_nt : Tryd.f4.ntmps = 78 := rfl
theorem Cd.spec_ReadControl_ok : CodeIsR Tryd.prog 4 Tryd.f4 Cd.spec_ReadControl := ⟨Tryd.func4, by kernel_rfl, by decide +kernel⟩
/-- loop.example/g01012/impl.ReadControl -/
def Cd.impl_ReadControl : ACode :=
  .seq (.region [⟨some 2, .alloc [.v (.int .i64 (0)), .v (.int .i64 (0)), .v (.int .i64 (0))], none⟩,
     ⟨some 3, .mv (.const (.bool false)), none⟩] [0, 2] []) <|
  .seq (.region [⟨some 12, .mv (.tmp 0), none⟩,
     ⟨some 13, .call (.func F.strings_Split) [(.tmp 12), (.const (.string ⟨#[32]⟩))] [], none⟩,
     ⟨some 4, .mv (.tmp 13), none⟩] [0, 2, 4] []) <|
  .seq (.seq (.region [⟨some 14, .mv (.tmp 4), none⟩,
      ⟨some 15, .len (.tmp 14), none⟩,
      ⟨some 16, .bin .neq (.tmp 15) (.const (.int .i64 (6))), none⟩] [0, 2, 4, 16] []) <|
   .cond (.tmp 16)
     (.seq (.region [⟨some 17, .build [.v (.int .i64 (0)), .v (.int .i64 (0)), .v (.int .i64 (0))] [], none⟩,
        ⟨none, .store 3 (.tmp 2) (.tmp 17), none⟩,
        ⟨some 3, .mv (.const (.bool false)), none⟩] [2, 3] []) <|
     .ret)
     (.skip)) <|
  .seq (.region [⟨some 19, .mv (.tmp 4), none⟩,
     ⟨some 20, .idxSl 1 (.tmp 19) (.const (.int .i64 (0))), none⟩,
     ⟨some 21, .load false 1 (.tmp 20), none⟩,
     ⟨some 22, .call (.func F.impl_ReadDecimal) [(.tmp 21)] [], none⟩,
     ⟨some 18, .mv (.tmp 22), none⟩,
     ⟨some 23, .extract (.tmp 18) 0, none⟩,
     ⟨some 24, .extract (.tmp 18) 1, none⟩,
     ⟨some 5, .mv (.tmp 23), none⟩,
     ⟨some 6, .mv (.tmp 24), none⟩] [0, 2, 4, 5, 6] []) <|
  .seq (.region [⟨some 26, .mv (.tmp 4), none⟩,
     ⟨some 27, .idxSl 1 (.tmp 26) (.const (.int .i64 (2))), none⟩,
     ⟨some 28, .load false 1 (.tmp 27), none⟩,
     ⟨some 29, .call (.func F.impl_ReadDecimal) [(.tmp 28)] [], none⟩,
     ⟨some 25, .mv (.tmp 29), none⟩,
     ⟨some 30, .extract (.tmp 25) 0, none⟩,
     ⟨some 31, .extract (.tmp 25) 1, none⟩,
     ⟨some 7, .mv (.tmp 30), none⟩,
     ⟨some 8, .mv (.tmp 31), none⟩] [0, 2, 4, 5, 6, 7, 8] []) <|
  .seq (.region [⟨some 33, .mv (.tmp 4), none⟩,
     ⟨some 34, .idxSl 1 (.tmp 33) (.const (.int .i64 (4))), none⟩,
     ⟨some 35, .load false 1 (.tmp 34), none⟩,
     ⟨some 36, .call (.func F.impl_ReadDecimal) [(.tmp 35)] [], none⟩,
     ⟨some 32, .mv (.tmp 36), none⟩,
     ⟨some 37, .extract (.tmp 32) 0, none⟩,
     ⟨some 38, .extract (.tmp 32) 1, none⟩,
     ⟨some 9, .mv (.tmp 37), none⟩,
     ⟨some 10, .mv (.tmp 38), none⟩] [0, 2, 5, 6, 7, 8, 9, 10] []) <|
  .seq (.region [⟨some 39, .mv (.tmp 5), none⟩,
     ⟨some 40, .mv (.tmp 7), none⟩,
     ⟨some 41, .mv (.tmp 9), none⟩,
     ⟨some 42, .build [.v (.int .i64 (0)), .v (.int .i64 (0)), .v (.int .i64 (0))] [(0, 1, (.tmp 39)), (1, 1, (.tmp 40)), (2, 1, (.tmp 41))], none⟩,
     ⟨some 11, .alloc [.v (.int .i64 (0)), .v (.int .i64 (0)), .v (.int .i64 (0))], none⟩,
     ⟨none, .store 3 (.tmp 11) (.tmp 42), none⟩] [0, 2, 6, 8, 10, 11] []) <|
  .seq (.seq (.region [⟨some 43, .mv (.tmp 6), none⟩,
      ⟨some 44, .un .not (.tmp 43), none⟩,
      ⟨some 45, .mv (.tmp 44), none⟩,
      ⟨some 46, .mv (.tmp 8), some (45, false)⟩,
      ⟨some 47, .un .not (.tmp 46), some (45, false)⟩,
      ⟨some 48, .pick (.tmp 45) (.const (.bool true)) (.tmp 47), none⟩,
      ⟨some 49, .mv (.tmp 48), none⟩,
      ⟨some 50, .mv (.tmp 10), some (49, false)⟩,
      ⟨some 51, .un .not (.tmp 50), some (49, false)⟩,
      ⟨some 52, .pick (.tmp 49) (.const (.bool true)) (.tmp 51), none⟩,
      ⟨some 53, .mv (.tmp 52), none⟩,
      ⟨some 54, .load true 3 (.tmp 11), some (53, false)⟩,
      ⟨some 55, .call (.func F.impl_isPlainControl) [(.tmp 54)] [], some (53, false)⟩,
      ⟨some 56, .un .not (.tmp 55), some (53, false)⟩,
      ⟨some 57, .pick (.tmp 53) (.const (.bool true)) (.tmp 56), none⟩,
      ⟨some 58, .mv (.tmp 57), none⟩,
      ⟨some 59, .load true 3 (.tmp 11), some (58, false)⟩,
      ⟨some 60, .call (.func F.impl_ControlText) [(.tmp 59)] [], some (58, false)⟩,
      ⟨some 61, .mv (.tmp 0), some (58, false)⟩,
      ⟨some 62, .binS .neq (.tmp 60) (.tmp 61), some (58, false)⟩,
      ⟨some 63, .pick (.tmp 58) (.const (.bool true)) (.tmp 62), none⟩] [2, 11, 63] []) <|
   .cond (.tmp 63)
     (.seq (.region [⟨some 64, .build [.v (.int .i64 (0)), .v (.int .i64 (0)), .v (.int .i64 (0))] [], none⟩,
        ⟨none, .store 3 (.tmp 2) (.tmp 64), none⟩,
        ⟨some 3, .mv (.const (.bool false)), none⟩] [2, 3] []) <|
     .ret)
     (.skip)) <|
  .seq (.region [⟨some 65, .load true 3 (.tmp 11), none⟩,
     ⟨none, .store 3 (.tmp 2) (.tmp 65), none⟩,
     ⟨some 3, .mv (.const (.bool true)), none⟩] [2, 3] []) <|
  .ret
theorem Cd.impl_ReadControl_rs : Tryd.f5.results.toList = [.cell 2 23, .tmp 3] := rfl
theorem Cd.impl_ReadControl_nt : Tryd.f5.ntmps = 66 := rfl
theorem Cd.impl_ReadControl_ok : CodeIsR Tryd.prog 5 Tryd.f5 Cd.impl_ReadControl := ⟨Tryd.func5, by kernel_rfl, by decide +kernel⟩
/-- loop.example/g01012/laws.eqControl -/
def Cd.laws_eqControl : ACode :=
  .seq (.region [⟨some 2, .box (.tmp 0), none⟩,
     ⟨some 3, .box (.tmp 1), none⟩,
     ⟨some 4, .mv (.const (.bool false)), none⟩] [2, 3] []) <|
  .seq (.seq (.region [⟨some 5, .fieldAddr 0 (.tmp 2), none⟩,
      ⟨some 6, .load false 1 (.tmp 5), none⟩,
      ⟨some 7, .fieldAddr 0 (.tmp 3), none⟩,
      ⟨some 8, .load false 1 (.tmp 7), none⟩,
      ⟨some 9, .bin .neq (.tmp 6) (.tmp 8), none⟩] [2, 3, 9] []) <|
   .cond (.tmp 9)
     (.seq (.region [⟨some 4, .mv (.const (.bool false)), none⟩] [4] []) <|
     .ret)
     (.skip)) <|
  .seq (.seq (.region [⟨some 10, .fieldAddr 1 (.tmp 2), none⟩,
      ⟨some 11, .load false 1 (.tmp 10), none⟩,
      ⟨some 12, .fieldAddr 1 (.tmp 3), none⟩,
      ⟨some 13, .load false 1 (.tmp 12), none⟩,
      ⟨some 14, .bin .neq (.tmp 11) (.tmp 13), none⟩] [2, 3, 14] []) <|
   .cond (.tmp 14)
     (.seq (.region [⟨some 4, .mv (.const (.bool false)), none⟩] [4] []) <|
     .ret)
     (.skip)) <|
  .seq (.seq (.region [⟨some 15, .fieldAddr 2 (.tmp 2), none⟩,
      ⟨some 16, .load false 1 (.tmp 15), none⟩,
      ⟨some 17, .fieldAddr 2 (.tmp 3), none⟩,
      ⟨some 18, .load false 1 (.tmp 17), none⟩,
      ⟨some 19, .bin .neq (.tmp 16) (.tmp 18), none⟩] [19] []) <|
   .cond (.tmp 19)
     (.seq (.region [⟨some 4, .mv (.const (.bool false)), none⟩] [4] []) <|
     .ret)
     (.skip)) <|
  .seq (.region [⟨some 4, .mv (.const (.bool true)), none⟩] [4] []) <|
  .ret
theorem Cd.laws_eqControl_rs : Tryd.f6.results.toList = [.tmp 4] := rfl
theorem Cd.laws_eqControl_nt : Tryd.f6.ntmps = 20 := rfl
theorem Cd.laws_eqControl_ok : CodeIsR Tryd.prog 6 Tryd.f6 Cd.laws_eqControl := ⟨Tryd.func6, by kernel_rfl, by decide +kernel⟩
/-- loop.example/g01012/spec.l01Split -/
def Cd.spec_l01Split : ACode :=
  .seq (.region [⟨some 4, .mv (.const (.slice none 0 0)), none⟩] [0, 1] []) <|
  .seq (.region [⟨some 8, .bslice 1 0 [.v (.string ⟨#[]⟩)] [], none⟩,
     ⟨some 5, .mv (.tmp 8), none⟩] [0, 1, 5] []) <|
  .seq (.region [⟨some 6, .mv (.const (.int .i64 (0))), none⟩] [0, 1, 5, 6] []) <|
  .seq (.seq (.region [⟨some 7, .mv (.const (.int .i64 (0))), none⟩] [0, 1, 5, 6, 7] []) <|
   .block 0 (
     .loop (
       .seq (.seq (.region [⟨some 9, .mv (.tmp 7), none⟩,
           ⟨some 10, .mv (.tmp 0), none⟩,
           ⟨some 11, .lenS (.tmp 10), none⟩,
           ⟨some 12, .bin .lss (.tmp 9) (.tmp 11), none⟩] [0, 1, 5, 6, 7, 12] []) <|
        .cond (.tmp 12)
          (.skip)
          (.exit 0)) <|
       .seq (.block 1 (
          .seq (.region [⟨some 15, .mv (.tmp 0), none⟩,
             ⟨some 16, .mv (.tmp 7), none⟩,
             ⟨some 17, .idxStr (.tmp 15) (.tmp 16), none⟩,
             ⟨some 18, .mv (.tmp 1), none⟩,
             ⟨some 19, .bin .eql (.tmp 17) (.tmp 18), none⟩] [0, 1, 5, 6, 7, 19] []) <|
          .cond (.tmp 19)
            (.seq (.region [⟨some 20, .mv (.tmp 5), none⟩,
               ⟨some 21, .mv (.tmp 0), none⟩,
               ⟨some 22, .mv (.tmp 6), none⟩,
               ⟨some 23, .mv (.tmp 7), none⟩,
               ⟨some 24, .sstr (.tmp 21) (some (.tmp 22)) (some (.tmp 23)), none⟩,
               ⟨some 25, .bslice 1 1 [.v (.string ⟨#[]⟩)] [(0, (.tmp 24))], none⟩,
               ⟨some 26, .append 1 16 (.tmp 20) (.tmp 25), none⟩,
               ⟨some 5, .mv (.tmp 26), none⟩] [0, 1, 5, 7] []) <|
            .region [⟨some 27, .mv (.tmp 7), none⟩,
              ⟨some 28, .bin .add (.tmp 27) (.const (.int .i64 (1))), none⟩,
              ⟨some 6, .mv (.tmp 28), none⟩] [0, 1, 5, 6, 7] [])
            (.skip))) <|
       .region [⟨some 13, .mv (.tmp 7), none⟩,
         ⟨some 14, .bin .add (.tmp 13) (.const (.int .i64 (1))), none⟩,
         ⟨some 7, .mv (.tmp 14), none⟩] [0, 1, 5, 6, 7] []))) <|
  .seq (.region [⟨some 29, .mv (.tmp 5), none⟩,
     ⟨some 30, .mv (.tmp 0), none⟩,
     ⟨some 31, .mv (.tmp 6), none⟩,
     ⟨some 32, .sstr (.tmp 30) (some (.tmp 31)) none, none⟩,
     ⟨some 33, .bslice 1 1 [.v (.string ⟨#[]⟩)] [(0, (.tmp 32))], none⟩,
     ⟨some 34, .append 1 16 (.tmp 29) (.tmp 33), none⟩,
     ⟨some 4, .mv (.tmp 34), none⟩] [4] []) <|
  .ret
theorem Cd.spec_l01Split_rs : Tryd.f7.results.toList = [.tmp 4] := rfl
theorem Cd.spec_l01Split_nt : Tryd.f7.ntmps = 35 := rfl
theorem Cd.spec_l01Split_ok : CodeIsR Tryd.prog 7 Tryd.f7 Cd.spec_l01Split := ⟨Tryd.func7, by kernel_rfl, by decide +kernel⟩
/-- loop.example/g01012/spec.l01Number -/
def Cd.spec_l01Number : ACode :=
  .seq (.region [⟨some 2, .mv (.const (.int .i64 (0))), none⟩,
     ⟨some 3, .mv (.const (.bool false)), none⟩] [0] []) <|
  .seq (.region [⟨some 7, .mv (.tmp 0), none⟩,
     ⟨some 4, .mv (.tmp 7), none⟩] [0, 4] []) <|
  .seq (.seq (.region [⟨some 8, .mv (.tmp 4), none⟩,
      ⟨some 9, .binS .neq (.tmp 8) (.const (.string ⟨#[]⟩)), none⟩,
      ⟨some 10, .mv (.tmp 9), none⟩,
      ⟨some 11, .mv (.tmp 4), some (10, true)⟩,
      ⟨some 12, .idxStr (.tmp 11) (.const (.int .i64 (0))), some (10, true)⟩,
      ⟨some 13, .bin .eql (.tmp 12) (.const (.int .u8 (45))), some (10, true)⟩,
      ⟨some 14, .pick (.tmp 10) (.tmp 13) (.const (.bool false)), none⟩] [0, 4, 14] []) <|
   .cond (.tmp 14)
     (.region [⟨some 15, .mv (.tmp 4), none⟩,
       ⟨some 16, .sstr (.tmp 15) (some (.const (.int .i64 (1)))) none, none⟩,
       ⟨some 4, .mv (.tmp 16), none⟩] [0, 4] [])
     (.skip)) <|
  .seq (.seq (.region [⟨some 17, .mv (.tmp 4), none⟩,
      ⟨some 18, .lenS (.tmp 17), none⟩,
      ⟨some 19, .bin .lss (.tmp 18) (.const (.int .i64 (1))), none⟩,
      ⟨some 20, .mv (.tmp 19), none⟩,
      ⟨some 21, .mv (.tmp 4), some (20, false)⟩,
      ⟨some 22, .lenS (.tmp 21), some (20, false)⟩,
      ⟨some 23, .bin .gtr (.tmp 22) (.const (.int .i64 (18))), some (20, false)⟩,
      ⟨some 24, .pick (.tmp 20) (.const (.bool true)) (.tmp 23), none⟩] [0, 4, 24] []) <|
   .cond (.tmp 24)
     (.seq (.region [⟨some 2, .mv (.const (.int .i64 (0))), none⟩,
        ⟨some 3, .mv (.const (.bool false)), none⟩] [2, 3] []) <|
     .ret)
     (.skip)) <|
  .seq (.region [⟨some 5, .mv (.const (.int .i64 (0))), none⟩] [0, 4, 5] []) <|
  .seq (.seq (.region [⟨some 6, .mv (.const (.int .i64 (0))), none⟩] [0, 4, 5, 6] []) <|
   .block 0 (
     .loop (
       .seq (.seq (.region [⟨some 25, .mv (.tmp 6), none⟩,
           ⟨some 26, .mv (.tmp 4), none⟩,
           ⟨some 27, .lenS (.tmp 26), none⟩,
           ⟨some 28, .bin .lss (.tmp 25) (.tmp 27), none⟩] [0, 4, 5, 6, 28] []) <|
        .cond (.tmp 28)
          (.skip)
          (.exit 0)) <|
       .seq (.block 1 (
          .seq (.seq (.region [⟨some 31, .mv (.tmp 4), none⟩,
              ⟨some 32, .mv (.tmp 6), none⟩,
              ⟨some 33, .idxStr (.tmp 31) (.tmp 32), none⟩,
              ⟨some 34, .call (.func F.spec_l01Digit) [(.tmp 33)] [], none⟩,
              ⟨some 35, .un .not (.tmp 34), none⟩] [0, 4, 5, 6, 35] []) <|
           .cond (.tmp 35)
             (.seq (.region [⟨some 2, .mv (.const (.int .i64 (0))), none⟩,
                ⟨some 3, .mv (.const (.bool false)), none⟩] [2, 3] []) <|
             .ret)
             (.skip)) <|
          .region [⟨some 36, .mv (.tmp 5), none⟩,
            ⟨some 37, .bin .mul (.const (.int .i64 (10))) (.tmp 36), none⟩,
            ⟨some 38, .mv (.tmp 4), none⟩,
            ⟨some 39, .mv (.tmp 6), none⟩,
            ⟨some 40, .idxStr (.tmp 38) (.tmp 39), none⟩,
            ⟨some 41, .bin .sub (.tmp 40) (.const (.int .u8 (48))), none⟩,
            ⟨some 42, .conv .i64 (.tmp 41), none⟩,
            ⟨some 43, .bin .add (.tmp 37) (.tmp 42), none⟩,
            ⟨some 5, .mv (.tmp 43), none⟩] [0, 4, 5, 6] [])) <|
       .region [⟨some 29, .mv (.tmp 6), none⟩,
         ⟨some 30, .bin .add (.tmp 29) (.const (.int .i64 (1))), none⟩,
         ⟨some 6, .mv (.tmp 30), none⟩] [0, 4, 5, 6] []))) <|
  .seq (.seq (.region [⟨some 44, .mv (.tmp 4), none⟩,
      ⟨some 45, .lenS (.tmp 44), none⟩,
      ⟨some 46, .mv (.tmp 0), none⟩,
      ⟨some 47, .lenS (.tmp 46), none⟩,
      ⟨some 48, .bin .lss (.tmp 45) (.tmp 47), none⟩] [0, 5, 48] []) <|
   .cond (.tmp 48)
     (.region [⟨some 49, .mv (.tmp 5), none⟩,
       ⟨some 50, .un .neg (.tmp 49), none⟩,
       ⟨some 5, .mv (.tmp 50), none⟩] [0, 5] [])
     (.skip)) <|
  .seq (.seq (.region [⟨some 51, .mv (.tmp 5), none⟩,
      ⟨some 52, .call (.func F.spec_l01Dec) [(.tmp 51)] [], none⟩,
      ⟨some 53, .mv (.tmp 0), none⟩,
      ⟨some 54, .binS .neq (.tmp 52) (.tmp 53), none⟩] [5, 54] []) <|
   .cond (.tmp 54)
     (.seq (.region [⟨some 2, .mv (.const (.int .i64 (0))), none⟩,
        ⟨some 3, .mv (.const (.bool false)), none⟩] [2, 3] []) <|
     .ret)
     (.skip)) <|
  .seq (.region [⟨some 55, .mv (.tmp 5), none⟩,
     ⟨some 2, .mv (.tmp 55), none⟩,
     ⟨some 3, .mv (.const (.bool true)), none⟩] [2, 3] []) <|
  .ret
theorem Cd.spec_l01Number_rs : Tryd.f8.results.toList = [.tmp 2, .tmp 3] := rfl
theorem Cd.spec_l01Number_nt : Tryd.f8.ntmps = 56 := rfl
theorem Cd.spec_l01Number_ok : CodeIsR Tryd.prog 8 Tryd.f8 Cd.spec_l01Number := ⟨Tryd.func8, by kernel_rfl, by decide +kernel⟩
/-- loop.example/g01012/spec.l18Ok -/
def Cd.spec_l18Ok : ACode :=
  .seq (.region [⟨some 1, .box (.tmp 0), none⟩,
     ⟨some 2, .mv (.const (.bool false)), none⟩] [1] []) <|
  .seq (.region [⟨some 3, .fieldAddr 0 (.tmp 1), none⟩,
     ⟨some 4, .load false 1 (.tmp 3), none⟩,
     ⟨some 5, .call (.func F.spec_l00In) [(.tmp 4), (.const (.int .i64 (0))), (.const (.int .i64 (1000000)))] [], none⟩,
     ⟨some 6, .mv (.tmp 5), none⟩,
     ⟨some 7, .fieldAddr 1 (.tmp 1), some (6, true)⟩,
     ⟨some 8, .load false 1 (.tmp 7), some (6, true)⟩,
     ⟨some 9, .call (.func F.spec_l00In) [(.tmp 8), (.const (.int .i64 (-1000000000000000))), (.const (.int .i64 (1000000000000000)))] [], some (6, true)⟩,
     ⟨some 10, .pick (.tmp 6) (.tmp 9) (.const (.bool false)), none⟩,
     ⟨some 11, .mv (.tmp 10), none⟩,
     ⟨some 12, .fieldAddr 2 (.tmp 1), some (11, true)⟩,
     ⟨some 13, .load false 1 (.tmp 12), some (11, true)⟩,
     ⟨some 14, .call (.func F.spec_l00In) [(.tmp 13), (.const (.int .i64 (0))), (.const (.int .i64 (1000000000)))] [], some (11, true)⟩,
     ⟨some 15, .pick (.tmp 11) (.tmp 14) (.const (.bool false)), none⟩,
     ⟨some 2, .mv (.tmp 15), none⟩] [2] []) <|
  .ret
theorem Cd.spec_l18Ok_rs : Tryd.f9.results.toList = [.tmp 2] := rfl
theorem Cd.spec_l18Ok_nt : Tryd.f9.ntmps = 16 := rfl
theorem Cd.spec_l18Ok_ok : CodeIsR Tryd.prog 9 Tryd.f9 Cd.spec_l18Ok := ⟨Tryd.func9, by kernel_rfl, by decide +kernel⟩
/-- loop.example/g01012/impl.isPlainControl -/
def Cd.impl_isPlainControl : ACode :=
  .seq (.region [⟨some 1, .box (.tmp 0), none⟩,
     ⟨some 2, .mv (.const (.bool false)), none⟩] [1] []) <|
  .seq (.region [⟨some 3, .fieldAddr 0 (.tmp 1), none⟩,
     ⟨some 4, .load false 1 (.tmp 3), none⟩,
     ⟨some 5, .call (.func F.impl_inside) [(.tmp 4), (.const (.int .i64 (0))), (.const (.int .i64 (1000000)))] [], none⟩,
     ⟨some 6, .mv (.tmp 5), none⟩,
     ⟨some 7, .fieldAddr 1 (.tmp 1), some (6, true)⟩,
     ⟨some 8, .load false 1 (.tmp 7), some (6, true)⟩,
     ⟨some 9, .call (.func F.impl_inside) [(.tmp 8), (.const (.int .i64 (-1000000000000000))), (.const (.int .i64 (1000000000000000)))] [], some (6, true)⟩,
     ⟨some 10, .pick (.tmp 6) (.tmp 9) (.const (.bool false)), none⟩,
     ⟨some 11, .mv (.tmp 10), none⟩,
     ⟨some 12, .fieldAddr 2 (.tmp 1), some (11, true)⟩,
     ⟨some 13, .load false 1 (.tmp 12), some (11, true)⟩,
     ⟨some 14, .call (.func F.impl_inside) [(.tmp 13), (.const (.int .i64 (0))), (.const (.int .i64 (1000000000)))] [], some (11, true)⟩,
     ⟨some 15, .pick (.tmp 11) (.tmp 14) (.const (.bool false)), none⟩,
     ⟨some 2, .mv (.tmp 15), none⟩] [2] []) <|
  .ret
theorem Cd.impl_isPlainControl_rs : Tryd.f12.results.toList = [.tmp 2] := rfl
theorem Cd.impl_isPlainControl_nt : Tryd.f12.ntmps = 16 := rfl
theorem Cd.impl_isPlainControl_ok : CodeIsR Tryd.prog 12 Tryd.f12 Cd.impl_isPlainControl := ⟨Tryd.func12, by kernel_rfl, by decide +kernel⟩
/-- loop.example/g01012/impl.ControlText DRAWS -/
def Cd.impl_ControlText : ACode :=
  .seq (.region [⟨some 1, .box (.tmp 0), none⟩,
     ⟨some 2, .mv (.const (.string ⟨#[]⟩)), none⟩] [1] []) <|
  .seq (.seq (.region [⟨some 3, .load true 3 (.tmp 1), none⟩,
      ⟨some 4, .call (.func F.impl_isPlainControl) [(.tmp 3)] [], none⟩,
      ⟨some 5, .un .not (.tmp 4), none⟩] [1, 5] []) <|
   .cond (.tmp 5)
     (.seq (.region [⟨some 2, .mv (.const (.string ⟨#[]⟩)), none⟩] [2] []) <|
     .ret)
     (.skip)) <|
  .seq (.region [⟨some 6, .fieldAddr 0 (.tmp 1), none⟩,
     ⟨some 7, .load false 1 (.tmp 6), none⟩,
     ⟨some 8, .call (.func F.impl_Decimal) [(.tmp 7)] [], none⟩,
     ⟨some 9, .binS .add (.tmp 8) (.const (.string ⟨#[32, 99, 97, 114, 100, 115, 32]⟩)), none⟩,
     ⟨some 10, .fieldAddr 1 (.tmp 1), none⟩,
     ⟨some 11, .load false 1 (.tmp 10), none⟩,
     ⟨some 12, .call (.func F.impl_Decimal) [(.tmp 11)] [], none⟩,
     ⟨some 13, .binS .add (.tmp 9) (.tmp 12), none⟩,
     ⟨some 14, .binS .add (.tmp 13) (.const (.string ⟨#[32, 115, 117, 109, 32]⟩)), none⟩,
     ⟨some 15, .fieldAddr 2 (.tmp 1), none⟩,
     ⟨some 16, .load false 1 (.tmp 15), none⟩,
     ⟨some 17, .call (.func F.impl_Decimal) [(.tmp 16)] [], none⟩,
     ⟨some 18, .binS .add (.tmp 14) (.tmp 17), none⟩,
     ⟨some 19, .binS .add (.tmp 18) (.const (.string ⟨#[32, 100, 105, 103, 105, 116, 115]⟩)), none⟩,
     ⟨some 2, .mv (.tmp 19), none⟩] [2] [6, 8, 9, 7, 10, 11, 12, 13, 14, 15, 16, 17, 18, 19]) <|
  .ret
theorem Cd.impl_ControlText_rs : Tryd.f13.results.toList = [.tmp 2] := rfl
theorem Cd.impl_ControlText_nt : Tryd.f13.ntmps = 20 := rfl
theorem Cd.impl_ControlText_ok : CodeIsR Tryd.prog 13 Tryd.f13 Cd.impl_ControlText := ⟨Tryd.func13, by kernel_rfl, by decide +kernel⟩
/-- loop.example/g01012/spec.l01Digit -/
def Cd.spec_l01Digit : ACode :=
  .seq (.region [⟨some 2, .mv (.const (.bool false)), none⟩] [0] []) <|
  .seq (.region [⟨some 3, .mv (.tmp 0), none⟩,
     ⟨some 4, .bin .geq (.tmp 3) (.const (.int .u8 (48))), none⟩,
     ⟨some 5, .mv (.tmp 4), none⟩,
     ⟨some 6, .mv (.tmp 0), some (5, true)⟩,
     ⟨some 7, .bin .leq (.tmp 6) (.const (.int .u8 (57))), some (5, true)⟩,
     ⟨some 8, .pick (.tmp 5) (.tmp 7) (.const (.bool false)), none⟩,
     ⟨some 2, .mv (.tmp 8), none⟩] [2] []) <|
  .ret
theorem Cd.spec_l01Digit_rs : Tryd.f14.results.toList = [.tmp 2] := rfl
theorem Cd.spec_l01Digit_nt : Tryd.f14.ntmps = 9 := rfl
theorem Cd.spec_l01Digit_ok : CodeIsR Tryd.prog 14 Tryd.f14 Cd.spec_l01Digit := ⟨Tryd.func14, by kernel_rfl, by decide +kernel⟩
/-- loop.example/g01012/spec.l01Dec -/
def Cd.spec_l01Dec : ACode :=
  .seq (.region [⟨some 2, .mv (.const (.string ⟨#[]⟩)), none⟩] [0] []) <|
  .seq (.closing 3 (
     .region [⟨some 6, .bslice 1 0 [.v (.int .u8 (0))] [], none⟩,
       ⟨some 3, .mv (.tmp 6), none⟩] [0, 3] [])) <|
  .seq (.seq (.region [⟨some 7, .mv (.tmp 0), none⟩,
      ⟨some 4, .mv (.tmp 7), none⟩] [0, 3, 4] []) <|
   .block 0 (
     .loop (
       .seq (.seq (.region [⟨some 8, .mv (.tmp 4), none⟩,
           ⟨some 9, .bin .neq (.tmp 8) (.const (.int .i64 (0))), none⟩] [0, 3, 4, 9] []) <|
        .cond (.tmp 9)
          (.skip)
          (.exit 0)) <|
       .seq (.block 1 (
          .seq (.region [⟨some 12, .mv (.tmp 4), none⟩,
             ⟨some 13, .bin .rem (.tmp 12) (.const (.int .i64 (10))), none⟩,
             ⟨some 5, .mv (.tmp 13), none⟩] [0, 3, 4, 5] []) <|
          .seq (.seq (.region [⟨some 14, .mv (.tmp 5), none⟩,
              ⟨some 15, .bin .lss (.tmp 14) (.const (.int .i64 (0))), none⟩] [0, 3, 4, 5, 15] []) <|
           .cond (.tmp 15)
             (.region [⟨some 16, .mv (.tmp 5), none⟩,
               ⟨some 17, .un .neg (.tmp 16), none⟩,
               ⟨some 5, .mv (.tmp 17), none⟩] [0, 3, 4, 5] [])
             (.skip)) <|
          .closing 3 (
            .region [⟨some 18, .mv (.tmp 5), none⟩,
              ⟨some 19, .bin .add (.const (.int .i64 (48))) (.tmp 18), none⟩,
              ⟨some 20, .conv .u8 (.tmp 19), none⟩,
              ⟨some 21, .bslice 1 1 [.v (.int .u8 (0))] [(0, (.tmp 20))], none⟩,
              ⟨some 22, .mv (.tmp 3), none⟩,
              ⟨some 23, .append 1 1 (.tmp 21) (.tmp 22), none⟩,
              ⟨some 3, .mv (.tmp 23), none⟩] [0, 3, 4] []))) <|
       .region [⟨some 10, .mv (.tmp 4), none⟩,
         ⟨some 11, .bin .quo (.tmp 10) (.const (.int .i64 (10))), none⟩,
         ⟨some 4, .mv (.tmp 11), none⟩] [0, 3, 4] []))) <|
  .seq (.seq (.region [⟨some 24, .mv (.tmp 3), none⟩,
      ⟨some 25, .len (.tmp 24), none⟩,
      ⟨some 26, .bin .eql (.tmp 25) (.const (.int .i64 (0))), none⟩] [0, 3, 26] []) <|
   .cond (.tmp 26)
     (.seq (.region [⟨some 2, .mv (.const (.string ⟨#[48]⟩)), none⟩] [2] []) <|
     .ret)
     (.skip)) <|
  .seq (.seq (.region [⟨some 27, .mv (.tmp 0), none⟩,
      ⟨some 28, .bin .lss (.tmp 27) (.const (.int .i64 (0))), none⟩] [3, 28] []) <|
   .cond (.tmp 28)
     (.seq (.region [⟨some 29, .mv (.tmp 3), none⟩,
        ⟨some 30, .b2s (.tmp 29), none⟩,
        ⟨some 31, .binS .add (.const (.string ⟨#[45]⟩)) (.tmp 30), none⟩,
        ⟨some 2, .mv (.tmp 31), none⟩] [2] []) <|
     .ret)
     (.skip)) <|
  .seq (.region [⟨some 32, .mv (.tmp 3), none⟩,
     ⟨some 33, .b2s (.tmp 32), none⟩,
     ⟨some 2, .mv (.tmp 33), none⟩] [2] []) <|
  .ret
theorem Cd.spec_l01Dec_rs : Tryd.f15.results.toList = [.tmp 2] := rfl
theorem Cd.spec_l01Dec_nt : Tryd.f15.ntmps = 34 := rfl
theorem Cd.spec_l01Dec_ok : CodeIsR Tryd.prog 15 Tryd.f15 Cd.spec_l01Dec := ⟨Tryd.func15, by kernel_rfl, by decide +kernel⟩
/-- loop.example/g01012/spec.l00In -/
def Cd.spec_l00In : ACode :=
  .seq (.region [⟨some 6, .mv (.const (.bool false)), none⟩] [0, 1, 2] []) <|
  .seq (.region [⟨some 7, .mv (.tmp 0), none⟩,
     ⟨some 8, .mv (.tmp 1), none⟩,
     ⟨some 9, .bin .geq (.tmp 7) (.tmp 8), none⟩,
     ⟨some 10, .mv (.tmp 9), none⟩,
     ⟨some 11, .mv (.tmp 0), some (10, true)⟩,
     ⟨some 12, .mv (.tmp 2), some (10, true)⟩,
     ⟨some 13, .bin .leq (.tmp 11) (.tmp 12), some (10, true)⟩,
     ⟨some 14, .pick (.tmp 10) (.tmp 13) (.const (.bool false)), none⟩,
     ⟨some 6, .mv (.tmp 14), none⟩] [6] []) <|
  .ret
theorem Cd.spec_l00In_rs : Tryd.f16.results.toList = [.tmp 6] := rfl
theorem Cd.spec_l00In_nt : Tryd.f16.ntmps = 15 := rfl
theorem Cd.spec_l00In_ok : CodeIsR Tryd.prog 16 Tryd.f16 Cd.spec_l00In := ⟨Tryd.func16, by kernel_rfl, by decide +kernel⟩
/-- loop.example/g01012/impl.Decimal -/
def Cd.impl_Decimal : ACode :=
  .seq (.region [⟨some 2, .mv (.const (.string ⟨#[]⟩)), none⟩] [0] []) <|
  .seq (.region [⟨some 3, .mv (.tmp 0), none⟩,
     ⟨some 4, .call (.func F.strconv_FormatInt) [(.tmp 3), (.const (.int .i64 (10)))] [], none⟩,
     ⟨some 2, .mv (.tmp 4), none⟩] [2] []) <|
  .ret
theorem Cd.impl_Decimal_rs : Tryd.f19.results.toList = [.tmp 2] := rfl
theorem Cd.impl_Decimal_nt : Tryd.f19.ntmps = 5 := rfl
theorem Cd.impl_Decimal_ok : CodeIsR Tryd.prog 19 Tryd.f19 Cd.impl_Decimal := ⟨Tryd.func19, by kernel_rfl, by decide +kernel⟩
/-- loop.example/g01012/impl.inside -/
def Cd.impl_inside : ACode :=
  .seq (.region [⟨some 6, .mv (.const (.bool false)), none⟩] [0, 1, 2] []) <|
  .seq (.region [⟨some 7, .mv (.tmp 0), none⟩,
     ⟨some 8, .mv (.tmp 1), none⟩,
     ⟨some 9, .bin .geq (.tmp 7) (.tmp 8), none⟩,
     ⟨some 10, .mv (.tmp 9), none⟩,
     ⟨some 11, .mv (.tmp 0), some (10, true)⟩,
     ⟨some 12, .mv (.tmp 2), some (10, true)⟩,
     ⟨some 13, .bin .leq (.tmp 11) (.tmp 12), some (10, true)⟩,
     ⟨some 14, .pick (.tmp 10) (.tmp 13) (.const (.bool false)), none⟩,
     ⟨some 6, .mv (.tmp 14), none⟩] [6] []) <|
  .ret
theorem Cd.impl_inside_rs : Tryd.f21.results.toList = [.tmp 6] := rfl
theorem Cd.impl_inside_nt : Tryd.f21.ntmps = 15 := rfl
theorem Cd.impl_inside_ok : CodeIsR Tryd.prog 21 Tryd.f21 Cd.impl_inside := ⟨Tryd.func21, by kernel_rfl, by decide +kernel⟩
/-- strconv.FormatInt -/
def Cd.strconv_FormatInt : ACode :=
  .seq (.region [⟨some 4, .mv (.const (.string ⟨#[]⟩)), none⟩] [0, 1] []) <|
  .seq (.region [⟨some 5, .mv (.tmp 0), none⟩,
     ⟨some 6, .mv (.tmp 1), none⟩,
     ⟨some 7, .call (.func F.internal_strconv_FormatInt) [(.tmp 5), (.tmp 6)] [], none⟩,
     ⟨some 4, .mv (.tmp 7), none⟩] [4] []) <|
  .ret
theorem Cd.strconv_FormatInt_rs : Tryd.f27.results.toList = [.tmp 4] := rfl
theorem Cd.strconv_FormatInt_nt : Tryd.f27.ntmps = 8 := rfl
theorem Cd.strconv_FormatInt_ok : CodeIsR Tryd.prog 27 Tryd.f27 Cd.strconv_FormatInt := ⟨Tryd.func27, by kernel_rfl, by decide +kernel⟩
end Go.Proofs.YtpdmjalhahblmaaDoor
