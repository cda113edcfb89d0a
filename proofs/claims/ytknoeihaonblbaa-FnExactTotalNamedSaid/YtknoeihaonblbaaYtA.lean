/- The code of each function, resolved. -/
import Derived.Test.YtknoeihaonblbaaVsQ
import Derived.Test.YtknoeihaonblbaaVsR
import Derived.Test.YtknoeihaonblbaaRows
namespace Go.Proofs.Ytknoeihaonblbaa
open Go.Vs
set_option maxRecDepth 100000
theorem Try.own : ownKnob Try.prog.godebug = none := by kernel_rfl
theorem Try.laidOut : laidOutB Try.prog = true := by kernel_rfl
theorem Try.mixed : Try.prog.follows .mixedOrders = true := Try.checked.mixed
namespace F
abbrev gosem_cut_init : FuncId := 2
abbrev laws_FnExactKeepsControl : FuncId := 3
abbrev laws_FnExactValidAmounts : FuncId := 4
abbrev laws_FnExactAddControls : FuncId := 5
abbrev laws_FnExactTakeControls : FuncId := 6
abbrev laws_FnExactSumOfTotals : FuncId := 7
abbrev laws_FnExactTotalNamed : FuncId := 8
abbrev spec_KeepsControl : FuncId := 9
abbrev impl_KeepsControl : FuncId := 10
abbrev spec_ValidAmounts : FuncId := 11
abbrev laws_toInt64S : FuncId := 12
abbrev impl_ValidAmounts : FuncId := 13
abbrev laws_eqInt64S : FuncId := 14
abbrev spec_AddControls : FuncId := 15
abbrev laws_toControl : FuncId := 16
abbrev impl_AddControls : FuncId := 17
abbrev laws_eqControl : FuncId := 18
abbrev spec_TakeControls : FuncId := 19
abbrev impl_TakeControls : FuncId := 20
abbrev laws_szTotalS : FuncId := 21
abbrev spec_SumOfTotals : FuncId := 22
abbrev laws_toTotalS : FuncId := 23
abbrev impl_SumOfTotals : FuncId := 24
abbrev laws_eqTotalS : FuncId := 25
abbrev spec_TotalNamed : FuncId := 26
abbrev impl_TotalNamed : FuncId := 27
abbrev spec_l19Ok : FuncId := 28
abbrev slices_ContainsFunc___int64_int64_ : FuncId := 29
abbrev impl_ValidAmounts_1 : FuncId := 30
abbrev impl_inside : FuncId := 31
abbrev spec_l18Two : FuncId := 32
abbrev spec_l18Ok : FuncId := 33
abbrev impl_joinedControls : FuncId := 34
abbrev laws_szTotal : FuncId := 35
abbrev laws_toTotal : FuncId := 36
abbrev laws_eqTotal : FuncId := 37
abbrev slices_IndexFunc___impl_Total_impl_Total_ : FuncId := 38
abbrev impl_TotalNamed_1 : FuncId := 39
abbrev spec_l00In : FuncId := 40
abbrev slices_IndexFunc___int64_int64_ : FuncId := 41
abbrev impl_isPlainControl : FuncId := 42
abbrev _impl_Control__plus : FuncId := 43
end F
theorem Ld.t29 : ldOf Try.prog 29 = some (true, 3) := by kernel_rfl
theorem Ld.t53 : ldOf Try.prog 53 = some (true, 2) := by kernel_rfl
/-- loop.example/g01012/laws.FnExactKeepsControl -/
def Cd.laws_FnExactKeepsControl : ACode :=
  .seq (.region [⟨some 2, .mv (.const (.bool false)), none⟩] [0]) <|
  .seq (.region [⟨some 5, .mv (.tmp 0), none⟩,
     ⟨some 6, .call (.func F.spec_KeepsControl) [(.tmp 5)] [], none⟩,
     ⟨some 3, .mv (.tmp 6), none⟩] [0, 3]) <|
  .seq (.region [⟨some 7, .mv (.tmp 0), none⟩,
     ⟨some 8, .call (.func F.impl_KeepsControl) [(.tmp 7)] [], none⟩,
     ⟨some 4, .mv (.tmp 8), none⟩] [3, 4]) <|
  .seq (.seq (.region [⟨some 9, .mv (.tmp 4), none⟩,
      ⟨some 10, .mv (.tmp 3), none⟩,
      ⟨some 11, .binB .neq (.tmp 9) (.tmp 10), none⟩] [11]) <|
   .cond (.tmp 11)
     (.seq (.region [⟨some 2, .mv (.const (.bool false)), none⟩] [2]) <|
     .ret)
     (.skip)) <|
  .seq (.region [⟨some 2, .mv (.const (.bool true)), none⟩] [2]) <|
  .ret
theorem Cd.laws_FnExactKeepsControl_rs : Try.f3.results.toList = [.tmp 2] := rfl
theorem Cd.laws_FnExactKeepsControl_nt : Try.f3.ntmps = 12 := rfl
theorem Cd.laws_FnExactKeepsControl_ok : CodeIsR Try.prog 3 Try.f3 Cd.laws_FnExactKeepsControl := ⟨Try.func3, by kernel_rfl, by decide +kernel⟩
/-- loop.example/g01012/laws.FnExactValidAmounts -/
def Cd.laws_FnExactValidAmounts : ACode :=
  .seq (.region [⟨some 2, .mv (.const (.bool false)), none⟩] [0]) <|
  .seq (.seq (.region [⟨some 6, .mv (.tmp 0), none⟩,
      ⟨some 7, .len (.tmp 6), none⟩,
      ⟨some 8, .bin .gtr (.tmp 7) (.const (.int .i64 (1048576))), none⟩] [0, 8]) <|
   .cond (.tmp 8)
     (.seq (.region [⟨some 2, .mv (.const (.bool true)), none⟩] [2]) <|
     .ret)
     (.skip)) <|
  .seq (.region [⟨some 9, .mv (.tmp 0), none⟩,
     ⟨some 10, .call (.func F.laws_toInt64S) [(.tmp 9)] [], none⟩,
     ⟨some 11, .call (.func F.spec_ValidAmounts) [(.tmp 10)] [], none⟩,
     ⟨some 3, .mv (.tmp 11), none⟩] [0, 3]) <|
  .seq (.region [⟨some 12, .mv (.tmp 0), none⟩,
     ⟨some 13, .call (.func F.laws_toInt64S) [(.tmp 12)] [], none⟩,
     ⟨some 4, .mv (.tmp 13), none⟩] [0, 3, 4]) <|
  .seq (.region [⟨some 14, .mv (.tmp 4), none⟩,
     ⟨some 15, .call (.func F.impl_ValidAmounts) [(.tmp 14)] [], none⟩,
     ⟨some 5, .mv (.tmp 15), none⟩] [0, 3, 4, 5]) <|
  .seq (.seq (.region [⟨some 16, .mv (.tmp 5), none⟩,
      ⟨some 17, .mv (.tmp 3), none⟩,
      ⟨some 18, .binB .neq (.tmp 16) (.tmp 17), none⟩] [0, 4, 18]) <|
   .cond (.tmp 18)
     (.seq (.region [⟨some 2, .mv (.const (.bool false)), none⟩] [2]) <|
     .ret)
     (.skip)) <|
  .seq (.seq (.region [⟨some 19, .mv (.tmp 4), none⟩,
      ⟨some 20, .mv (.tmp 0), none⟩,
      ⟨some 21, .call (.func F.laws_toInt64S) [(.tmp 20)] [], none⟩,
      ⟨some 22, .call (.func F.laws_eqInt64S) [(.tmp 19), (.tmp 21)] [], none⟩,
      ⟨some 23, .un .not (.tmp 22), none⟩] [23]) <|
   .cond (.tmp 23)
     (.seq (.region [⟨some 2, .mv (.const (.bool false)), none⟩] [2]) <|
     .ret)
     (.skip)) <|
  .seq (.region [⟨some 2, .mv (.const (.bool true)), none⟩] [2]) <|
  .ret
theorem Cd.laws_FnExactValidAmounts_rs : Try.f4.results.toList = [.tmp 2] := rfl
theorem Cd.laws_FnExactValidAmounts_nt : Try.f4.ntmps = 24 := rfl
theorem Cd.laws_FnExactValidAmounts_ok : CodeIsR Try.prog 4 Try.f4 Cd.laws_FnExactValidAmounts := ⟨Try.func4, by kernel_rfl, by decide +kernel⟩
/-- loop.example/g01012/laws.FnExactAddControls DRAWS -/
def Cd.laws_FnExactAddControls : ACode :=
  .seq (.region [⟨some 2, .box (.tmp 0), none⟩,
     ⟨some 3, .box (.tmp 1), none⟩,
     ⟨some 4, .mv (.const (.bool false)), none⟩] [2, 3]) <|
  .seq (.region [⟨some 10, .load true 3 (.tmp 2), none⟩,
     ⟨some 11, .call (.func F.laws_toControl) [(.tmp 10)] [], none⟩,
     ⟨some 12, .load true 3 (.tmp 3), none⟩,
     ⟨some 13, .call (.func F.laws_toControl) [(.tmp 12)] [], none⟩,
     ⟨some 14, .call (.func F.spec_AddControls) [(.tmp 11), (.tmp 13)] [], none⟩,
     ⟨some 9, .mv (.tmp 14), none⟩,
     ⟨some 15, .extract (.tmp 9) 0, none⟩,
     ⟨some 16, .extract (.tmp 9) 1, none⟩,
     ⟨some 5, .alloc [.v (.int .i64 (0)), .v (.int .i64 (0)), .v (.int .i64 (0))], none⟩,
     ⟨none, .store 3 (.tmp 5) (.tmp 15), none⟩,
     ⟨some 6, .mv (.tmp 16), none⟩] [2, 3, 5, 6]) <|
  .seq (.region [⟨some 18, .load true 3 (.tmp 2), none⟩,
     ⟨some 19, .call (.func F.laws_toControl) [(.tmp 18)] [], none⟩,
     ⟨some 20, .load true 3 (.tmp 3), none⟩,
     ⟨some 21, .call (.func F.laws_toControl) [(.tmp 20)] [], none⟩,
     ⟨some 22, .call (.func F.impl_AddControls) [(.tmp 19), (.tmp 21)] [], none⟩,
     ⟨some 17, .mv (.tmp 22), none⟩,
     ⟨some 23, .extract (.tmp 17) 0, none⟩,
     ⟨some 24, .extract (.tmp 17) 1, none⟩,
     ⟨some 7, .alloc [.v (.int .i64 (0)), .v (.int .i64 (0)), .v (.int .i64 (0))], none⟩,
     ⟨none, .store 3 (.tmp 7) (.tmp 23), none⟩,
     ⟨some 8, .mv (.tmp 24), none⟩] [5, 6, 7, 8]) <|
  .seq (.seq (.region [⟨some 25, .load true 3 (.tmp 7), none⟩,
      ⟨some 26, .load true 3 (.tmp 5), none⟩,
      ⟨some 27, .call (.func F.laws_eqControl) [(.tmp 25), (.tmp 26)] [], none⟩,
      ⟨some 28, .un .not (.tmp 27), none⟩,
      ⟨some 29, .mv (.tmp 28), none⟩,
      ⟨some 30, .mv (.tmp 8), some (29, false)⟩,
      ⟨some 31, .mv (.tmp 6), some (29, false)⟩,
      ⟨some 32, .bin .neq (.tmp 30) (.tmp 31), some (29, false)⟩,
      ⟨some 33, .pick (.tmp 29) (.const (.bool true)) (.tmp 32), none⟩] [33]) <|
   .cond (.tmp 33)
     (.seq (.region [⟨some 4, .mv (.const (.bool false)), none⟩] [4]) <|
     .ret)
     (.skip)) <|
  .seq (.region [⟨some 4, .mv (.const (.bool true)), none⟩] [4]) <|
  .ret
-- DRAWS: no check of loop.example/g01012/laws.FnExactAddControls
/-- loop.example/g01012/laws.FnExactTakeControls DRAWS -/
def Cd.laws_FnExactTakeControls : ACode :=
  .seq (.region [⟨some 2, .box (.tmp 0), none⟩,
     ⟨some 3, .box (.tmp 1), none⟩,
     ⟨some 4, .mv (.const (.bool false)), none⟩] [2, 3]) <|
  .seq (.region [⟨some 10, .load true 3 (.tmp 2), none⟩,
     ⟨some 11, .call (.func F.laws_toControl) [(.tmp 10)] [], none⟩,
     ⟨some 12, .load true 3 (.tmp 3), none⟩,
     ⟨some 13, .call (.func F.laws_toControl) [(.tmp 12)] [], none⟩,
     ⟨some 14, .call (.func F.spec_TakeControls) [(.tmp 11), (.tmp 13)] [], none⟩,
     ⟨some 9, .mv (.tmp 14), none⟩,
     ⟨some 15, .extract (.tmp 9) 0, none⟩,
     ⟨some 16, .extract (.tmp 9) 1, none⟩,
     ⟨some 5, .alloc [.v (.int .i64 (0)), .v (.int .i64 (0)), .v (.int .i64 (0))], none⟩,
     ⟨none, .store 3 (.tmp 5) (.tmp 15), none⟩,
     ⟨some 6, .mv (.tmp 16), none⟩] [2, 3, 5, 6]) <|
  .seq (.region [⟨some 18, .load true 3 (.tmp 2), none⟩,
     ⟨some 19, .call (.func F.laws_toControl) [(.tmp 18)] [], none⟩,
     ⟨some 20, .load true 3 (.tmp 3), none⟩,
     ⟨some 21, .call (.func F.laws_toControl) [(.tmp 20)] [], none⟩,
     ⟨some 22, .call (.func F.impl_TakeControls) [(.tmp 19), (.tmp 21)] [], none⟩,
     ⟨some 17, .mv (.tmp 22), none⟩,
     ⟨some 23, .extract (.tmp 17) 0, none⟩,
     ⟨some 24, .extract (.tmp 17) 1, none⟩,
     ⟨some 7, .alloc [.v (.int .i64 (0)), .v (.int .i64 (0)), .v (.int .i64 (0))], none⟩,
     ⟨none, .store 3 (.tmp 7) (.tmp 23), none⟩,
     ⟨some 8, .mv (.tmp 24), none⟩] [5, 6, 7, 8]) <|
  .seq (.seq (.region [⟨some 25, .load true 3 (.tmp 7), none⟩,
      ⟨some 26, .load true 3 (.tmp 5), none⟩,
      ⟨some 27, .call (.func F.laws_eqControl) [(.tmp 25), (.tmp 26)] [], none⟩,
      ⟨some 28, .un .not (.tmp 27), none⟩,
      ⟨some 29, .mv (.tmp 28), none⟩,
      ⟨some 30, .mv (.tmp 8), some (29, false)⟩,
      ⟨some 31, .mv (.tmp 6), some (29, false)⟩,
      ⟨some 32, .bin .neq (.tmp 30) (.tmp 31), some (29, false)⟩,
      ⟨some 33, .pick (.tmp 29) (.const (.bool true)) (.tmp 32), none⟩] [33]) <|
   .cond (.tmp 33)
     (.seq (.region [⟨some 4, .mv (.const (.bool false)), none⟩] [4]) <|
     .ret)
     (.skip)) <|
  .seq (.region [⟨some 4, .mv (.const (.bool true)), none⟩] [4]) <|
  .ret
-- DRAWS: no check of loop.example/g01012/laws.FnExactTakeControls
/-- loop.example/g01012/laws.FnExactSumOfTotals -/
def Cd.laws_FnExactSumOfTotals : ACode :=
  .seq (.region [⟨some 2, .mv (.const (.bool false)), none⟩] [0]) <|
  .seq (.region [⟨some 3, .mv (.const (.int .i64 (1048576))), none⟩] [0, 3]) <|
  .seq (.region [⟨some 7, .mv (.tmp 0), none⟩,
     ⟨some 8, .mv (.tmp 3), none⟩,
     ⟨some 9, .call (.func F.laws_szTotalS) [(.tmp 7), (.tmp 8)] [], none⟩,
     ⟨some 3, .mv (.tmp 9), none⟩] [0, 3]) <|
  .seq (.seq (.region [⟨some 10, .mv (.tmp 3), none⟩,
      ⟨some 11, .bin .lss (.tmp 10) (.const (.int .i64 (0))), none⟩] [0, 11]) <|
   .cond (.tmp 11)
     (.seq (.region [⟨some 2, .mv (.const (.bool true)), none⟩] [2]) <|
     .ret)
     (.skip)) <|
  .seq (.region [⟨some 12, .mv (.tmp 0), none⟩,
     ⟨some 13, .call (.func F.laws_toTotalS) [(.tmp 12)] [], none⟩,
     ⟨some 14, .call (.func F.spec_SumOfTotals) [(.tmp 13)] [], none⟩,
     ⟨some 4, .mv (.tmp 14), none⟩] [0, 4]) <|
  .seq (.region [⟨some 15, .mv (.tmp 0), none⟩,
     ⟨some 16, .call (.func F.laws_toTotalS) [(.tmp 15)] [], none⟩,
     ⟨some 5, .mv (.tmp 16), none⟩] [0, 4, 5]) <|
  .seq (.region [⟨some 17, .mv (.tmp 5), none⟩,
     ⟨some 18, .call (.func F.impl_SumOfTotals) [(.tmp 17)] [], none⟩,
     ⟨some 6, .mv (.tmp 18), none⟩] [0, 4, 5, 6]) <|
  .seq (.seq (.region [⟨some 19, .mv (.tmp 6), none⟩,
      ⟨some 20, .mv (.tmp 4), none⟩,
      ⟨some 21, .bin .neq (.tmp 19) (.tmp 20), none⟩] [0, 5, 21]) <|
   .cond (.tmp 21)
     (.seq (.region [⟨some 2, .mv (.const (.bool false)), none⟩] [2]) <|
     .ret)
     (.skip)) <|
  .seq (.seq (.region [⟨some 22, .mv (.tmp 5), none⟩,
      ⟨some 23, .mv (.tmp 0), none⟩,
      ⟨some 24, .call (.func F.laws_toTotalS) [(.tmp 23)] [], none⟩,
      ⟨some 25, .call (.func F.laws_eqTotalS) [(.tmp 22), (.tmp 24)] [], none⟩,
      ⟨some 26, .un .not (.tmp 25), none⟩] [26]) <|
   .cond (.tmp 26)
     (.seq (.region [⟨some 2, .mv (.const (.bool false)), none⟩] [2]) <|
     .ret)
     (.skip)) <|
  .seq (.region [⟨some 2, .mv (.const (.bool true)), none⟩] [2]) <|
  .ret
theorem Cd.laws_FnExactSumOfTotals_rs : Try.f7.results.toList = [.tmp 2] := rfl
theorem Cd.laws_FnExactSumOfTotals_nt : Try.f7.ntmps = 27 := rfl
theorem Cd.laws_FnExactSumOfTotals_ok : CodeIsR Try.prog 7 Try.f7 Cd.laws_FnExactSumOfTotals := ⟨Try.func7, by kernel_rfl, by decide +kernel⟩
/-- loop.example/g01012/laws.FnExactTotalNamed -/
def Cd.laws_FnExactTotalNamed : ACode :=
  .seq (.region [⟨some 4, .mv (.const (.bool false)), none⟩] [0, 1]) <|
  .seq (.seq (.region [⟨some 11, .mv (.tmp 1), none⟩,
      ⟨some 12, .lenS (.tmp 11), none⟩,
      ⟨some 13, .bin .gtr (.tmp 12) (.const (.int .i64 (1048576))), none⟩] [0, 1, 13]) <|
   .cond (.tmp 13)
     (.seq (.region [⟨some 4, .mv (.const (.bool true)), none⟩] [4]) <|
     .ret)
     (.skip)) <|
  .seq (.region [⟨some 5, .mv (.const (.int .i64 (1048576))), none⟩] [0, 1, 5]) <|
  .seq (.region [⟨some 14, .mv (.tmp 0), none⟩,
     ⟨some 15, .mv (.tmp 5), none⟩,
     ⟨some 16, .call (.func F.laws_szTotalS) [(.tmp 14), (.tmp 15)] [], none⟩,
     ⟨some 5, .mv (.tmp 16), none⟩] [0, 1, 5]) <|
  .seq (.seq (.region [⟨some 17, .mv (.tmp 5), none⟩,
      ⟨some 18, .bin .lss (.tmp 17) (.const (.int .i64 (0))), none⟩] [0, 1, 18]) <|
   .cond (.tmp 18)
     (.seq (.region [⟨some 4, .mv (.const (.bool true)), none⟩] [4]) <|
     .ret)
     (.skip)) <|
  .seq (.region [⟨some 20, .mv (.tmp 0), none⟩,
     ⟨some 21, .call (.func F.laws_toTotalS) [(.tmp 20)] [], none⟩,
     ⟨some 22, .mv (.tmp 1), none⟩,
     ⟨some 23, .call (.func F.spec_TotalNamed) [(.tmp 21), (.tmp 22)] [], none⟩,
     ⟨some 19, .mv (.tmp 23), none⟩,
     ⟨some 24, .extract (.tmp 19) 0, none⟩,
     ⟨some 25, .extract (.tmp 19) 1, none⟩,
     ⟨some 6, .mv (.tmp 24), none⟩,
     ⟨some 7, .mv (.tmp 25), none⟩] [0, 1, 6, 7]) <|
  .seq (.region [⟨some 26, .mv (.tmp 0), none⟩,
     ⟨some 27, .call (.func F.laws_toTotalS) [(.tmp 26)] [], none⟩,
     ⟨some 8, .mv (.tmp 27), none⟩] [0, 1, 6, 7, 8]) <|
  .seq (.region [⟨some 29, .mv (.tmp 8), none⟩,
     ⟨some 30, .mv (.tmp 1), none⟩,
     ⟨some 31, .call (.func F.impl_TotalNamed) [(.tmp 29), (.tmp 30)] [], none⟩,
     ⟨some 28, .mv (.tmp 31), none⟩,
     ⟨some 32, .extract (.tmp 28) 0, none⟩,
     ⟨some 33, .extract (.tmp 28) 1, none⟩,
     ⟨some 9, .mv (.tmp 32), none⟩,
     ⟨some 10, .mv (.tmp 33), none⟩] [0, 6, 7, 8, 9, 10]) <|
  .seq (.seq (.region [⟨some 34, .mv (.tmp 9), none⟩,
      ⟨some 35, .mv (.tmp 6), none⟩,
      ⟨some 36, .bin .neq (.tmp 34) (.tmp 35), none⟩,
      ⟨some 37, .mv (.tmp 36), none⟩,
      ⟨some 38, .mv (.tmp 10), some (37, false)⟩,
      ⟨some 39, .mv (.tmp 7), some (37, false)⟩,
      ⟨some 40, .bin .neq (.tmp 38) (.tmp 39), some (37, false)⟩,
      ⟨some 41, .pick (.tmp 37) (.const (.bool true)) (.tmp 40), none⟩] [0, 8, 41]) <|
   .cond (.tmp 41)
     (.seq (.region [⟨some 4, .mv (.const (.bool false)), none⟩] [4]) <|
     .ret)
     (.skip)) <|
  .seq (.seq (.region [⟨some 42, .mv (.tmp 8), none⟩,
      ⟨some 43, .mv (.tmp 0), none⟩,
      ⟨some 44, .call (.func F.laws_toTotalS) [(.tmp 43)] [], none⟩,
      ⟨some 45, .call (.func F.laws_eqTotalS) [(.tmp 42), (.tmp 44)] [], none⟩,
      ⟨some 46, .un .not (.tmp 45), none⟩] [46]) <|
   .cond (.tmp 46)
     (.seq (.region [⟨some 4, .mv (.const (.bool false)), none⟩] [4]) <|
     .ret)
     (.skip)) <|
  .seq (.region [⟨some 4, .mv (.const (.bool true)), none⟩] [4]) <|
  .ret
theorem Cd.laws_FnExactTotalNamed_rs : Try.f8.results.toList = [.tmp 4] := rfl
theorem Cd.laws_FnExactTotalNamed_nt : Try.f8.ntmps = 47 := rfl
theorem Cd.laws_FnExactTotalNamed_ok : CodeIsR Try.prog 8 Try.f8 Cd.laws_FnExactTotalNamed := ⟨Try.func8, by kernel_rfl, by decide +kernel⟩
/-- loop.example/g01012/spec.KeepsControl -/
def Cd.spec_KeepsControl : ACode :=
  .seq (.region [⟨some 2, .mv (.const (.bool false)), none⟩] [0]) <|
  .seq (.region [⟨some 3, .mv (.tmp 0), none⟩,
     ⟨some 4, .bin .eql (.tmp 3) (.const (.int .i64 (1))), none⟩,
     ⟨some 5, .mv (.tmp 4), none⟩,
     ⟨some 6, .mv (.tmp 0), some (5, false)⟩,
     ⟨some 7, .bin .eql (.tmp 6) (.const (.int .i64 (2))), some (5, false)⟩,
     ⟨some 8, .pick (.tmp 5) (.const (.bool true)) (.tmp 7), none⟩,
     ⟨some 2, .mv (.tmp 8), none⟩] [2]) <|
  .ret
theorem Cd.spec_KeepsControl_rs : Try.f9.results.toList = [.tmp 2] := rfl
theorem Cd.spec_KeepsControl_nt : Try.f9.ntmps = 9 := rfl
theorem Cd.spec_KeepsControl_ok : CodeIsR Try.prog 9 Try.f9 Cd.spec_KeepsControl := ⟨Try.func9, by kernel_rfl, by decide +kernel⟩
/-- loop.example/g01012/impl.KeepsControl -/
def Cd.impl_KeepsControl : ACode :=
  .seq (.region [⟨some 2, .mv (.const (.bool false)), none⟩] [0]) <|
  .seq (.region [⟨some 3, .mv (.tmp 0), none⟩,
     ⟨some 4, .bin .eql (.tmp 3) (.const (.int .i64 (1))), none⟩,
     ⟨some 5, .mv (.tmp 4), none⟩,
     ⟨some 6, .mv (.tmp 0), some (5, false)⟩,
     ⟨some 7, .bin .eql (.tmp 6) (.const (.int .i64 (2))), some (5, false)⟩,
     ⟨some 8, .pick (.tmp 5) (.const (.bool true)) (.tmp 7), none⟩,
     ⟨some 2, .mv (.tmp 8), none⟩] [2]) <|
  .ret
theorem Cd.impl_KeepsControl_rs : Try.f10.results.toList = [.tmp 2] := rfl
theorem Cd.impl_KeepsControl_nt : Try.f10.ntmps = 9 := rfl
theorem Cd.impl_KeepsControl_ok : CodeIsR Try.prog 10 Try.f10 Cd.impl_KeepsControl := ⟨Try.func10, by kernel_rfl, by decide +kernel⟩
/-- loop.example/g01012/spec.ValidAmounts -/
def Cd.spec_ValidAmounts : ACode :=
  .seq (.region [⟨some 2, .mv (.const (.bool false)), none⟩] [0]) <|
  .seq (.region [⟨some 3, .mv (.tmp 0), none⟩,
     ⟨some 4, .call (.func F.spec_l19Ok) [(.tmp 3)] [], none⟩,
     ⟨some 2, .mv (.tmp 4), none⟩] [2]) <|
  .ret
theorem Cd.spec_ValidAmounts_rs : Try.f11.results.toList = [.tmp 2] := rfl
theorem Cd.spec_ValidAmounts_nt : Try.f11.ntmps = 5 := rfl
theorem Cd.spec_ValidAmounts_ok : CodeIsR Try.prog 11 Try.f11 Cd.spec_ValidAmounts := ⟨Try.func11, by kernel_rfl, by decide +kernel⟩
/-- loop.example/g01012/laws.toInt64S -/
def Cd.laws_toInt64S : ACode :=
  .seq (.region [⟨some 2, .mv (.const (.slice none 0 0)), none⟩] [0]) <|
  .seq (.region [⟨some 5, .mv (.tmp 0), none⟩,
     ⟨some 6, .len (.tmp 5), none⟩,
     ⟨some 7, .mk 1 8 [.v (.int .i64 (0))] (.tmp 6), none⟩,
     ⟨some 3, .mv (.tmp 7), none⟩] [0, 3]) <|
  .seq (.seq (.region [⟨some 4, .mv (.const (.int .i64 (0))), none⟩] [0, 3, 4]) <|
   .block 0 (
     .loop (
       .seq (.seq (.region [⟨some 8, .mv (.tmp 4), none⟩,
           ⟨some 9, .mv (.tmp 0), none⟩,
           ⟨some 10, .len (.tmp 9), none⟩,
           ⟨some 11, .bin .lss (.tmp 8) (.tmp 10), none⟩] [0, 3, 4, 11]) <|
        .cond (.tmp 11)
          (.skip)
          (.exit 0)) <|
       .seq (.block 1 (
          .region [⟨some 14, .mv (.tmp 3), none⟩,
            ⟨some 15, .mv (.tmp 4), none⟩,
            ⟨some 16, .mv (.tmp 0), none⟩,
            ⟨some 17, .mv (.tmp 4), none⟩,
            ⟨some 18, .idxSl 1 (.tmp 16) (.tmp 17), none⟩,
            ⟨some 19, .load false 1 (.tmp 18), none⟩,
            ⟨some 20, .idxSl 1 (.tmp 14) (.tmp 15), none⟩,
            ⟨none, .store 1 (.tmp 20) (.tmp 19), none⟩] [0, 3, 4])) <|
       .region [⟨some 12, .mv (.tmp 4), none⟩,
         ⟨some 13, .bin .add (.tmp 12) (.const (.int .i64 (1))), none⟩,
         ⟨some 4, .mv (.tmp 13), none⟩] [0, 3, 4]))) <|
  .seq (.region [⟨some 21, .mv (.tmp 3), none⟩,
     ⟨some 2, .mv (.tmp 21), none⟩] [2]) <|
  .ret
theorem Cd.laws_toInt64S_rs : Try.f12.results.toList = [.tmp 2] := rfl
theorem Cd.laws_toInt64S_nt : Try.f12.ntmps = 22 := rfl
theorem Cd.laws_toInt64S_ok : CodeIsR Try.prog 12 Try.f12 Cd.laws_toInt64S := ⟨Try.func12, by kernel_rfl, by decide +kernel⟩
/-- loop.example/g01012/impl.ValidAmounts -/
def Cd.impl_ValidAmounts : ACode :=
  .seq (.region [⟨some 2, .mv (.const (.bool false)), none⟩] [0]) <|
  .seq (.region [⟨some 3, .mv (.tmp 0), none⟩,
     ⟨some 4, .len (.tmp 3), none⟩,
     ⟨some 5, .bin .leq (.tmp 4) (.const (.int .i64 (12))), none⟩,
     ⟨some 6, .mv (.tmp 5), none⟩,
     ⟨some 7, .mv (.tmp 0), some (6, true)⟩,
     ⟨some 8, .call (.func F.slices_ContainsFunc___int64_int64_) [(.tmp 7), (.func F.impl_ValidAmounts_1)] [], some (6, true)⟩,
     ⟨some 9, .un .not (.tmp 8), some (6, true)⟩,
     ⟨some 10, .pick (.tmp 6) (.tmp 9) (.const (.bool false)), none⟩,
     ⟨some 2, .mv (.tmp 10), none⟩] [2]) <|
  .ret
theorem Cd.impl_ValidAmounts_rs : Try.f13.results.toList = [.tmp 2] := rfl
theorem Cd.impl_ValidAmounts_nt : Try.f13.ntmps = 11 := rfl
theorem Cd.impl_ValidAmounts_ok : CodeIsR Try.prog 13 Try.f13 Cd.impl_ValidAmounts := ⟨Try.func13, by kernel_rfl, by decide +kernel⟩
/-- loop.example/g01012/laws.eqInt64S DRAWS -/
def Cd.laws_eqInt64S : ACode :=
  .seq (.region [⟨some 4, .mv (.const (.bool false)), none⟩] [0, 1]) <|
  .seq (.seq (.region [⟨some 6, .mv (.tmp 0), none⟩,
      ⟨some 7, .len (.tmp 6), none⟩,
      ⟨some 8, .mv (.tmp 1), none⟩,
      ⟨some 9, .len (.tmp 8), none⟩,
      ⟨some 10, .bin .neq (.tmp 7) (.tmp 9), none⟩] [0, 1, 10]) <|
   .cond (.tmp 10)
     (.seq (.region [⟨some 4, .mv (.const (.bool false)), none⟩] [4]) <|
     .ret)
     (.skip)) <|
  .seq (.seq (.region [⟨some 5, .mv (.const (.int .i64 (0))), none⟩] [0, 1, 5]) <|
   .block 0 (
     .loop (
       .seq (.seq (.region [⟨some 11, .mv (.tmp 5), none⟩,
           ⟨some 12, .mv (.tmp 0), none⟩,
           ⟨some 13, .len (.tmp 12), none⟩,
           ⟨some 14, .bin .lss (.tmp 11) (.tmp 13), none⟩] [0, 1, 5, 14]) <|
        .cond (.tmp 14)
          (.skip)
          (.exit 0)) <|
       .seq (.block 1 (
          .seq (.region [⟨some 17, .mv (.tmp 0), none⟩,
             ⟨some 18, .mv (.tmp 5), none⟩,
             ⟨some 19, .idxSl 1 (.tmp 17) (.tmp 18), none⟩,
             ⟨some 20, .load false 1 (.tmp 19), none⟩,
             ⟨some 21, .mv (.tmp 1), none⟩,
             ⟨some 22, .mv (.tmp 5), none⟩,
             ⟨some 23, .idxSl 1 (.tmp 21) (.tmp 22), none⟩,
             ⟨some 24, .load false 1 (.tmp 23), none⟩,
             ⟨some 25, .bin .neq (.tmp 20) (.tmp 24), none⟩] [0, 1, 5, 25]) <|
          .cond (.tmp 25)
            (.seq (.region [⟨some 4, .mv (.const (.bool false)), none⟩] [4]) <|
            .ret)
            (.skip))) <|
       .region [⟨some 15, .mv (.tmp 5), none⟩,
         ⟨some 16, .bin .add (.tmp 15) (.const (.int .i64 (1))), none⟩,
         ⟨some 5, .mv (.tmp 16), none⟩] [0, 1, 5]))) <|
  .seq (.region [⟨some 4, .mv (.const (.bool true)), none⟩] [4]) <|
  .ret
theorem Cd.laws_eqInt64S_rs : Try.f14.results.toList = [.tmp 4] := rfl
theorem Cd.laws_eqInt64S_nt : Try.f14.ntmps = 26 := rfl
theorem Cd.laws_eqInt64S_ok : CodeIsR Try.prog 14 Try.f14 Cd.laws_eqInt64S := ⟨Try.func14, by kernel_rfl, by decide +kernel⟩
/-- loop.example/g01012/spec.AddControls -/
def Cd.spec_AddControls : ACode :=
  .seq (.region [⟨some 2, .box (.tmp 0), none⟩,
     ⟨some 3, .box (.tmp 1), none⟩,
     ⟨some 4, .alloc [.v (.int .i64 (0)), .v (.int .i64 (0)), .v (.int .i64 (0))], none⟩,
     ⟨some 5, .mv (.const (.int .i64 (0))), none⟩] [2, 3, 4]) <|
  .seq (.region [⟨some 8, .load true 3 (.tmp 2), none⟩,
     ⟨some 9, .load true 3 (.tmp 3), none⟩,
     ⟨some 10, .call (.func F.spec_l18Two) [(.tmp 8), (.tmp 9)] [], none⟩,
     ⟨some 6, .mv (.tmp 10), none⟩] [2, 3, 4, 6]) <|
  .seq (.seq (.region [⟨some 11, .mv (.tmp 6), none⟩,
      ⟨some 12, .bin .neq (.tmp 11) (.const (.int .i64 (0))), none⟩] [2, 3, 4, 6, 12]) <|
   .cond (.tmp 12)
     (.seq (.region [⟨some 13, .build [.v (.int .i64 (0)), .v (.int .i64 (0)), .v (.int .i64 (0))] [], none⟩,
        ⟨some 14, .mv (.tmp 6), none⟩,
        ⟨none, .store 3 (.tmp 4) (.tmp 13), none⟩,
        ⟨some 5, .mv (.tmp 14), none⟩] [4, 5]) <|
     .ret)
     (.skip)) <|
  .seq (.region [⟨some 15, .fieldAddr 0 (.tmp 2), none⟩,
     ⟨some 16, .load false 1 (.tmp 15), none⟩,
     ⟨some 17, .fieldAddr 0 (.tmp 3), none⟩,
     ⟨some 18, .load false 1 (.tmp 17), none⟩,
     ⟨some 19, .bin .add (.tmp 16) (.tmp 18), none⟩,
     ⟨some 20, .fieldAddr 1 (.tmp 2), none⟩,
     ⟨some 21, .load false 1 (.tmp 20), none⟩,
     ⟨some 22, .fieldAddr 1 (.tmp 3), none⟩,
     ⟨some 23, .load false 1 (.tmp 22), none⟩,
     ⟨some 24, .bin .add (.tmp 21) (.tmp 23), none⟩,
     ⟨some 25, .fieldAddr 2 (.tmp 2), none⟩,
     ⟨some 26, .load false 1 (.tmp 25), none⟩,
     ⟨some 27, .fieldAddr 2 (.tmp 3), none⟩,
     ⟨some 28, .load false 1 (.tmp 27), none⟩,
     ⟨some 29, .bin .add (.tmp 26) (.tmp 28), none⟩,
     ⟨some 30, .build [.v (.int .i64 (0)), .v (.int .i64 (0)), .v (.int .i64 (0))] [(0, 1, (.tmp 19)), (1, 1, (.tmp 24)), (2, 1, (.tmp 29))], none⟩,
     ⟨some 7, .alloc [.v (.int .i64 (0)), .v (.int .i64 (0)), .v (.int .i64 (0))], none⟩,
     ⟨none, .store 3 (.tmp 7) (.tmp 30), none⟩] [4, 7]) <|
  .seq (.seq (.region [⟨some 31, .load true 3 (.tmp 7), none⟩,
      ⟨some 32, .call (.func F.spec_l18Ok) [(.tmp 31)] [], none⟩,
      ⟨some 33, .un .not (.tmp 32), none⟩] [4, 7, 33]) <|
   .cond (.tmp 33)
     (.seq (.region [⟨some 34, .build [.v (.int .i64 (0)), .v (.int .i64 (0)), .v (.int .i64 (0))] [], none⟩,
        ⟨none, .store 3 (.tmp 4) (.tmp 34), none⟩,
        ⟨some 5, .mv (.const (.int .i64 (5))), none⟩] [4, 5]) <|
     .ret)
     (.skip)) <|
  .seq (.region [⟨some 35, .load true 3 (.tmp 7), none⟩,
     ⟨none, .store 3 (.tmp 4) (.tmp 35), none⟩,
     ⟨some 5, .mv (.const (.int .i64 (0))), none⟩] [4, 5]) <|
  .ret
theorem Cd.spec_AddControls_rs : Try.f15.results.toList = [.cell 4 29, .tmp 5] := rfl
theorem Cd.spec_AddControls_nt : Try.f15.ntmps = 36 := rfl
theorem Cd.spec_AddControls_ok : CodeIsR Try.prog 15 Try.f15 Cd.spec_AddControls := ⟨Try.func15, by kernel_rfl, by decide +kernel⟩
/-- loop.example/g01012/laws.toControl -/
def Cd.laws_toControl : ACode :=
  .seq (.region [⟨some 1, .box (.tmp 0), none⟩,
     ⟨some 2, .alloc [.v (.int .i64 (0)), .v (.int .i64 (0)), .v (.int .i64 (0))], none⟩] [1, 2]) <|
  .seq (.region [⟨some 3, .alloc [.v (.int .i64 (0)), .v (.int .i64 (0)), .v (.int .i64 (0))], none⟩] [1, 2, 3]) <|
  .seq (.region [⟨some 4, .fieldAddr 0 (.tmp 1), none⟩,
     ⟨some 5, .load false 1 (.tmp 4), none⟩,
     ⟨some 6, .fieldAddr 0 (.tmp 3), none⟩,
     ⟨none, .store 1 (.tmp 6) (.tmp 5), none⟩] [1, 2, 3]) <|
  .seq (.region [⟨some 7, .fieldAddr 1 (.tmp 1), none⟩,
     ⟨some 8, .load false 1 (.tmp 7), none⟩,
     ⟨some 9, .fieldAddr 1 (.tmp 3), none⟩,
     ⟨none, .store 1 (.tmp 9) (.tmp 8), none⟩] [1, 2, 3]) <|
  .seq (.region [⟨some 10, .fieldAddr 2 (.tmp 1), none⟩,
     ⟨some 11, .load false 1 (.tmp 10), none⟩,
     ⟨some 12, .fieldAddr 2 (.tmp 3), none⟩,
     ⟨none, .store 1 (.tmp 12) (.tmp 11), none⟩] [2, 3]) <|
  .seq (.region [⟨some 13, .load true 3 (.tmp 3), none⟩,
     ⟨none, .store 3 (.tmp 2) (.tmp 13), none⟩] [2]) <|
  .ret
theorem Cd.laws_toControl_rs : Try.f16.results.toList = [.cell 2 29] := rfl
theorem Cd.laws_toControl_nt : Try.f16.ntmps = 14 := rfl
theorem Cd.laws_toControl_ok : CodeIsR Try.prog 16 Try.f16 Cd.laws_toControl := ⟨Try.func16, by kernel_rfl, by decide +kernel⟩
/-- loop.example/g01012/impl.AddControls -/
def Cd.impl_AddControls : ACode :=
  .seq (.region [⟨some 2, .box (.tmp 0), none⟩,
     ⟨some 3, .box (.tmp 1), none⟩,
     ⟨some 4, .alloc [.v (.int .i64 (0)), .v (.int .i64 (0)), .v (.int .i64 (0))], none⟩,
     ⟨some 5, .mv (.const (.int .i64 (0))), none⟩] [2, 3, 4]) <|
  .seq (.region [⟨some 6, .load true 3 (.tmp 2), none⟩,
     ⟨some 7, .load true 3 (.tmp 3), none⟩,
     ⟨some 8, .call (.func F.impl_joinedControls) [(.tmp 6), (.tmp 7), (.const (.int .i64 (1)))] [], none⟩,
     ⟨some 9, .extract (.tmp 8) 0, none⟩,
     ⟨some 10, .extract (.tmp 8) 1, none⟩,
     ⟨none, .store 3 (.tmp 4) (.tmp 9), none⟩,
     ⟨some 5, .mv (.tmp 10), none⟩] [4, 5]) <|
  .ret
theorem Cd.impl_AddControls_rs : Try.f17.results.toList = [.cell 4 29, .tmp 5] := rfl
theorem Cd.impl_AddControls_nt : Try.f17.ntmps = 11 := rfl
theorem Cd.impl_AddControls_ok : CodeIsR Try.prog 17 Try.f17 Cd.impl_AddControls := ⟨Try.func17, by kernel_rfl, by decide +kernel⟩
/-- loop.example/g01012/laws.eqControl -/
def Cd.laws_eqControl : ACode :=
  .seq (.region [⟨some 2, .box (.tmp 0), none⟩,
     ⟨some 3, .box (.tmp 1), none⟩,
     ⟨some 4, .mv (.const (.bool false)), none⟩] [2, 3]) <|
  .seq (.seq (.region [⟨some 5, .fieldAddr 0 (.tmp 2), none⟩,
      ⟨some 6, .load false 1 (.tmp 5), none⟩,
      ⟨some 7, .fieldAddr 0 (.tmp 3), none⟩,
      ⟨some 8, .load false 1 (.tmp 7), none⟩,
      ⟨some 9, .bin .neq (.tmp 6) (.tmp 8), none⟩] [2, 3, 9]) <|
   .cond (.tmp 9)
     (.seq (.region [⟨some 4, .mv (.const (.bool false)), none⟩] [4]) <|
     .ret)
     (.skip)) <|
  .seq (.seq (.region [⟨some 10, .fieldAddr 1 (.tmp 2), none⟩,
      ⟨some 11, .load false 1 (.tmp 10), none⟩,
      ⟨some 12, .fieldAddr 1 (.tmp 3), none⟩,
      ⟨some 13, .load false 1 (.tmp 12), none⟩,
      ⟨some 14, .bin .neq (.tmp 11) (.tmp 13), none⟩] [2, 3, 14]) <|
   .cond (.tmp 14)
     (.seq (.region [⟨some 4, .mv (.const (.bool false)), none⟩] [4]) <|
     .ret)
     (.skip)) <|
  .seq (.seq (.region [⟨some 15, .fieldAddr 2 (.tmp 2), none⟩,
      ⟨some 16, .load false 1 (.tmp 15), none⟩,
      ⟨some 17, .fieldAddr 2 (.tmp 3), none⟩,
      ⟨some 18, .load false 1 (.tmp 17), none⟩,
      ⟨some 19, .bin .neq (.tmp 16) (.tmp 18), none⟩] [19]) <|
   .cond (.tmp 19)
     (.seq (.region [⟨some 4, .mv (.const (.bool false)), none⟩] [4]) <|
     .ret)
     (.skip)) <|
  .seq (.region [⟨some 4, .mv (.const (.bool true)), none⟩] [4]) <|
  .ret
theorem Cd.laws_eqControl_rs : Try.f18.results.toList = [.tmp 4] := rfl
theorem Cd.laws_eqControl_nt : Try.f18.ntmps = 20 := rfl
theorem Cd.laws_eqControl_ok : CodeIsR Try.prog 18 Try.f18 Cd.laws_eqControl := ⟨Try.func18, by kernel_rfl, by decide +kernel⟩
/-- loop.example/g01012/spec.TakeControls -/
def Cd.spec_TakeControls : ACode :=
  .seq (.region [⟨some 2, .box (.tmp 0), none⟩,
     ⟨some 3, .box (.tmp 1), none⟩,
     ⟨some 4, .alloc [.v (.int .i64 (0)), .v (.int .i64 (0)), .v (.int .i64 (0))], none⟩,
     ⟨some 5, .mv (.const (.int .i64 (0))), none⟩] [2, 3, 4]) <|
  .seq (.region [⟨some 8, .load true 3 (.tmp 2), none⟩,
     ⟨some 9, .load true 3 (.tmp 3), none⟩,
     ⟨some 10, .call (.func F.spec_l18Two) [(.tmp 8), (.tmp 9)] [], none⟩,
     ⟨some 6, .mv (.tmp 10), none⟩] [2, 3, 4, 6]) <|
  .seq (.seq (.region [⟨some 11, .mv (.tmp 6), none⟩,
      ⟨some 12, .bin .neq (.tmp 11) (.const (.int .i64 (0))), none⟩] [2, 3, 4, 6, 12]) <|
   .cond (.tmp 12)
     (.seq (.region [⟨some 13, .build [.v (.int .i64 (0)), .v (.int .i64 (0)), .v (.int .i64 (0))] [], none⟩,
        ⟨some 14, .mv (.tmp 6), none⟩,
        ⟨none, .store 3 (.tmp 4) (.tmp 13), none⟩,
        ⟨some 5, .mv (.tmp 14), none⟩] [4, 5]) <|
     .ret)
     (.skip)) <|
  .seq (.region [⟨some 15, .fieldAddr 0 (.tmp 2), none⟩,
     ⟨some 16, .load false 1 (.tmp 15), none⟩,
     ⟨some 17, .fieldAddr 0 (.tmp 3), none⟩,
     ⟨some 18, .load false 1 (.tmp 17), none⟩,
     ⟨some 19, .bin .sub (.tmp 16) (.tmp 18), none⟩,
     ⟨some 20, .fieldAddr 1 (.tmp 2), none⟩,
     ⟨some 21, .load false 1 (.tmp 20), none⟩,
     ⟨some 22, .fieldAddr 1 (.tmp 3), none⟩,
     ⟨some 23, .load false 1 (.tmp 22), none⟩,
     ⟨some 24, .bin .sub (.tmp 21) (.tmp 23), none⟩,
     ⟨some 25, .fieldAddr 2 (.tmp 2), none⟩,
     ⟨some 26, .load false 1 (.tmp 25), none⟩,
     ⟨some 27, .fieldAddr 2 (.tmp 3), none⟩,
     ⟨some 28, .load false 1 (.tmp 27), none⟩,
     ⟨some 29, .bin .sub (.tmp 26) (.tmp 28), none⟩,
     ⟨some 30, .build [.v (.int .i64 (0)), .v (.int .i64 (0)), .v (.int .i64 (0))] [(0, 1, (.tmp 19)), (1, 1, (.tmp 24)), (2, 1, (.tmp 29))], none⟩,
     ⟨some 7, .alloc [.v (.int .i64 (0)), .v (.int .i64 (0)), .v (.int .i64 (0))], none⟩,
     ⟨none, .store 3 (.tmp 7) (.tmp 30), none⟩] [4, 7]) <|
  .seq (.seq (.region [⟨some 31, .load true 3 (.tmp 7), none⟩,
      ⟨some 32, .call (.func F.spec_l18Ok) [(.tmp 31)] [], none⟩,
      ⟨some 33, .un .not (.tmp 32), none⟩] [4, 7, 33]) <|
   .cond (.tmp 33)
     (.seq (.region [⟨some 34, .build [.v (.int .i64 (0)), .v (.int .i64 (0)), .v (.int .i64 (0))] [], none⟩,
        ⟨none, .store 3 (.tmp 4) (.tmp 34), none⟩,
        ⟨some 5, .mv (.const (.int .i64 (5))), none⟩] [4, 5]) <|
     .ret)
     (.skip)) <|
  .seq (.region [⟨some 35, .load true 3 (.tmp 7), none⟩,
     ⟨none, .store 3 (.tmp 4) (.tmp 35), none⟩,
     ⟨some 5, .mv (.const (.int .i64 (0))), none⟩] [4, 5]) <|
  .ret
theorem Cd.spec_TakeControls_rs : Try.f19.results.toList = [.cell 4 29, .tmp 5] := rfl
theorem Cd.spec_TakeControls_nt : Try.f19.ntmps = 36 := rfl
theorem Cd.spec_TakeControls_ok : CodeIsR Try.prog 19 Try.f19 Cd.spec_TakeControls := ⟨Try.func19, by kernel_rfl, by decide +kernel⟩
/-- loop.example/g01012/impl.TakeControls -/
def Cd.impl_TakeControls : ACode :=
  .seq (.region [⟨some 2, .box (.tmp 0), none⟩,
     ⟨some 3, .box (.tmp 1), none⟩,
     ⟨some 4, .alloc [.v (.int .i64 (0)), .v (.int .i64 (0)), .v (.int .i64 (0))], none⟩,
     ⟨some 5, .mv (.const (.int .i64 (0))), none⟩] [2, 3, 4]) <|
  .seq (.region [⟨some 6, .load true 3 (.tmp 2), none⟩,
     ⟨some 7, .load true 3 (.tmp 3), none⟩,
     ⟨some 8, .call (.func F.impl_joinedControls) [(.tmp 6), (.tmp 7), (.const (.int .i64 (-1)))] [], none⟩,
     ⟨some 9, .extract (.tmp 8) 0, none⟩,
     ⟨some 10, .extract (.tmp 8) 1, none⟩,
     ⟨none, .store 3 (.tmp 4) (.tmp 9), none⟩,
     ⟨some 5, .mv (.tmp 10), none⟩] [4, 5]) <|
  .ret
theorem Cd.impl_TakeControls_rs : Try.f20.results.toList = [.cell 4 29, .tmp 5] := rfl
theorem Cd.impl_TakeControls_nt : Try.f20.ntmps = 11 := rfl
theorem Cd.impl_TakeControls_ok : CodeIsR Try.prog 20 Try.f20 Cd.impl_TakeControls := ⟨Try.func20, by kernel_rfl, by decide +kernel⟩
/-- loop.example/g01012/laws.szTotalS -/
def Cd.laws_szTotalS : ACode :=
  .seq (.region [⟨some 4, .mv (.const (.int .i64 (0))), none⟩] [0, 1]) <|
  .seq (.region [⟨some 6, .mv (.tmp 1), none⟩,
     ⟨some 7, .mv (.tmp 0), none⟩,
     ⟨some 8, .len (.tmp 7), none⟩,
     ⟨some 9, .bin .sub (.tmp 6) (.tmp 8), none⟩,
     ⟨some 1, .mv (.tmp 9), none⟩] [0, 1]) <|
  .seq (.seq (.region [⟨some 10, .mv (.tmp 1), none⟩,
      ⟨some 11, .bin .lss (.tmp 10) (.const (.int .i64 (0))), none⟩] [0, 1, 11]) <|
   .cond (.tmp 11)
     (.seq (.region [⟨some 4, .mv (.const (.int .i64 (-1))), none⟩] [4]) <|
     .ret)
     (.skip)) <|
  .seq (.seq (.region [⟨some 5, .mv (.const (.int .i64 (0))), none⟩] [0, 1, 5]) <|
   .block 0 (
     .loop (
       .seq (.seq (.region [⟨some 12, .mv (.tmp 5), none⟩,
           ⟨some 13, .mv (.tmp 0), none⟩,
           ⟨some 14, .len (.tmp 13), none⟩,
           ⟨some 15, .bin .lss (.tmp 12) (.tmp 14), none⟩] [0, 1, 5, 15]) <|
        .cond (.tmp 15)
          (.skip)
          (.exit 0)) <|
       .seq (.block 1 (
          .seq (.region [⟨some 18, .mv (.tmp 0), none⟩,
             ⟨some 19, .mv (.tmp 5), none⟩,
             ⟨some 20, .idxSl 2 (.tmp 18) (.tmp 19), none⟩,
             ⟨some 21, .load true 2 (.tmp 20), none⟩,
             ⟨some 22, .mv (.tmp 1), none⟩,
             ⟨some 23, .call (.func F.laws_szTotal) [(.tmp 21), (.tmp 22)] [], none⟩,
             ⟨some 1, .mv (.tmp 23), none⟩] [0, 1, 5]) <|
          .seq (.region [⟨some 24, .mv (.tmp 1), none⟩,
             ⟨some 25, .bin .lss (.tmp 24) (.const (.int .i64 (0))), none⟩] [0, 1, 5, 25]) <|
          .cond (.tmp 25)
            (.seq (.region [⟨some 4, .mv (.const (.int .i64 (-1))), none⟩] [4]) <|
            .ret)
            (.skip))) <|
       .region [⟨some 16, .mv (.tmp 5), none⟩,
         ⟨some 17, .bin .add (.tmp 16) (.const (.int .i64 (1))), none⟩,
         ⟨some 5, .mv (.tmp 17), none⟩] [0, 1, 5]))) <|
  .seq (.region [⟨some 26, .mv (.tmp 1), none⟩,
     ⟨some 4, .mv (.tmp 26), none⟩] [4]) <|
  .ret
theorem Cd.laws_szTotalS_rs : Try.f21.results.toList = [.tmp 4] := rfl
theorem Cd.laws_szTotalS_nt : Try.f21.ntmps = 27 := rfl
theorem Cd.laws_szTotalS_ok : CodeIsR Try.prog 21 Try.f21 Cd.laws_szTotalS := ⟨Try.func21, by kernel_rfl, by decide +kernel⟩
/-- loop.example/g01012/spec.SumOfTotals -/
def Cd.spec_SumOfTotals : ACode :=
  .seq (.region [⟨some 2, .mv (.const (.int .i64 (0))), none⟩] [0]) <|
  .seq (.region [⟨some 3, .mv (.const (.int .i64 (0))), none⟩] [0, 3]) <|
  .seq (.seq (.region [⟨some 4, .mv (.const (.int .i64 (0))), none⟩] [0, 3, 4]) <|
   .block 0 (
     .loop (
       .seq (.seq (.region [⟨some 5, .mv (.tmp 4), none⟩,
           ⟨some 6, .mv (.tmp 0), none⟩,
           ⟨some 7, .len (.tmp 6), none⟩,
           ⟨some 8, .bin .lss (.tmp 5) (.tmp 7), none⟩] [0, 3, 4, 8]) <|
        .cond (.tmp 8)
          (.skip)
          (.exit 0)) <|
       .seq (.block 1 (
          .region [⟨some 11, .mv (.tmp 3), none⟩,
            ⟨some 12, .mv (.tmp 0), none⟩,
            ⟨some 13, .mv (.tmp 4), none⟩,
            ⟨some 14, .idxSl 2 (.tmp 12) (.tmp 13), none⟩,
            ⟨some 15, .fieldAddr 1 (.tmp 14), none⟩,
            ⟨some 16, .load false 1 (.tmp 15), none⟩,
            ⟨some 17, .bin .add (.tmp 11) (.tmp 16), none⟩,
            ⟨some 3, .mv (.tmp 17), none⟩] [0, 3, 4])) <|
       .region [⟨some 9, .mv (.tmp 4), none⟩,
         ⟨some 10, .bin .add (.tmp 9) (.const (.int .i64 (1))), none⟩,
         ⟨some 4, .mv (.tmp 10), none⟩] [0, 3, 4]))) <|
  .seq (.region [⟨some 18, .mv (.tmp 3), none⟩,
     ⟨some 2, .mv (.tmp 18), none⟩] [2]) <|
  .ret
theorem Cd.spec_SumOfTotals_rs : Try.f22.results.toList = [.tmp 2] := rfl
theorem Cd.spec_SumOfTotals_nt : Try.f22.ntmps = 19 := rfl
theorem Cd.spec_SumOfTotals_ok : CodeIsR Try.prog 22 Try.f22 Cd.spec_SumOfTotals := ⟨Try.func22, by kernel_rfl, by decide +kernel⟩
/-- loop.example/g01012/laws.toTotalS -/
def Cd.laws_toTotalS : ACode :=
  .seq (.region [⟨some 2, .mv (.const (.slice none 0 0)), none⟩] [0]) <|
  .seq (.region [⟨some 5, .mv (.tmp 0), none⟩,
     ⟨some 6, .len (.tmp 5), none⟩,
     ⟨some 7, .mk 2 24 [.v (.string ⟨#[]⟩), .v (.int .i64 (0))] (.tmp 6), none⟩,
     ⟨some 3, .mv (.tmp 7), none⟩] [0, 3]) <|
  .seq (.seq (.region [⟨some 4, .mv (.const (.int .i64 (0))), none⟩] [0, 3, 4]) <|
   .block 0 (
     .loop (
       .seq (.seq (.region [⟨some 8, .mv (.tmp 4), none⟩,
           ⟨some 9, .mv (.tmp 0), none⟩,
           ⟨some 10, .len (.tmp 9), none⟩,
           ⟨some 11, .bin .lss (.tmp 8) (.tmp 10), none⟩] [0, 3, 4, 11]) <|
        .cond (.tmp 11)
          (.skip)
          (.exit 0)) <|
       .seq (.block 1 (
          .region [⟨some 14, .mv (.tmp 3), none⟩,
            ⟨some 15, .mv (.tmp 4), none⟩,
            ⟨some 16, .mv (.tmp 0), none⟩,
            ⟨some 17, .mv (.tmp 4), none⟩,
            ⟨some 18, .idxSl 2 (.tmp 16) (.tmp 17), none⟩,
            ⟨some 19, .load true 2 (.tmp 18), none⟩,
            ⟨some 20, .call (.func F.laws_toTotal) [(.tmp 19)] [], none⟩,
            ⟨some 21, .idxSl 2 (.tmp 14) (.tmp 15), none⟩,
            ⟨none, .store 2 (.tmp 21) (.tmp 20), none⟩] [0, 3, 4])) <|
       .region [⟨some 12, .mv (.tmp 4), none⟩,
         ⟨some 13, .bin .add (.tmp 12) (.const (.int .i64 (1))), none⟩,
         ⟨some 4, .mv (.tmp 13), none⟩] [0, 3, 4]))) <|
  .seq (.region [⟨some 22, .mv (.tmp 3), none⟩,
     ⟨some 2, .mv (.tmp 22), none⟩] [2]) <|
  .ret
theorem Cd.laws_toTotalS_rs : Try.f23.results.toList = [.tmp 2] := rfl
theorem Cd.laws_toTotalS_nt : Try.f23.ntmps = 23 := rfl
theorem Cd.laws_toTotalS_ok : CodeIsR Try.prog 23 Try.f23 Cd.laws_toTotalS := ⟨Try.func23, by kernel_rfl, by decide +kernel⟩
/-- loop.example/g01012/impl.SumOfTotals -/
def Cd.impl_SumOfTotals : ACode :=
  .seq (.region [⟨some 2, .mv (.const (.int .i64 (0))), none⟩] [0]) <|
  .seq (.region [⟨some 3, .mv (.const (.int .i64 (0))), none⟩] [0, 3]) <|
  .seq (.seq (.region [⟨some 6, .mv (.tmp 0), none⟩,
      ⟨some 7, .len (.tmp 6), none⟩,
      ⟨some 8, .mv (.const (.int .i64 (0))), none⟩] [3, 6, 7, 8]) <|
   .block 0 (
     .loop (
       .seq (.region [⟨some 9, .bin .lss (.tmp 8) (.tmp 7), none⟩] [3, 6, 7, 8, 9]) <|
       .seq (.cond (.tmp 9)
          (.skip)
          (.exit 0)) <|
       .seq (.block 1 (
          .seq (.region [⟨some 10, .idxSl 2 (.tmp 6) (.tmp 8), none⟩,
             ⟨some 11, .load true 2 (.tmp 10), none⟩,
             ⟨some 5, .alloc [.v (.string ⟨#[]⟩), .v (.int .i64 (0))], none⟩,
             ⟨none, .store 2 (.tmp 5) (.tmp 11), none⟩] [3, 5, 6, 7, 8]) <|
          .region [⟨some 12, .mv (.tmp 3), none⟩,
            ⟨some 13, .fieldAddr 1 (.tmp 5), none⟩,
            ⟨some 14, .load false 1 (.tmp 13), none⟩,
            ⟨some 15, .bin .add (.tmp 12) (.tmp 14), none⟩,
            ⟨some 3, .mv (.tmp 15), none⟩] [3, 6, 7, 8])) <|
       .region [⟨some 16, .bin .add (.tmp 8) (.const (.int .i64 (1))), none⟩,
         ⟨some 8, .mv (.tmp 16), none⟩] [3, 6, 7, 8]))) <|
  .seq (.region [⟨some 17, .mv (.tmp 3), none⟩,
     ⟨some 2, .mv (.tmp 17), none⟩] [2]) <|
  .ret
theorem Cd.impl_SumOfTotals_rs : Try.f24.results.toList = [.tmp 2] := rfl
theorem Cd.impl_SumOfTotals_nt : Try.f24.ntmps = 18 := rfl
theorem Cd.impl_SumOfTotals_ok : CodeIsR Try.prog 24 Try.f24 Cd.impl_SumOfTotals := ⟨Try.func24, by kernel_rfl, by decide +kernel⟩
/-- loop.example/g01012/laws.eqTotalS DRAWS -/
def Cd.laws_eqTotalS : ACode :=
  .seq (.region [⟨some 4, .mv (.const (.bool false)), none⟩] [0, 1]) <|
  .seq (.seq (.region [⟨some 6, .mv (.tmp 0), none⟩,
      ⟨some 7, .len (.tmp 6), none⟩,
      ⟨some 8, .mv (.tmp 1), none⟩,
      ⟨some 9, .len (.tmp 8), none⟩,
      ⟨some 10, .bin .neq (.tmp 7) (.tmp 9), none⟩] [0, 1, 10]) <|
   .cond (.tmp 10)
     (.seq (.region [⟨some 4, .mv (.const (.bool false)), none⟩] [4]) <|
     .ret)
     (.skip)) <|
  .seq (.seq (.region [⟨some 5, .mv (.const (.int .i64 (0))), none⟩] [0, 1, 5]) <|
   .block 0 (
     .loop (
       .seq (.seq (.region [⟨some 11, .mv (.tmp 5), none⟩,
           ⟨some 12, .mv (.tmp 0), none⟩,
           ⟨some 13, .len (.tmp 12), none⟩,
           ⟨some 14, .bin .lss (.tmp 11) (.tmp 13), none⟩] [0, 1, 5, 14]) <|
        .cond (.tmp 14)
          (.skip)
          (.exit 0)) <|
       .seq (.block 1 (
          .seq (.region [⟨some 17, .mv (.tmp 0), none⟩,
             ⟨some 18, .mv (.tmp 5), none⟩,
             ⟨some 19, .idxSl 2 (.tmp 17) (.tmp 18), none⟩,
             ⟨some 20, .load true 2 (.tmp 19), none⟩,
             ⟨some 21, .mv (.tmp 1), none⟩,
             ⟨some 22, .mv (.tmp 5), none⟩,
             ⟨some 23, .idxSl 2 (.tmp 21) (.tmp 22), none⟩,
             ⟨some 24, .load true 2 (.tmp 23), none⟩,
             ⟨some 25, .call (.func F.laws_eqTotal) [(.tmp 20), (.tmp 24)] [], none⟩,
             ⟨some 26, .un .not (.tmp 25), none⟩] [0, 1, 5, 26]) <|
          .cond (.tmp 26)
            (.seq (.region [⟨some 4, .mv (.const (.bool false)), none⟩] [4]) <|
            .ret)
            (.skip))) <|
       .region [⟨some 15, .mv (.tmp 5), none⟩,
         ⟨some 16, .bin .add (.tmp 15) (.const (.int .i64 (1))), none⟩,
         ⟨some 5, .mv (.tmp 16), none⟩] [0, 1, 5]))) <|
  .seq (.region [⟨some 4, .mv (.const (.bool true)), none⟩] [4]) <|
  .ret
theorem Cd.laws_eqTotalS_rs : Try.f25.results.toList = [.tmp 4] := rfl
theorem Cd.laws_eqTotalS_nt : Try.f25.ntmps = 27 := rfl
theorem Cd.laws_eqTotalS_ok : CodeIsR Try.prog 25 Try.f25 Cd.laws_eqTotalS := ⟨Try.func25, by kernel_rfl, by decide +kernel⟩
/-- loop.example/g01012/spec.TotalNamed -/
def Cd.spec_TotalNamed : ACode :=
  .seq (.region [⟨some 4, .mv (.const (.int .i64 (0))), none⟩,
     ⟨some 5, .mv (.const (.int .i64 (0))), none⟩] [0, 1]) <|
  .seq (.seq (.region [⟨some 6, .mv (.const (.int .i64 (0))), none⟩] [0, 1, 6]) <|
   .block 0 (
     .loop (
       .seq (.seq (.region [⟨some 7, .mv (.tmp 6), none⟩,
           ⟨some 8, .mv (.tmp 0), none⟩,
           ⟨some 9, .len (.tmp 8), none⟩,
           ⟨some 10, .bin .lss (.tmp 7) (.tmp 9), none⟩] [0, 1, 6, 10]) <|
        .cond (.tmp 10)
          (.skip)
          (.exit 0)) <|
       .seq (.block 1 (
          .seq (.region [⟨some 13, .mv (.tmp 0), none⟩,
             ⟨some 14, .mv (.tmp 6), none⟩,
             ⟨some 15, .idxSl 2 (.tmp 13) (.tmp 14), none⟩,
             ⟨some 16, .fieldAddr 0 (.tmp 15), none⟩,
             ⟨some 17, .load false 1 (.tmp 16), none⟩,
             ⟨some 18, .mv (.tmp 1), none⟩,
             ⟨some 19, .binS .eql (.tmp 17) (.tmp 18), none⟩] [0, 1, 6, 19]) <|
          .cond (.tmp 19)
            (.seq (.region [⟨some 20, .mv (.tmp 0), none⟩,
               ⟨some 21, .mv (.tmp 6), none⟩,
               ⟨some 22, .idxSl 2 (.tmp 20) (.tmp 21), none⟩,
               ⟨some 23, .fieldAddr 1 (.tmp 22), none⟩,
               ⟨some 24, .load false 1 (.tmp 23), none⟩,
               ⟨some 4, .mv (.tmp 24), none⟩,
               ⟨some 5, .mv (.const (.int .i64 (0))), none⟩] [4, 5]) <|
            .ret)
            (.skip))) <|
       .region [⟨some 11, .mv (.tmp 6), none⟩,
         ⟨some 12, .bin .add (.tmp 11) (.const (.int .i64 (1))), none⟩,
         ⟨some 6, .mv (.tmp 12), none⟩] [0, 1, 6]))) <|
  .seq (.region [⟨some 4, .mv (.const (.int .i64 (0))), none⟩,
     ⟨some 5, .mv (.const (.int .i64 (3))), none⟩] [4, 5]) <|
  .ret
theorem Cd.spec_TotalNamed_rs : Try.f26.results.toList = [.tmp 4, .tmp 5] := rfl
theorem Cd.spec_TotalNamed_nt : Try.f26.ntmps = 25 := rfl
theorem Cd.spec_TotalNamed_ok : CodeIsR Try.prog 26 Try.f26 Cd.spec_TotalNamed := ⟨Try.func26, by kernel_rfl, by decide +kernel⟩
/-- loop.example/g01012/impl.TotalNamed -/
def Cd.impl_TotalNamed : ACode :=
  .seq (.region [⟨some 3, .box (.tmp 1), none⟩,
     ⟨some 4, .mv (.const (.int .i64 (0))), none⟩,
     ⟨some 5, .mv (.const (.int .i64 (0))), none⟩] [0, 3]) <|
  .seq (.region [⟨some 7, .mv (.tmp 0), none⟩,
     ⟨some 8, .mkfn F.impl_TotalNamed_1 [(.tmp 3)], none⟩,
     ⟨some 9, .call (.func F.slices_IndexFunc___impl_Total_impl_Total_) [(.tmp 7), (.tmp 8)] [], none⟩,
     ⟨some 6, .mv (.tmp 9), none⟩] [0, 6]) <|
  .seq (.seq (.region [⟨some 10, .mv (.tmp 6), none⟩,
      ⟨some 11, .bin .lss (.tmp 10) (.const (.int .i64 (0))), none⟩] [0, 6, 11]) <|
   .cond (.tmp 11)
     (.seq (.region [⟨some 4, .mv (.const (.int .i64 (0))), none⟩,
        ⟨some 5, .mv (.const (.int .i64 (3))), none⟩] [4, 5]) <|
     .ret)
     (.skip)) <|
  .seq (.region [⟨some 12, .mv (.tmp 0), none⟩,
     ⟨some 13, .mv (.tmp 6), none⟩,
     ⟨some 14, .idxSl 2 (.tmp 12) (.tmp 13), none⟩,
     ⟨some 15, .fieldAddr 1 (.tmp 14), none⟩,
     ⟨some 16, .load false 1 (.tmp 15), none⟩,
     ⟨some 4, .mv (.tmp 16), none⟩,
     ⟨some 5, .mv (.const (.int .i64 (0))), none⟩] [4, 5]) <|
  .ret
theorem Cd.impl_TotalNamed_rs : Try.f27.results.toList = [.tmp 4, .tmp 5] := rfl
theorem Cd.impl_TotalNamed_nt : Try.f27.ntmps = 17 := rfl
theorem Cd.impl_TotalNamed_ok : CodeIsR Try.prog 27 Try.f27 Cd.impl_TotalNamed := ⟨Try.func27, by kernel_rfl, by decide +kernel⟩
/-- loop.example/g01012/spec.l19Ok -/
def Cd.spec_l19Ok : ACode :=
  .seq (.region [⟨some 2, .mv (.const (.bool false)), none⟩] [0]) <|
  .seq (.seq (.region [⟨some 3, .mv (.const (.int .i64 (0))), none⟩] [0, 3]) <|
   .block 0 (
     .loop (
       .seq (.seq (.region [⟨some 4, .mv (.tmp 3), none⟩,
           ⟨some 5, .mv (.tmp 0), none⟩,
           ⟨some 6, .len (.tmp 5), none⟩,
           ⟨some 7, .bin .lss (.tmp 4) (.tmp 6), none⟩] [0, 3, 7]) <|
        .cond (.tmp 7)
          (.skip)
          (.exit 0)) <|
       .seq (.block 1 (
          .seq (.region [⟨some 10, .mv (.tmp 0), none⟩,
             ⟨some 11, .mv (.tmp 3), none⟩,
             ⟨some 12, .idxSl 1 (.tmp 10) (.tmp 11), none⟩,
             ⟨some 13, .load false 1 (.tmp 12), none⟩,
             ⟨some 14, .call (.func F.spec_l00In) [(.tmp 13), (.const (.int .i64 (0))), (.const (.int .i64 (9999)))] [], none⟩,
             ⟨some 15, .un .not (.tmp 14), none⟩] [0, 3, 15]) <|
          .cond (.tmp 15)
            (.seq (.region [⟨some 2, .mv (.const (.bool false)), none⟩] [2]) <|
            .ret)
            (.skip))) <|
       .region [⟨some 8, .mv (.tmp 3), none⟩,
         ⟨some 9, .bin .add (.tmp 8) (.const (.int .i64 (1))), none⟩,
         ⟨some 3, .mv (.tmp 9), none⟩] [0, 3]))) <|
  .seq (.region [⟨some 16, .mv (.tmp 0), none⟩,
     ⟨some 17, .len (.tmp 16), none⟩,
     ⟨some 18, .bin .leq (.tmp 17) (.const (.int .i64 (12))), none⟩,
     ⟨some 2, .mv (.tmp 18), none⟩] [2]) <|
  .ret
theorem Cd.spec_l19Ok_rs : Try.f28.results.toList = [.tmp 2] := rfl
theorem Cd.spec_l19Ok_nt : Try.f28.ntmps = 19 := rfl
theorem Cd.spec_l19Ok_ok : CodeIsR Try.prog 28 Try.f28 Cd.spec_l19Ok := ⟨Try.func28, by kernel_rfl, by decide +kernel⟩
/-- slices.ContainsFunc[[]int64,int64] -/
def Cd.slices_ContainsFunc___int64_int64_ : ACode :=
  .seq (.region [⟨some 4, .mv (.const (.bool false)), none⟩] [0, 1]) <|
  .seq (.region [⟨some 5, .mv (.tmp 0), none⟩,
     ⟨some 6, .mv (.tmp 1), none⟩,
     ⟨some 7, .call (.func F.slices_IndexFunc___int64_int64_) [(.tmp 5), (.tmp 6)] [], none⟩,
     ⟨some 8, .bin .geq (.tmp 7) (.const (.int .i64 (0))), none⟩,
     ⟨some 4, .mv (.tmp 8), none⟩] [4]) <|
  .ret
theorem Cd.slices_ContainsFunc___int64_int64__rs : Try.f29.results.toList = [.tmp 4] := rfl
theorem Cd.slices_ContainsFunc___int64_int64__nt : Try.f29.ntmps = 9 := rfl
theorem Cd.slices_ContainsFunc___int64_int64__ok : CodeIsR Try.prog 29 Try.f29 Cd.slices_ContainsFunc___int64_int64_ := ⟨Try.func29, by kernel_rfl, by decide +kernel⟩
/-- loop.example/g01012/impl.ValidAmounts$1 -/
def Cd.impl_ValidAmounts_1 : ACode :=
  .seq (.region [⟨some 2, .mv (.const (.bool false)), none⟩] [0]) <|
  .seq (.region [⟨some 3, .mv (.tmp 0), none⟩,
     ⟨some 4, .call (.func F.impl_inside) [(.tmp 3), (.const (.int .i64 (0))), (.const (.int .i64 (9999)))] [], none⟩,
     ⟨some 5, .un .not (.tmp 4), none⟩,
     ⟨some 2, .mv (.tmp 5), none⟩] [2]) <|
  .ret
theorem Cd.impl_ValidAmounts_1_rs : Try.f30.results.toList = [.tmp 2] := rfl
theorem Cd.impl_ValidAmounts_1_nt : Try.f30.ntmps = 6 := rfl
theorem Cd.impl_ValidAmounts_1_ok : CodeIsR Try.prog 30 Try.f30 Cd.impl_ValidAmounts_1 := ⟨Try.func30, by kernel_rfl, by decide +kernel⟩
/-- loop.example/g01012/impl.inside -/
def Cd.impl_inside : ACode :=
  .seq (.region [⟨some 6, .mv (.const (.bool false)), none⟩] [0, 1, 2]) <|
  .seq (.region [⟨some 7, .mv (.tmp 0), none⟩,
     ⟨some 8, .mv (.tmp 1), none⟩,
     ⟨some 9, .bin .geq (.tmp 7) (.tmp 8), none⟩,
     ⟨some 10, .mv (.tmp 9), none⟩,
     ⟨some 11, .mv (.tmp 0), some (10, true)⟩,
     ⟨some 12, .mv (.tmp 2), some (10, true)⟩,
     ⟨some 13, .bin .leq (.tmp 11) (.tmp 12), some (10, true)⟩,
     ⟨some 14, .pick (.tmp 10) (.tmp 13) (.const (.bool false)), none⟩,
     ⟨some 6, .mv (.tmp 14), none⟩] [6]) <|
  .ret
theorem Cd.impl_inside_rs : Try.f31.results.toList = [.tmp 6] := rfl
theorem Cd.impl_inside_nt : Try.f31.ntmps = 15 := rfl
theorem Cd.impl_inside_ok : CodeIsR Try.prog 31 Try.f31 Cd.impl_inside := ⟨Try.func31, by kernel_rfl, by decide +kernel⟩
/-- loop.example/g01012/spec.l18Two -/
def Cd.spec_l18Two : ACode :=
  .seq (.region [⟨some 2, .box (.tmp 0), none⟩,
     ⟨some 3, .box (.tmp 1), none⟩,
     ⟨some 4, .mv (.const (.int .i64 (0))), none⟩] [2, 3]) <|
  .seq (.seq (.region [⟨some 5, .load true 3 (.tmp 2), none⟩,
      ⟨some 6, .call (.func F.spec_l18Ok) [(.tmp 5)] [], none⟩,
      ⟨some 7, .un .not (.tmp 6), none⟩,
      ⟨some 8, .mv (.tmp 7), none⟩,
      ⟨some 9, .load true 3 (.tmp 3), some (8, false)⟩,
      ⟨some 10, .call (.func F.spec_l18Ok) [(.tmp 9)] [], some (8, false)⟩,
      ⟨some 11, .un .not (.tmp 10), some (8, false)⟩,
      ⟨some 12, .pick (.tmp 8) (.const (.bool true)) (.tmp 11), none⟩] [12]) <|
   .cond (.tmp 12)
     (.seq (.region [⟨some 4, .mv (.const (.int .i64 (1))), none⟩] [4]) <|
     .ret)
     (.skip)) <|
  .seq (.region [⟨some 4, .mv (.const (.int .i64 (0))), none⟩] [4]) <|
  .ret
theorem Cd.spec_l18Two_rs : Try.f32.results.toList = [.tmp 4] := rfl
theorem Cd.spec_l18Two_nt : Try.f32.ntmps = 13 := rfl
theorem Cd.spec_l18Two_ok : CodeIsR Try.prog 32 Try.f32 Cd.spec_l18Two := ⟨Try.func32, by kernel_rfl, by decide +kernel⟩
/-- loop.example/g01012/spec.l18Ok -/
def Cd.spec_l18Ok : ACode :=
  .seq (.region [⟨some 1, .box (.tmp 0), none⟩,
     ⟨some 2, .mv (.const (.bool false)), none⟩] [1]) <|
  .seq (.region [⟨some 3, .fieldAddr 0 (.tmp 1), none⟩,
     ⟨some 4, .load false 1 (.tmp 3), none⟩,
     ⟨some 5, .call (.func F.spec_l00In) [(.tmp 4), (.const (.int .i64 (0))), (.const (.int .i64 (1000000)))] [], none⟩,
     ⟨some 6, .mv (.tmp 5), none⟩,
     ⟨some 7, .fieldAddr 1 (.tmp 1), some (6, true)⟩,
     ⟨some 8, .load false 1 (.tmp 7), some (6, true)⟩,
     ⟨some 9, .call (.func F.spec_l00In) [(.tmp 8), (.const (.int .i64 (-1000000000000000))), (.const (.int .i64 (1000000000000000)))] [], some (6, true)⟩,
     ⟨some 10, .pick (.tmp 6) (.tmp 9) (.const (.bool false)), none⟩,
     ⟨some 11, .mv (.tmp 10), none⟩,
     ⟨some 12, .fieldAddr 2 (.tmp 1), some (11, true)⟩,
     ⟨some 13, .load false 1 (.tmp 12), some (11, true)⟩,
     ⟨some 14, .call (.func F.spec_l00In) [(.tmp 13), (.const (.int .i64 (0))), (.const (.int .i64 (1000000000)))] [], some (11, true)⟩,
     ⟨some 15, .pick (.tmp 11) (.tmp 14) (.const (.bool false)), none⟩,
     ⟨some 2, .mv (.tmp 15), none⟩] [2]) <|
  .ret
theorem Cd.spec_l18Ok_rs : Try.f33.results.toList = [.tmp 2] := rfl
theorem Cd.spec_l18Ok_nt : Try.f33.ntmps = 16 := rfl
theorem Cd.spec_l18Ok_ok : CodeIsR Try.prog 33 Try.f33 Cd.spec_l18Ok := ⟨Try.func33, by kernel_rfl, by decide +kernel⟩
/-- loop.example/g01012/impl.joinedControls -/
def Cd.impl_joinedControls : ACode :=
  .seq (.region [⟨some 3, .box (.tmp 0), none⟩,
     ⟨some 4, .box (.tmp 1), none⟩,
     ⟨some 6, .alloc [.v (.int .i64 (0)), .v (.int .i64 (0)), .v (.int .i64 (0))], none⟩,
     ⟨some 7, .mv (.const (.int .i64 (0))), none⟩] [2, 3, 4, 6]) <|
  .seq (.seq (.region [⟨some 9, .load true 3 (.tmp 3), none⟩,
      ⟨some 10, .call (.func F.impl_isPlainControl) [(.tmp 9)] [], none⟩,
      ⟨some 11, .un .not (.tmp 10), none⟩,
      ⟨some 12, .mv (.tmp 11), none⟩,
      ⟨some 13, .load true 3 (.tmp 4), some (12, false)⟩,
      ⟨some 14, .call (.func F.impl_isPlainControl) [(.tmp 13)] [], some (12, false)⟩,
      ⟨some 15, .un .not (.tmp 14), some (12, false)⟩,
      ⟨some 16, .pick (.tmp 12) (.const (.bool true)) (.tmp 15), none⟩] [2, 3, 4, 6, 16]) <|
   .cond (.tmp 16)
     (.seq (.region [⟨some 17, .build [.v (.int .i64 (0)), .v (.int .i64 (0)), .v (.int .i64 (0))] [], none⟩,
        ⟨none, .store 3 (.tmp 6) (.tmp 17), none⟩,
        ⟨some 7, .mv (.const (.int .i64 (1))), none⟩] [6, 7]) <|
     .ret)
     (.skip)) <|
  .seq (.region [⟨some 18, .load true 3 (.tmp 3), none⟩,
     ⟨some 19, .load true 3 (.tmp 4), none⟩,
     ⟨some 20, .mv (.tmp 2), none⟩,
     ⟨some 21, .call (.func F._impl_Control__plus) [(.tmp 18), (.tmp 19), (.tmp 20)] [], none⟩,
     ⟨some 8, .alloc [.v (.int .i64 (0)), .v (.int .i64 (0)), .v (.int .i64 (0))], none⟩,
     ⟨none, .store 3 (.tmp 8) (.tmp 21), none⟩] [6, 8]) <|
  .seq (.seq (.region [⟨some 22, .load true 3 (.tmp 8), none⟩,
      ⟨some 23, .call (.func F.impl_isPlainControl) [(.tmp 22)] [], none⟩,
      ⟨some 24, .un .not (.tmp 23), none⟩] [6, 8, 24]) <|
   .cond (.tmp 24)
     (.seq (.region [⟨some 25, .build [.v (.int .i64 (0)), .v (.int .i64 (0)), .v (.int .i64 (0))] [], none⟩,
        ⟨none, .store 3 (.tmp 6) (.tmp 25), none⟩,
        ⟨some 7, .mv (.const (.int .i64 (5))), none⟩] [6, 7]) <|
     .ret)
     (.skip)) <|
  .seq (.region [⟨some 26, .load true 3 (.tmp 8), none⟩,
     ⟨none, .store 3 (.tmp 6) (.tmp 26), none⟩,
     ⟨some 7, .mv (.const (.int .i64 (0))), none⟩] [6, 7]) <|
  .ret
theorem Cd.impl_joinedControls_rs : Try.f34.results.toList = [.cell 6 29, .tmp 7] := rfl
theorem Cd.impl_joinedControls_nt : Try.f34.ntmps = 27 := rfl
theorem Cd.impl_joinedControls_ok : CodeIsR Try.prog 34 Try.f34 Cd.impl_joinedControls := ⟨Try.func34, by kernel_rfl, by decide +kernel⟩
/-- loop.example/g01012/laws.szTotal -/
def Cd.laws_szTotal : ACode :=
  .seq (.region [⟨some 2, .box (.tmp 0), none⟩,
     ⟨some 4, .mv (.const (.int .i64 (0))), none⟩] [1, 2]) <|
  .seq (.region [⟨some 5, .mv (.tmp 1), none⟩,
     ⟨some 6, .fieldAddr 0 (.tmp 2), none⟩,
     ⟨some 7, .load false 1 (.tmp 6), none⟩,
     ⟨some 8, .lenS (.tmp 7), none⟩,
     ⟨some 9, .bin .sub (.tmp 5) (.tmp 8), none⟩,
     ⟨some 1, .mv (.tmp 9), none⟩] [1]) <|
  .seq (.seq (.region [⟨some 10, .mv (.tmp 1), none⟩,
      ⟨some 11, .bin .lss (.tmp 10) (.const (.int .i64 (0))), none⟩] [1, 11]) <|
   .cond (.tmp 11)
     (.seq (.region [⟨some 4, .mv (.const (.int .i64 (-1))), none⟩] [4]) <|
     .ret)
     (.skip)) <|
  .seq (.region [⟨some 12, .mv (.tmp 1), none⟩,
     ⟨some 4, .mv (.tmp 12), none⟩] [4]) <|
  .ret
theorem Cd.laws_szTotal_rs : Try.f35.results.toList = [.tmp 4] := rfl
theorem Cd.laws_szTotal_nt : Try.f35.ntmps = 13 := rfl
theorem Cd.laws_szTotal_ok : CodeIsR Try.prog 35 Try.f35 Cd.laws_szTotal := ⟨Try.func35, by kernel_rfl, by decide +kernel⟩
/-- loop.example/g01012/laws.toTotal -/
def Cd.laws_toTotal : ACode :=
  .seq (.region [⟨some 1, .box (.tmp 0), none⟩,
     ⟨some 2, .alloc [.v (.string ⟨#[]⟩), .v (.int .i64 (0))], none⟩] [1, 2]) <|
  .seq (.region [⟨some 3, .alloc [.v (.string ⟨#[]⟩), .v (.int .i64 (0))], none⟩] [1, 2, 3]) <|
  .seq (.region [⟨some 4, .fieldAddr 0 (.tmp 1), none⟩,
     ⟨some 5, .load false 1 (.tmp 4), none⟩,
     ⟨some 6, .fieldAddr 0 (.tmp 3), none⟩,
     ⟨none, .store 1 (.tmp 6) (.tmp 5), none⟩] [1, 2, 3]) <|
  .seq (.region [⟨some 7, .fieldAddr 1 (.tmp 1), none⟩,
     ⟨some 8, .load false 1 (.tmp 7), none⟩,
     ⟨some 9, .fieldAddr 1 (.tmp 3), none⟩,
     ⟨none, .store 1 (.tmp 9) (.tmp 8), none⟩] [2, 3]) <|
  .seq (.region [⟨some 10, .load true 2 (.tmp 3), none⟩,
     ⟨none, .store 2 (.tmp 2) (.tmp 10), none⟩] [2]) <|
  .ret
theorem Cd.laws_toTotal_rs : Try.f36.results.toList = [.cell 2 53] := rfl
theorem Cd.laws_toTotal_nt : Try.f36.ntmps = 11 := rfl
theorem Cd.laws_toTotal_ok : CodeIsR Try.prog 36 Try.f36 Cd.laws_toTotal := ⟨Try.func36, by kernel_rfl, by decide +kernel⟩
/-- loop.example/g01012/laws.eqTotal -/
def Cd.laws_eqTotal : ACode :=
  .seq (.region [⟨some 2, .box (.tmp 0), none⟩,
     ⟨some 3, .box (.tmp 1), none⟩,
     ⟨some 4, .mv (.const (.bool false)), none⟩] [2, 3]) <|
  .seq (.seq (.region [⟨some 5, .fieldAddr 0 (.tmp 2), none⟩,
      ⟨some 6, .load false 1 (.tmp 5), none⟩,
      ⟨some 7, .fieldAddr 0 (.tmp 3), none⟩,
      ⟨some 8, .load false 1 (.tmp 7), none⟩,
      ⟨some 9, .binS .neq (.tmp 6) (.tmp 8), none⟩] [2, 3, 9]) <|
   .cond (.tmp 9)
     (.seq (.region [⟨some 4, .mv (.const (.bool false)), none⟩] [4]) <|
     .ret)
     (.skip)) <|
  .seq (.seq (.region [⟨some 10, .fieldAddr 1 (.tmp 2), none⟩,
      ⟨some 11, .load false 1 (.tmp 10), none⟩,
      ⟨some 12, .fieldAddr 1 (.tmp 3), none⟩,
      ⟨some 13, .load false 1 (.tmp 12), none⟩,
      ⟨some 14, .bin .neq (.tmp 11) (.tmp 13), none⟩] [14]) <|
   .cond (.tmp 14)
     (.seq (.region [⟨some 4, .mv (.const (.bool false)), none⟩] [4]) <|
     .ret)
     (.skip)) <|
  .seq (.region [⟨some 4, .mv (.const (.bool true)), none⟩] [4]) <|
  .ret
theorem Cd.laws_eqTotal_rs : Try.f37.results.toList = [.tmp 4] := rfl
theorem Cd.laws_eqTotal_nt : Try.f37.ntmps = 15 := rfl
theorem Cd.laws_eqTotal_ok : CodeIsR Try.prog 37 Try.f37 Cd.laws_eqTotal := ⟨Try.func37, by kernel_rfl, by decide +kernel⟩
/-- slices.IndexFunc[[]loop.example/g01012/impl.Total,loop.example/g01012/impl.Total] -/
def Cd.slices_IndexFunc___impl_Total_impl_Total_ : ACode :=
  .seq (.region [⟨some 4, .mv (.const (.int .i64 (0))), none⟩] [0, 1]) <|
  .seq (.seq (.region [⟨some 6, .mv (.tmp 0), none⟩,
      ⟨some 7, .len (.tmp 6), none⟩,
      ⟨some 8, .mv (.const (.int .i64 (0))), none⟩] [0, 1, 7, 8]) <|
   .block 0 (
     .loop (
       .seq (.region [⟨some 9, .bin .lss (.tmp 8) (.tmp 7), none⟩] [0, 1, 7, 8, 9]) <|
       .seq (.cond (.tmp 9)
          (.skip)
          (.exit 0)) <|
       .seq (.block 1 (
          .seq (.region [⟨some 10, .mv (.tmp 8), none⟩,
             ⟨some 5, .mv (.tmp 10), none⟩] [0, 1, 5, 7, 8]) <|
          .seq (.region [⟨some 11, .mv (.tmp 1), none⟩,
             ⟨some 12, .mv (.tmp 0), none⟩,
             ⟨some 13, .mv (.tmp 5), none⟩,
             ⟨some 14, .idxSl 2 (.tmp 12) (.tmp 13), none⟩,
             ⟨some 15, .load true 2 (.tmp 14), none⟩,
             ⟨some 16, .call (.tmp 11) [(.tmp 15)] [], none⟩] [0, 1, 5, 7, 8, 16]) <|
          .cond (.tmp 16)
            (.seq (.region [⟨some 17, .mv (.tmp 5), none⟩,
               ⟨some 4, .mv (.tmp 17), none⟩] [4]) <|
            .ret)
            (.skip))) <|
       .region [⟨some 18, .bin .add (.tmp 8) (.const (.int .i64 (1))), none⟩,
         ⟨some 8, .mv (.tmp 18), none⟩] [0, 1, 7, 8]))) <|
  .seq (.region [⟨some 4, .mv (.const (.int .i64 (-1))), none⟩] [4]) <|
  .ret
theorem Cd.slices_IndexFunc___impl_Total_impl_Total__rs : Try.f38.results.toList = [.tmp 4] := rfl
theorem Cd.slices_IndexFunc___impl_Total_impl_Total__nt : Try.f38.ntmps = 19 := rfl
theorem Cd.slices_IndexFunc___impl_Total_impl_Total__ok : CodeIsR Try.prog 38 Try.f38 Cd.slices_IndexFunc___impl_Total_impl_Total_ := ⟨Try.func38, by kernel_rfl, by decide +kernel⟩
/-- loop.example/g01012/impl.TotalNamed$1 -/
def Cd.impl_TotalNamed_1 : ACode :=
  .seq (.region [⟨some 2, .box (.tmp 0), none⟩,
     ⟨some 3, .mv (.const (.bool false)), none⟩] [1, 2]) <|
  .seq (.region [⟨some 4, .fieldAddr 0 (.tmp 2), none⟩,
     ⟨some 5, .load false 1 (.tmp 4), none⟩,
     ⟨some 6, .load false 1 (.tmp 1), none⟩,
     ⟨some 7, .binS .eql (.tmp 5) (.tmp 6), none⟩,
     ⟨some 3, .mv (.tmp 7), none⟩] [3]) <|
  .ret
theorem Cd.impl_TotalNamed_1_rs : Try.f39.results.toList = [.tmp 3] := rfl
theorem Cd.impl_TotalNamed_1_nt : Try.f39.ntmps = 8 := rfl
theorem Cd.impl_TotalNamed_1_ok : CodeIsR Try.prog 39 Try.f39 Cd.impl_TotalNamed_1 := ⟨Try.func39, by kernel_rfl, by decide +kernel⟩
/-- loop.example/g01012/spec.l00In -/
def Cd.spec_l00In : ACode :=
  .seq (.region [⟨some 6, .mv (.const (.bool false)), none⟩] [0, 1, 2]) <|
  .seq (.region [⟨some 7, .mv (.tmp 0), none⟩,
     ⟨some 8, .mv (.tmp 1), none⟩,
     ⟨some 9, .bin .geq (.tmp 7) (.tmp 8), none⟩,
     ⟨some 10, .mv (.tmp 9), none⟩,
     ⟨some 11, .mv (.tmp 0), some (10, true)⟩,
     ⟨some 12, .mv (.tmp 2), some (10, true)⟩,
     ⟨some 13, .bin .leq (.tmp 11) (.tmp 12), some (10, true)⟩,
     ⟨some 14, .pick (.tmp 10) (.tmp 13) (.const (.bool false)), none⟩,
     ⟨some 6, .mv (.tmp 14), none⟩] [6]) <|
  .ret
theorem Cd.spec_l00In_rs : Try.f40.results.toList = [.tmp 6] := rfl
theorem Cd.spec_l00In_nt : Try.f40.ntmps = 15 := rfl
theorem Cd.spec_l00In_ok : CodeIsR Try.prog 40 Try.f40 Cd.spec_l00In := ⟨Try.func40, by kernel_rfl, by decide +kernel⟩
/-- slices.IndexFunc[[]int64,int64] -/
def Cd.slices_IndexFunc___int64_int64_ : ACode :=
  .seq (.region [⟨some 4, .mv (.const (.int .i64 (0))), none⟩] [0, 1]) <|
  .seq (.seq (.region [⟨some 6, .mv (.tmp 0), none⟩,
      ⟨some 7, .len (.tmp 6), none⟩,
      ⟨some 8, .mv (.const (.int .i64 (0))), none⟩] [0, 1, 7, 8]) <|
   .block 0 (
     .loop (
       .seq (.region [⟨some 9, .bin .lss (.tmp 8) (.tmp 7), none⟩] [0, 1, 7, 8, 9]) <|
       .seq (.cond (.tmp 9)
          (.skip)
          (.exit 0)) <|
       .seq (.block 1 (
          .seq (.region [⟨some 10, .mv (.tmp 8), none⟩,
             ⟨some 5, .mv (.tmp 10), none⟩] [0, 1, 5, 7, 8]) <|
          .seq (.region [⟨some 11, .mv (.tmp 1), none⟩,
             ⟨some 12, .mv (.tmp 0), none⟩,
             ⟨some 13, .mv (.tmp 5), none⟩,
             ⟨some 14, .idxSl 1 (.tmp 12) (.tmp 13), none⟩,
             ⟨some 15, .load false 1 (.tmp 14), none⟩,
             ⟨some 16, .call (.tmp 11) [(.tmp 15)] [], none⟩] [0, 1, 5, 7, 8, 16]) <|
          .cond (.tmp 16)
            (.seq (.region [⟨some 17, .mv (.tmp 5), none⟩,
               ⟨some 4, .mv (.tmp 17), none⟩] [4]) <|
            .ret)
            (.skip))) <|
       .region [⟨some 18, .bin .add (.tmp 8) (.const (.int .i64 (1))), none⟩,
         ⟨some 8, .mv (.tmp 18), none⟩] [0, 1, 7, 8]))) <|
  .seq (.region [⟨some 4, .mv (.const (.int .i64 (-1))), none⟩] [4]) <|
  .ret
theorem Cd.slices_IndexFunc___int64_int64__rs : Try.f41.results.toList = [.tmp 4] := rfl
theorem Cd.slices_IndexFunc___int64_int64__nt : Try.f41.ntmps = 19 := rfl
theorem Cd.slices_IndexFunc___int64_int64__ok : CodeIsR Try.prog 41 Try.f41 Cd.slices_IndexFunc___int64_int64_ := ⟨Try.func41, by kernel_rfl, by decide +kernel⟩
/-- loop.example/g01012/impl.isPlainControl -/
def Cd.impl_isPlainControl : ACode :=
  .seq (.region [⟨some 1, .box (.tmp 0), none⟩,
     ⟨some 2, .mv (.const (.bool false)), none⟩] [1]) <|
  .seq (.region [⟨some 3, .fieldAddr 0 (.tmp 1), none⟩,
     ⟨some 4, .load false 1 (.tmp 3), none⟩,
     ⟨some 5, .call (.func F.impl_inside) [(.tmp 4), (.const (.int .i64 (0))), (.const (.int .i64 (1000000)))] [], none⟩,
     ⟨some 6, .mv (.tmp 5), none⟩,
     ⟨some 7, .fieldAddr 1 (.tmp 1), some (6, true)⟩,
     ⟨some 8, .load false 1 (.tmp 7), some (6, true)⟩,
     ⟨some 9, .call (.func F.impl_inside) [(.tmp 8), (.const (.int .i64 (-1000000000000000))), (.const (.int .i64 (1000000000000000)))] [], some (6, true)⟩,
     ⟨some 10, .pick (.tmp 6) (.tmp 9) (.const (.bool false)), none⟩,
     ⟨some 11, .mv (.tmp 10), none⟩,
     ⟨some 12, .fieldAddr 2 (.tmp 1), some (11, true)⟩,
     ⟨some 13, .load false 1 (.tmp 12), some (11, true)⟩,
     ⟨some 14, .call (.func F.impl_inside) [(.tmp 13), (.const (.int .i64 (0))), (.const (.int .i64 (1000000000)))] [], some (11, true)⟩,
     ⟨some 15, .pick (.tmp 11) (.tmp 14) (.const (.bool false)), none⟩,
     ⟨some 2, .mv (.tmp 15), none⟩] [2]) <|
  .ret
theorem Cd.impl_isPlainControl_rs : Try.f42.results.toList = [.tmp 2] := rfl
theorem Cd.impl_isPlainControl_nt : Try.f42.ntmps = 16 := rfl
theorem Cd.impl_isPlainControl_ok : CodeIsR Try.prog 42 Try.f42 Cd.impl_isPlainControl := ⟨Try.func42, by kernel_rfl, by decide +kernel⟩
/-- (loop.example/g01012/impl.Control).plus -/
def Cd._impl_Control__plus : ACode :=
  .seq (.region [⟨some 3, .box (.tmp 0), none⟩,
     ⟨some 4, .box (.tmp 1), none⟩,
     ⟨some 6, .alloc [.v (.int .i64 (0)), .v (.int .i64 (0)), .v (.int .i64 (0))], none⟩] [2, 3, 4, 6]) <|
  .seq (.region [⟨some 7, .fieldAddr 0 (.tmp 3), none⟩,
     ⟨some 8, .load false 1 (.tmp 7), none⟩,
     ⟨some 9, .mv (.tmp 2), none⟩,
     ⟨some 10, .fieldAddr 0 (.tmp 4), none⟩,
     ⟨some 11, .load false 1 (.tmp 10), none⟩,
     ⟨some 12, .bin .mul (.tmp 9) (.tmp 11), none⟩,
     ⟨some 13, .bin .add (.tmp 8) (.tmp 12), none⟩,
     ⟨some 14, .fieldAddr 1 (.tmp 3), none⟩,
     ⟨some 15, .load false 1 (.tmp 14), none⟩,
     ⟨some 16, .mv (.tmp 2), none⟩,
     ⟨some 17, .fieldAddr 1 (.tmp 4), none⟩,
     ⟨some 18, .load false 1 (.tmp 17), none⟩,
     ⟨some 19, .bin .mul (.tmp 16) (.tmp 18), none⟩,
     ⟨some 20, .bin .add (.tmp 15) (.tmp 19), none⟩,
     ⟨some 21, .fieldAddr 2 (.tmp 3), none⟩,
     ⟨some 22, .load false 1 (.tmp 21), none⟩,
     ⟨some 23, .mv (.tmp 2), none⟩,
     ⟨some 24, .fieldAddr 2 (.tmp 4), none⟩,
     ⟨some 25, .load false 1 (.tmp 24), none⟩,
     ⟨some 26, .bin .mul (.tmp 23) (.tmp 25), none⟩,
     ⟨some 27, .bin .add (.tmp 22) (.tmp 26), none⟩,
     ⟨some 28, .build [.v (.int .i64 (0)), .v (.int .i64 (0)), .v (.int .i64 (0))] [(0, 1, (.tmp 13)), (1, 1, (.tmp 20)), (2, 1, (.tmp 27))], none⟩,
     ⟨none, .store 3 (.tmp 6) (.tmp 28), none⟩] [6]) <|
  .ret
theorem Cd._impl_Control__plus_rs : Try.f43.results.toList = [.cell 6 29] := rfl
theorem Cd._impl_Control__plus_nt : Try.f43.ntmps = 29 := rfl
theorem Cd._impl_Control__plus_ok : CodeIsR Try.prog 43 Try.f43 Cd._impl_Control__plus := ⟨Try.func43, by kernel_rfl, by decide +kernel⟩
end Go.Proofs.Ytknoeihaonblbaa
