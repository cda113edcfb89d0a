/- The code of each function, resolved. -/
import Derived.Test.YtclfhgcngodljaaVtC
import Derived.Test.YtclfhgcngodljaaRows
namespace Go.Proofs.Ytclfhgcngodljaa
open Go.Vs
set_option maxRecDepth 100000
theorem Try.own : ownKnob Try.prog.godebug = none := by kernel_rfl
theorem Try.laidOut : laidOutB Try.prog = true := by kernel_rfl
theorem Try.mixed : Try.prog.follows .mixedOrders = true := Try.checked.mixed
namespace F
abbrev main_main : FuncId := 0
abbrev gosem_cut : FuncId := 1
abbrev gosem_cut_init : FuncId := 2
abbrev laws_FnExactSameOffice : FuncId := 3
abbrev laws_FnExactValidOffice : FuncId := 4
abbrev laws_szOffice : FuncId := 5
abbrev spec_SameOffice : FuncId := 6
abbrev laws_toOffice : FuncId := 7
abbrev impl_SameOffice : FuncId := 8
abbrev laws_eqOffice : FuncId := 9
abbrev spec_ValidOffice : FuncId := 10
abbrev impl_ValidOffice : FuncId := 11
abbrev laws_szCardSS : FuncId := 12
abbrev laws_szTotalSS : FuncId := 13
abbrev spec_SameDeck : FuncId := 14
abbrev spec_l15Totals : FuncId := 15
abbrev laws_toCardSS : FuncId := 16
abbrev laws_toTotalSS : FuncId := 17
abbrev slices_EqualFunc_____impl_Card_____impl_Card___impl_Card___impl_Card_ : FuncId := 18
abbrev impl_SameDeck : FuncId := 19
abbrev slices_EqualFunc_____impl_Total_____impl_Total___impl_Total___impl_Total_ : FuncId := 20
abbrev slices_Equal___impl_Total_impl_Total_ : FuncId := 21
abbrev laws_eqCardSS : FuncId := 22
abbrev laws_eqTotalSS : FuncId := 23
abbrev spec_l15Ok : FuncId := 24
abbrev impl_ValidDeck : FuncId := 25
abbrev _impl_Card__columns : FuncId := 26
abbrev impl_officeColumns : FuncId := 27
abbrev laws_szCardS : FuncId := 28
abbrev laws_szTotalS : FuncId := 29
abbrev spec_l00Same : FuncId := 30
abbrev laws_toCardS : FuncId := 31
abbrev laws_toTotalS : FuncId := 32
abbrev slices_EqualFunc___impl_Card___impl_Card_impl_Card_impl_Card_ : FuncId := 33
abbrev impl_SameCard : FuncId := 34
abbrev laws_eqCardS : FuncId := 35
abbrev laws_eqTotalS : FuncId := 36
abbrev spec_l02Deck : FuncId := 37
abbrev spec_l15Width : FuncId := 38
abbrev impl_ValidCard : FuncId := 39
abbrev impl_size_int64_ : FuncId := 40
abbrev laws_szCard : FuncId := 41
abbrev laws_szTotal : FuncId := 42
abbrev laws_toCard : FuncId := 43
abbrev laws_toTotal : FuncId := 44
abbrev slices_Equal___int64_int64_ : FuncId := 45
abbrev laws_eqCard : FuncId := 46
abbrev laws_eqTotal : FuncId := 47
abbrev spec_l02Ok : FuncId := 48
abbrev impl_inside : FuncId := 49
abbrev slices_ContainsFunc___int64_int64_ : FuncId := 50
abbrev impl_ValidCard_1 : FuncId := 51
abbrev laws_szInt64S : FuncId := 52
abbrev laws_toInt64S : FuncId := 53
abbrev laws_eqInt64S : FuncId := 54
abbrev spec_l00In : FuncId := 55
abbrev slices_IndexFunc___int64_int64_ : FuncId := 56
abbrev _runtime_boundsError__Error : FuncId := 57
abbrev _runtime_boundsError__RuntimeError : FuncId := 58
abbrev _runtime_errorString__Error : FuncId := 59
abbrev _runtime_errorString__RuntimeError : FuncId := 60
abbrev _runtime_plainError__Error : FuncId := 61
abbrev _runtime_plainError__RuntimeError : FuncId := 62
abbrev _runtime_errorAddressString__Error : FuncId := 63
abbrev _runtime_errorAddressString__RuntimeError : FuncId := 64
abbrev __runtime_TypeAssertionError__Error : FuncId := 65
abbrev __runtime_TypeAssertionError__RuntimeError : FuncId := 66
abbrev __runtime_PanicNilError__Error : FuncId := 67
abbrev __runtime_PanicNilError__RuntimeError : FuncId := 68
abbrev __internal_abi_Type__Align : FuncId := 69
abbrev _internal_runtime_maps_unhashableTypeError__Error : FuncId := 70
abbrev _internal_runtime_maps_unhashableTypeError__RuntimeError : FuncId := 71
abbrev _internal_abi_Kind__String : FuncId := 72
end F
theorem Ld.t31 : ldOf Try.prog 31 = some (true, 2) := by kernel_rfl
theorem Ld.t55 : ldOf Try.prog 55 = some (true, 1) := by kernel_rfl
theorem Ld.t47 : ldOf Try.prog 47 = some (true, 2) := by kernel_rfl
attribute [go_sem] Ld.t31 Ld.t55 Ld.t47
/-- loop.example/g01012/laws.FnExactSameOffice DRAWS -/
def Cd.laws_FnExactSameOffice : ACode :=
  .seq (.region [⟨some 2, .box (.tmp 0), none⟩,
     ⟨some 3, .box (.tmp 1), none⟩,
     ⟨some 4, .mv (.const (.bool false)), none⟩] [2, 3] []) <|
  .seq (.region [⟨some 5, .mv (.const (.int .i64 (1048576))), none⟩] [2, 3, 5] []) <|
  .seq (.region [⟨some 10, .load true 2 (.tmp 2), none⟩,
     ⟨some 11, .mv (.tmp 5), none⟩,
     ⟨some 12, .call (.func F.laws_szOffice) [(.tmp 10), (.tmp 11)] [], none⟩,
     ⟨some 5, .mv (.tmp 12), none⟩] [2, 3, 5] []) <|
  .seq (.seq (.region [⟨some 13, .mv (.tmp 5), none⟩,
      ⟨some 14, .bin .lss (.tmp 13) (.const (.int .i64 (0))), none⟩] [2, 3, 5, 14] []) <|
   .cond (.tmp 14)
     (.seq (.region [⟨some 4, .mv (.const (.bool true)), none⟩] [4] []) <|
     .ret)
     (.skip)) <|
  .seq (.region [⟨some 15, .load true 2 (.tmp 3), none⟩,
     ⟨some 16, .mv (.tmp 5), none⟩,
     ⟨some 17, .call (.func F.laws_szOffice) [(.tmp 15), (.tmp 16)] [], none⟩,
     ⟨some 5, .mv (.tmp 17), none⟩] [2, 3, 5] []) <|
  .seq (.seq (.region [⟨some 18, .mv (.tmp 5), none⟩,
      ⟨some 19, .bin .lss (.tmp 18) (.const (.int .i64 (0))), none⟩] [2, 3, 19] []) <|
   .cond (.tmp 19)
     (.seq (.region [⟨some 4, .mv (.const (.bool true)), none⟩] [4] []) <|
     .ret)
     (.skip)) <|
  .seq (.region [⟨some 20, .load true 2 (.tmp 2), none⟩,
     ⟨some 21, .call (.func F.laws_toOffice) [(.tmp 20)] [], none⟩,
     ⟨some 22, .load true 2 (.tmp 3), none⟩,
     ⟨some 23, .call (.func F.laws_toOffice) [(.tmp 22)] [], none⟩,
     ⟨some 24, .call (.func F.spec_SameOffice) [(.tmp 21), (.tmp 23)] [], none⟩,
     ⟨some 6, .mv (.tmp 24), none⟩] [2, 3, 6] [20, 22, 21, 23, 24]) <|
  .seq (.region [⟨some 25, .load true 2 (.tmp 2), none⟩,
     ⟨some 26, .call (.func F.laws_toOffice) [(.tmp 25)] [], none⟩,
     ⟨some 7, .alloc [.v (.slice none 0 0), .v (.slice none 0 0)], none⟩,
     ⟨none, .store 2 (.tmp 7) (.tmp 26), none⟩] [2, 3, 6, 7] []) <|
  .seq (.region [⟨some 27, .load true 2 (.tmp 3), none⟩,
     ⟨some 28, .call (.func F.laws_toOffice) [(.tmp 27)] [], none⟩,
     ⟨some 8, .alloc [.v (.slice none 0 0), .v (.slice none 0 0)], none⟩,
     ⟨none, .store 2 (.tmp 8) (.tmp 28), none⟩] [2, 3, 6, 7, 8] []) <|
  .seq (.region [⟨some 29, .load true 2 (.tmp 7), none⟩,
     ⟨some 30, .load true 2 (.tmp 8), none⟩,
     ⟨some 31, .call (.func F.impl_SameOffice) [(.tmp 29), (.tmp 30)] [], none⟩,
     ⟨some 9, .mv (.tmp 31), none⟩] [2, 3, 6, 7, 8, 9] []) <|
  .seq (.seq (.region [⟨some 32, .mv (.tmp 9), none⟩,
      ⟨some 33, .mv (.tmp 6), none⟩,
      ⟨some 34, .binB .neq (.tmp 32) (.tmp 33), none⟩] [2, 3, 7, 8, 34] []) <|
   .cond (.tmp 34)
     (.seq (.region [⟨some 4, .mv (.const (.bool false)), none⟩] [4] []) <|
     .ret)
     (.skip)) <|
  .seq (.seq (.region [⟨some 35, .load true 2 (.tmp 7), none⟩,
      ⟨some 36, .load true 2 (.tmp 2), none⟩,
      ⟨some 37, .call (.func F.laws_toOffice) [(.tmp 36)] [], none⟩,
      ⟨some 38, .call (.func F.laws_eqOffice) [(.tmp 35), (.tmp 37)] [], none⟩,
      ⟨some 39, .un .not (.tmp 38), none⟩] [3, 8, 39] [35, 36, 37, 38, 39]) <|
   .cond (.tmp 39)
     (.seq (.region [⟨some 4, .mv (.const (.bool false)), none⟩] [4] []) <|
     .ret)
     (.skip)) <|
  .seq (.seq (.region [⟨some 40, .load true 2 (.tmp 8), none⟩,
      ⟨some 41, .load true 2 (.tmp 3), none⟩,
      ⟨some 42, .call (.func F.laws_toOffice) [(.tmp 41)] [], none⟩,
      ⟨some 43, .call (.func F.laws_eqOffice) [(.tmp 40), (.tmp 42)] [], none⟩,
      ⟨some 44, .un .not (.tmp 43), none⟩] [44] [40, 41, 42, 43, 44]) <|
   .cond (.tmp 44)
     (.seq (.region [⟨some 4, .mv (.const (.bool false)), none⟩] [4] []) <|
     .ret)
     (.skip)) <|
  .seq (.region [⟨some 4, .mv (.const (.bool true)), none⟩] [4] []) <|
  .ret
theorem Cd.laws_FnExactSameOffice_rs : Try.f3.results.toList = [.tmp 4] := rfl
theorem Cd.laws_FnExactSameOffice_nt : Try.f3.ntmps = 45 := rfl
theorem Cd.laws_FnExactSameOffice_ok : CodeIsR Try.prog 3 Try.f3 Cd.laws_FnExactSameOffice := ⟨Try.func3, by kernel_rfl, by decide +kernel⟩
/-- loop.example/g01012/laws.FnExactValidOffice DRAWS -/
def Cd.laws_FnExactValidOffice : ACode :=
  .seq (.region [⟨some 1, .box (.tmp 0), none⟩,
     ⟨some 2, .mv (.const (.bool false)), none⟩] [1] []) <|
  .seq (.region [⟨some 3, .mv (.const (.int .i64 (1048576))), none⟩] [1, 3] []) <|
  .seq (.region [⟨some 7, .load true 2 (.tmp 1), none⟩,
     ⟨some 8, .mv (.tmp 3), none⟩,
     ⟨some 9, .call (.func F.laws_szOffice) [(.tmp 7), (.tmp 8)] [], none⟩,
     ⟨some 3, .mv (.tmp 9), none⟩] [1, 3] []) <|
  .seq (.seq (.region [⟨some 10, .mv (.tmp 3), none⟩,
      ⟨some 11, .bin .lss (.tmp 10) (.const (.int .i64 (0))), none⟩] [1, 11] []) <|
   .cond (.tmp 11)
     (.seq (.region [⟨some 2, .mv (.const (.bool true)), none⟩] [2] []) <|
     .ret)
     (.skip)) <|
  .seq (.region [⟨some 12, .load true 2 (.tmp 1), none⟩,
     ⟨some 13, .call (.func F.laws_toOffice) [(.tmp 12)] [], none⟩,
     ⟨some 14, .call (.func F.spec_ValidOffice) [(.tmp 13)] [], none⟩,
     ⟨some 4, .mv (.tmp 14), none⟩] [1, 4] []) <|
  .seq (.region [⟨some 15, .load true 2 (.tmp 1), none⟩,
     ⟨some 16, .call (.func F.laws_toOffice) [(.tmp 15)] [], none⟩,
     ⟨some 5, .alloc [.v (.slice none 0 0), .v (.slice none 0 0)], none⟩,
     ⟨none, .store 2 (.tmp 5) (.tmp 16), none⟩] [1, 4, 5] []) <|
  .seq (.region [⟨some 17, .load true 2 (.tmp 5), none⟩,
     ⟨some 18, .call (.func F.impl_ValidOffice) [(.tmp 17)] [], none⟩,
     ⟨some 6, .mv (.tmp 18), none⟩] [1, 4, 5, 6] []) <|
  .seq (.seq (.region [⟨some 19, .mv (.tmp 6), none⟩,
      ⟨some 20, .mv (.tmp 4), none⟩,
      ⟨some 21, .binB .neq (.tmp 19) (.tmp 20), none⟩] [1, 5, 21] []) <|
   .cond (.tmp 21)
     (.seq (.region [⟨some 2, .mv (.const (.bool false)), none⟩] [2] []) <|
     .ret)
     (.skip)) <|
  .seq (.seq (.region [⟨some 22, .load true 2 (.tmp 5), none⟩,
      ⟨some 23, .load true 2 (.tmp 1), none⟩,
      ⟨some 24, .call (.func F.laws_toOffice) [(.tmp 23)] [], none⟩,
      ⟨some 25, .call (.func F.laws_eqOffice) [(.tmp 22), (.tmp 24)] [], none⟩,
      ⟨some 26, .un .not (.tmp 25), none⟩] [26] [22, 23, 24, 25, 26]) <|
   .cond (.tmp 26)
     (.seq (.region [⟨some 2, .mv (.const (.bool false)), none⟩] [2] []) <|
     .ret)
     (.skip)) <|
  .seq (.region [⟨some 2, .mv (.const (.bool true)), none⟩] [2] []) <|
  .ret
theorem Cd.laws_FnExactValidOffice_rs : Try.f4.results.toList = [.tmp 2] := rfl
theorem Cd.laws_FnExactValidOffice_nt : Try.f4.ntmps = 27 := rfl
theorem Cd.laws_FnExactValidOffice_ok : CodeIsR Try.prog 4 Try.f4 Cd.laws_FnExactValidOffice := ⟨Try.func4, by kernel_rfl, by decide +kernel⟩
/-- loop.example/g01012/laws.szOffice -/
def Cd.laws_szOffice : ACode :=
  .seq (.region [⟨some 2, .box (.tmp 0), none⟩,
     ⟨some 4, .mv (.const (.int .i64 (0))), none⟩] [1, 2] []) <|
  .seq (.region [⟨some 5, .fieldAddr 0 (.tmp 2), none⟩,
     ⟨some 6, .load false 1 (.tmp 5), none⟩,
     ⟨some 7, .mv (.tmp 1), none⟩,
     ⟨some 8, .call (.func F.laws_szCardSS) [(.tmp 6), (.tmp 7)] [], none⟩,
     ⟨some 1, .mv (.tmp 8), none⟩] [1, 2] []) <|
  .seq (.seq (.region [⟨some 9, .mv (.tmp 1), none⟩,
      ⟨some 10, .bin .lss (.tmp 9) (.const (.int .i64 (0))), none⟩] [1, 2, 10] []) <|
   .cond (.tmp 10)
     (.seq (.region [⟨some 4, .mv (.const (.int .i64 (-1))), none⟩] [4] []) <|
     .ret)
     (.skip)) <|
  .seq (.region [⟨some 11, .fieldAddr 1 (.tmp 2), none⟩,
     ⟨some 12, .load false 1 (.tmp 11), none⟩,
     ⟨some 13, .mv (.tmp 1), none⟩,
     ⟨some 14, .call (.func F.laws_szTotalSS) [(.tmp 12), (.tmp 13)] [], none⟩,
     ⟨some 1, .mv (.tmp 14), none⟩] [1] []) <|
  .seq (.seq (.region [⟨some 15, .mv (.tmp 1), none⟩,
      ⟨some 16, .bin .lss (.tmp 15) (.const (.int .i64 (0))), none⟩] [1, 16] []) <|
   .cond (.tmp 16)
     (.seq (.region [⟨some 4, .mv (.const (.int .i64 (-1))), none⟩] [4] []) <|
     .ret)
     (.skip)) <|
  .seq (.region [⟨some 17, .mv (.tmp 1), none⟩,
     ⟨some 4, .mv (.tmp 17), none⟩] [4] []) <|
  .ret
theorem Cd.laws_szOffice_rs : Try.f5.results.toList = [.tmp 4] := rfl
theorem Cd.laws_szOffice_nt : Try.f5.ntmps = 18 := rfl
theorem Cd.laws_szOffice_ok : CodeIsR Try.prog 5 Try.f5 Cd.laws_szOffice := ⟨Try.func5, by kernel_rfl, by decide +kernel⟩
/-- loop.example/g01012/spec.SameOffice DRAWS -/
def Cd.spec_SameOffice : ACode :=
  .seq (.region [⟨some 2, .box (.tmp 0), none⟩,
     ⟨some 3, .box (.tmp 1), none⟩,
     ⟨some 4, .mv (.const (.bool false)), none⟩] [2, 3] []) <|
  .seq (.seq (.region [⟨some 7, .fieldAddr 0 (.tmp 2), none⟩,
      ⟨some 8, .load false 1 (.tmp 7), none⟩,
      ⟨some 9, .len (.tmp 8), none⟩,
      ⟨some 10, .fieldAddr 0 (.tmp 3), none⟩,
      ⟨some 11, .load false 1 (.tmp 10), none⟩,
      ⟨some 12, .len (.tmp 11), none⟩,
      ⟨some 13, .bin .neq (.tmp 9) (.tmp 12), none⟩,
      ⟨some 14, .mv (.tmp 13), none⟩,
      ⟨some 15, .fieldAddr 1 (.tmp 2), some (14, false)⟩,
      ⟨some 16, .load false 1 (.tmp 15), some (14, false)⟩,
      ⟨some 17, .len (.tmp 16), some (14, false)⟩,
      ⟨some 18, .fieldAddr 1 (.tmp 3), some (14, false)⟩,
      ⟨some 19, .load false 1 (.tmp 18), some (14, false)⟩,
      ⟨some 20, .len (.tmp 19), some (14, false)⟩,
      ⟨some 21, .bin .neq (.tmp 17) (.tmp 20), some (14, false)⟩,
      ⟨some 22, .pick (.tmp 14) (.const (.bool true)) (.tmp 21), none⟩] [2, 3, 22] []) <|
   .cond (.tmp 22)
     (.seq (.region [⟨some 4, .mv (.const (.bool false)), none⟩] [4] []) <|
     .ret)
     (.skip)) <|
  .seq (.seq (.region [⟨some 5, .mv (.const (.int .i64 (0))), none⟩] [2, 3, 5] []) <|
   .block 0 (
     .loop (
       .seq (.seq (.region [⟨some 23, .mv (.tmp 5), none⟩,
           ⟨some 24, .fieldAddr 0 (.tmp 2), none⟩,
           ⟨some 25, .load false 1 (.tmp 24), none⟩,
           ⟨some 26, .len (.tmp 25), none⟩,
           ⟨some 27, .bin .lss (.tmp 23) (.tmp 26), none⟩] [2, 3, 5, 27] []) <|
        .cond (.tmp 27)
          (.skip)
          (.exit 0)) <|
       .seq (.block 1 (
          .seq (.region [⟨some 30, .fieldAddr 0 (.tmp 2), none⟩,
             ⟨some 31, .load false 1 (.tmp 30), none⟩,
             ⟨some 32, .mv (.tmp 5), none⟩,
             ⟨some 33, .idxSl 1 (.tmp 31) (.tmp 32), none⟩,
             ⟨some 34, .load false 1 (.tmp 33), none⟩,
             ⟨some 35, .fieldAddr 0 (.tmp 3), none⟩,
             ⟨some 36, .load false 1 (.tmp 35), none⟩,
             ⟨some 37, .mv (.tmp 5), none⟩,
             ⟨some 38, .idxSl 1 (.tmp 36) (.tmp 37), none⟩,
             ⟨some 39, .load false 1 (.tmp 38), none⟩,
             ⟨some 40, .call (.func F.spec_SameDeck) [(.tmp 34), (.tmp 39)] [], none⟩,
             ⟨some 41, .un .not (.tmp 40), none⟩] [2, 3, 5, 41] [30, 32, 31, 33, 34, 35, 36, 37, 38, 39, 40, 41]) <|
          .cond (.tmp 41)
            (.seq (.region [⟨some 4, .mv (.const (.bool false)), none⟩] [4] []) <|
            .ret)
            (.skip))) <|
       .region [⟨some 28, .mv (.tmp 5), none⟩,
         ⟨some 29, .bin .add (.tmp 28) (.const (.int .i64 (1))), none⟩,
         ⟨some 5, .mv (.tmp 29), none⟩] [2, 3, 5] []))) <|
  .seq (.seq (.region [⟨some 6, .mv (.const (.int .i64 (0))), none⟩] [2, 3, 6] []) <|
   .block 2 (
     .loop (
       .seq (.seq (.region [⟨some 42, .mv (.tmp 6), none⟩,
           ⟨some 43, .fieldAddr 1 (.tmp 2), none⟩,
           ⟨some 44, .load false 1 (.tmp 43), none⟩,
           ⟨some 45, .len (.tmp 44), none⟩,
           ⟨some 46, .bin .lss (.tmp 42) (.tmp 45), none⟩] [2, 3, 6, 46] []) <|
        .cond (.tmp 46)
          (.skip)
          (.exit 2)) <|
       .seq (.block 3 (
          .seq (.region [⟨some 49, .fieldAddr 1 (.tmp 2), none⟩,
             ⟨some 50, .load false 1 (.tmp 49), none⟩,
             ⟨some 51, .mv (.tmp 6), none⟩,
             ⟨some 52, .idxSl 1 (.tmp 50) (.tmp 51), none⟩,
             ⟨some 53, .load false 1 (.tmp 52), none⟩,
             ⟨some 54, .fieldAddr 1 (.tmp 3), none⟩,
             ⟨some 55, .load false 1 (.tmp 54), none⟩,
             ⟨some 56, .mv (.tmp 6), none⟩,
             ⟨some 57, .idxSl 1 (.tmp 55) (.tmp 56), none⟩,
             ⟨some 58, .load false 1 (.tmp 57), none⟩,
             ⟨some 59, .call (.func F.spec_l15Totals) [(.tmp 53), (.tmp 58)] [], none⟩,
             ⟨some 60, .un .not (.tmp 59), none⟩] [2, 3, 6, 60] [49, 51, 50, 52, 53, 54, 55, 56, 57, 58, 59, 60]) <|
          .cond (.tmp 60)
            (.seq (.region [⟨some 4, .mv (.const (.bool false)), none⟩] [4] []) <|
            .ret)
            (.skip))) <|
       .region [⟨some 47, .mv (.tmp 6), none⟩,
         ⟨some 48, .bin .add (.tmp 47) (.const (.int .i64 (1))), none⟩,
         ⟨some 6, .mv (.tmp 48), none⟩] [2, 3, 6] []))) <|
  .seq (.region [⟨some 4, .mv (.const (.bool true)), none⟩] [4] []) <|
  .ret
theorem Cd.spec_SameOffice_rs : Try.f6.results.toList = [.tmp 4] := rfl
theorem Cd.spec_SameOffice_nt : Try.f6.ntmps = 61 := rfl
theorem Cd.spec_SameOffice_ok : CodeIsR Try.prog 6 Try.f6 Cd.spec_SameOffice := ⟨Try.func6, by kernel_rfl, by decide +kernel⟩
/-- loop.example/g01012/laws.toOffice -/
def Cd.laws_toOffice : ACode :=
  .seq (.region [⟨some 1, .box (.tmp 0), none⟩,
     ⟨some 2, .alloc [.v (.slice none 0 0), .v (.slice none 0 0)], none⟩] [1, 2] []) <|
  .seq (.region [⟨some 3, .alloc [.v (.slice none 0 0), .v (.slice none 0 0)], none⟩] [1, 2, 3] []) <|
  .seq (.region [⟨some 4, .fieldAddr 0 (.tmp 1), none⟩,
     ⟨some 5, .load false 1 (.tmp 4), none⟩,
     ⟨some 6, .call (.func F.laws_toCardSS) [(.tmp 5)] [], none⟩,
     ⟨some 7, .fieldAddr 0 (.tmp 3), none⟩,
     ⟨none, .store 1 (.tmp 7) (.tmp 6), none⟩] [1, 2, 3] []) <|
  .seq (.region [⟨some 8, .fieldAddr 1 (.tmp 1), none⟩,
     ⟨some 9, .load false 1 (.tmp 8), none⟩,
     ⟨some 10, .call (.func F.laws_toTotalSS) [(.tmp 9)] [], none⟩,
     ⟨some 11, .fieldAddr 1 (.tmp 3), none⟩,
     ⟨none, .store 1 (.tmp 11) (.tmp 10), none⟩] [2, 3] []) <|
  .seq (.region [⟨some 12, .load true 2 (.tmp 3), none⟩,
     ⟨none, .store 2 (.tmp 2) (.tmp 12), none⟩] [2] []) <|
  .ret
theorem Cd.laws_toOffice_rs : Try.f7.results.toList = [.cell 2 31] := rfl
theorem Cd.laws_toOffice_nt : Try.f7.ntmps = 13 := rfl
theorem Cd.laws_toOffice_ok : CodeIsR Try.prog 7 Try.f7 Cd.laws_toOffice := ⟨Try.func7, by kernel_rfl, by decide +kernel⟩
/-- loop.example/g01012/impl.SameOffice -/
def Cd.impl_SameOffice : ACode :=
  .seq (.region [⟨some 2, .box (.tmp 0), none⟩,
     ⟨some 3, .box (.tmp 1), none⟩,
     ⟨some 4, .mv (.const (.bool false)), none⟩] [2, 3] []) <|
  .seq (.region [⟨some 5, .fieldAddr 0 (.tmp 2), none⟩,
     ⟨some 6, .load false 1 (.tmp 5), none⟩,
     ⟨some 7, .fieldAddr 0 (.tmp 3), none⟩,
     ⟨some 8, .load false 1 (.tmp 7), none⟩,
     ⟨some 9, .call (.func F.slices_EqualFunc_____impl_Card_____impl_Card___impl_Card___impl_Card_) [(.tmp 6), (.tmp 8), (.func F.impl_SameDeck)] [], none⟩,
     ⟨some 10, .mv (.tmp 9), none⟩,
     ⟨some 11, .fieldAddr 1 (.tmp 2), some (10, true)⟩,
     ⟨some 12, .load false 1 (.tmp 11), some (10, true)⟩,
     ⟨some 13, .fieldAddr 1 (.tmp 3), some (10, true)⟩,
     ⟨some 14, .load false 1 (.tmp 13), some (10, true)⟩,
     ⟨some 15, .call (.func F.slices_EqualFunc_____impl_Total_____impl_Total___impl_Total___impl_Total_) [(.tmp 12), (.tmp 14), (.func F.slices_Equal___impl_Total_impl_Total_)] [], some (10, true)⟩,
     ⟨some 16, .pick (.tmp 10) (.tmp 15) (.const (.bool false)), none⟩,
     ⟨some 4, .mv (.tmp 16), none⟩] [4] []) <|
  .ret
theorem Cd.impl_SameOffice_rs : Try.f8.results.toList = [.tmp 4] := rfl
theorem Cd.impl_SameOffice_nt : Try.f8.ntmps = 17 := rfl
theorem Cd.impl_SameOffice_ok : CodeIsR Try.prog 8 Try.f8 Cd.impl_SameOffice := ⟨Try.func8, by kernel_rfl, by decide +kernel⟩
/-- loop.example/g01012/laws.eqOffice -/
def Cd.laws_eqOffice : ACode :=
  .seq (.region [⟨some 2, .box (.tmp 0), none⟩,
     ⟨some 3, .box (.tmp 1), none⟩,
     ⟨some 4, .mv (.const (.bool false)), none⟩] [2, 3] []) <|
  .seq (.seq (.region [⟨some 5, .fieldAddr 0 (.tmp 2), none⟩,
      ⟨some 6, .load false 1 (.tmp 5), none⟩,
      ⟨some 7, .fieldAddr 0 (.tmp 3), none⟩,
      ⟨some 8, .load false 1 (.tmp 7), none⟩,
      ⟨some 9, .call (.func F.laws_eqCardSS) [(.tmp 6), (.tmp 8)] [], none⟩,
      ⟨some 10, .un .not (.tmp 9), none⟩] [2, 3, 10] []) <|
   .cond (.tmp 10)
     (.seq (.region [⟨some 4, .mv (.const (.bool false)), none⟩] [4] []) <|
     .ret)
     (.skip)) <|
  .seq (.seq (.region [⟨some 11, .fieldAddr 1 (.tmp 2), none⟩,
      ⟨some 12, .load false 1 (.tmp 11), none⟩,
      ⟨some 13, .fieldAddr 1 (.tmp 3), none⟩,
      ⟨some 14, .load false 1 (.tmp 13), none⟩,
      ⟨some 15, .call (.func F.laws_eqTotalSS) [(.tmp 12), (.tmp 14)] [], none⟩,
      ⟨some 16, .un .not (.tmp 15), none⟩] [16] []) <|
   .cond (.tmp 16)
     (.seq (.region [⟨some 4, .mv (.const (.bool false)), none⟩] [4] []) <|
     .ret)
     (.skip)) <|
  .seq (.region [⟨some 4, .mv (.const (.bool true)), none⟩] [4] []) <|
  .ret
theorem Cd.laws_eqOffice_rs : Try.f9.results.toList = [.tmp 4] := rfl
theorem Cd.laws_eqOffice_nt : Try.f9.ntmps = 17 := rfl
theorem Cd.laws_eqOffice_ok : CodeIsR Try.prog 9 Try.f9 Cd.laws_eqOffice := ⟨Try.func9, by kernel_rfl, by decide +kernel⟩
/-- loop.example/g01012/spec.ValidOffice -/
def Cd.spec_ValidOffice : ACode :=
  .seq (.region [⟨some 1, .box (.tmp 0), none⟩,
     ⟨some 2, .mv (.const (.bool false)), none⟩] [1] []) <|
  .seq (.region [⟨some 3, .call (.func F.spec_l15Ok) [(.tmp 1)] [], none⟩,
     ⟨some 2, .mv (.tmp 3), none⟩] [2] []) <|
  .ret
theorem Cd.spec_ValidOffice_rs : Try.f10.results.toList = [.tmp 2] := rfl
theorem Cd.spec_ValidOffice_nt : Try.f10.ntmps = 4 := rfl
theorem Cd.spec_ValidOffice_ok : CodeIsR Try.prog 10 Try.f10 Cd.spec_ValidOffice := ⟨Try.func10, by kernel_rfl, by decide +kernel⟩
/-- loop.example/g01012/impl.ValidOffice DRAWS -/
def Cd.impl_ValidOffice : ACode :=
  .seq (.region [⟨some 1, .box (.tmp 0), none⟩,
     ⟨some 2, .mv (.const (.bool false)), none⟩] [1] []) <|
  .seq (.seq (.region [⟨some 5, .fieldAddr 0 (.tmp 1), none⟩,
      ⟨some 6, .load false 1 (.tmp 5), none⟩,
      ⟨some 7, .len (.tmp 6), none⟩,
      ⟨some 8, .bin .neq (.tmp 7) (.const (.int .i64 (6))), none⟩,
      ⟨some 9, .mv (.tmp 8), none⟩,
      ⟨some 10, .fieldAddr 1 (.tmp 1), some (9, false)⟩,
      ⟨some 11, .load false 1 (.tmp 10), some (9, false)⟩,
      ⟨some 12, .len (.tmp 11), some (9, false)⟩,
      ⟨some 13, .bin .gtr (.tmp 12) (.const (.int .i64 (20))), some (9, false)⟩,
      ⟨some 14, .pick (.tmp 9) (.const (.bool true)) (.tmp 13), none⟩] [1, 14] []) <|
   .cond (.tmp 14)
     (.seq (.region [⟨some 2, .mv (.const (.bool false)), none⟩] [2] []) <|
     .ret)
     (.skip)) <|
  .seq (.seq (.region [⟨some 15, .fieldAddr 0 (.tmp 1), none⟩,
      ⟨some 16, .load false 1 (.tmp 15), none⟩,
      ⟨some 17, .len (.tmp 16), none⟩,
      ⟨some 18, .mv (.const (.int .i64 (0))), none⟩] [1, 16, 17, 18] []) <|
   .block 0 (
     .loop (
       .seq (.region [⟨some 19, .bin .lss (.tmp 18) (.tmp 17), none⟩] [1, 16, 17, 18, 19] []) <|
       .seq (.cond (.tmp 19)
          (.skip)
          (.exit 0)) <|
       .seq (.block 1 (
          .seq (.region [⟨some 20, .idxSl 1 (.tmp 16) (.tmp 18), none⟩,
             ⟨some 21, .load false 1 (.tmp 20), none⟩,
             ⟨some 4, .mv (.tmp 21), none⟩] [1, 4, 16, 17, 18] []) <|
          .seq (.region [⟨some 22, .mv (.tmp 4), none⟩,
             ⟨some 23, .call (.func F.impl_ValidDeck) [(.tmp 22)] [], none⟩,
             ⟨some 24, .un .not (.tmp 23), none⟩,
             ⟨some 25, .mv (.tmp 24), none⟩,
             ⟨some 26, .mv (.tmp 4), some (25, false)⟩,
             ⟨some 27, .len (.tmp 26), some (25, false)⟩,
             ⟨some 28, .bin .gtr (.tmp 27) (.const (.int .i64 (0))), some (25, false)⟩,
             ⟨some 29, .mv (.tmp 28), some (25, false)⟩,
             ⟨some 30, .mv (.tmp 4), some (29, true)⟩,
             ⟨some 31, .idxSl 1 (.tmp 30) (.const (.int .i64 (0))), some (29, true)⟩,
             ⟨some 32, .load true 1 (.tmp 31), some (29, true)⟩,
             ⟨some 33, .call (.func F._impl_Card__columns) [(.tmp 32)] [], some (29, true)⟩,
             ⟨some 34, .load true 2 (.tmp 1), some (29, true)⟩,
             ⟨some 35, .call (.func F.impl_officeColumns) [(.tmp 34)] [], some (29, true)⟩,
             ⟨some 36, .bin .neq (.tmp 33) (.tmp 35), some (29, true)⟩,
             ⟨some 37, .pick (.tmp 29) (.tmp 36) (.const (.bool false)), some (25, false)⟩,
             ⟨some 38, .pick (.tmp 25) (.const (.bool true)) (.tmp 37), none⟩] [1, 16, 17, 18, 38] [22, 24, 25, 26, 23, 27, 28, 29, 30, 31, 32, 33, 34, 35, 36, 37, 38]) <|
          .cond (.tmp 38)
            (.seq (.region [⟨some 2, .mv (.const (.bool false)), none⟩] [2] []) <|
            .ret)
            (.skip))) <|
       .region [⟨some 39, .bin .add (.tmp 18) (.const (.int .i64 (1))), none⟩,
         ⟨some 18, .mv (.tmp 39), none⟩] [1, 16, 17, 18] []))) <|
  .seq (.region [⟨some 2, .mv (.const (.bool true)), none⟩] [2] []) <|
  .ret
theorem Cd.impl_ValidOffice_rs : Try.f11.results.toList = [.tmp 2] := rfl
theorem Cd.impl_ValidOffice_nt : Try.f11.ntmps = 40 := rfl
theorem Cd.impl_ValidOffice_ok : CodeIsR Try.prog 11 Try.f11 Cd.impl_ValidOffice := ⟨Try.func11, by kernel_rfl, by decide +kernel⟩
/-- loop.example/g01012/laws.szCardSS -/
def Cd.laws_szCardSS : ACode :=
  .seq (.region [⟨some 4, .mv (.const (.int .i64 (0))), none⟩] [0, 1] []) <|
  .seq (.region [⟨some 6, .mv (.tmp 1), none⟩,
     ⟨some 7, .mv (.tmp 0), none⟩,
     ⟨some 8, .len (.tmp 7), none⟩,
     ⟨some 9, .bin .sub (.tmp 6) (.tmp 8), none⟩,
     ⟨some 1, .mv (.tmp 9), none⟩] [0, 1] []) <|
  .seq (.seq (.region [⟨some 10, .mv (.tmp 1), none⟩,
      ⟨some 11, .bin .lss (.tmp 10) (.const (.int .i64 (0))), none⟩] [0, 1, 11] []) <|
   .cond (.tmp 11)
     (.seq (.region [⟨some 4, .mv (.const (.int .i64 (-1))), none⟩] [4] []) <|
     .ret)
     (.skip)) <|
  .seq (.seq (.region [⟨some 5, .mv (.const (.int .i64 (0))), none⟩] [0, 1, 5] []) <|
   .block 0 (
     .loop (
       .seq (.seq (.region [⟨some 12, .mv (.tmp 5), none⟩,
           ⟨some 13, .mv (.tmp 0), none⟩,
           ⟨some 14, .len (.tmp 13), none⟩,
           ⟨some 15, .bin .lss (.tmp 12) (.tmp 14), none⟩] [0, 1, 5, 15] []) <|
        .cond (.tmp 15)
          (.skip)
          (.exit 0)) <|
       .seq (.block 1 (
          .seq (.region [⟨some 18, .mv (.tmp 0), none⟩,
             ⟨some 19, .mv (.tmp 5), none⟩,
             ⟨some 20, .idxSl 1 (.tmp 18) (.tmp 19), none⟩,
             ⟨some 21, .load false 1 (.tmp 20), none⟩,
             ⟨some 22, .mv (.tmp 1), none⟩,
             ⟨some 23, .call (.func F.laws_szCardS) [(.tmp 21), (.tmp 22)] [], none⟩,
             ⟨some 1, .mv (.tmp 23), none⟩] [0, 1, 5] []) <|
          .seq (.region [⟨some 24, .mv (.tmp 1), none⟩,
             ⟨some 25, .bin .lss (.tmp 24) (.const (.int .i64 (0))), none⟩] [0, 1, 5, 25] []) <|
          .cond (.tmp 25)
            (.seq (.region [⟨some 4, .mv (.const (.int .i64 (-1))), none⟩] [4] []) <|
            .ret)
            (.skip))) <|
       .region [⟨some 16, .mv (.tmp 5), none⟩,
         ⟨some 17, .bin .add (.tmp 16) (.const (.int .i64 (1))), none⟩,
         ⟨some 5, .mv (.tmp 17), none⟩] [0, 1, 5] []))) <|
  .seq (.region [⟨some 26, .mv (.tmp 1), none⟩,
     ⟨some 4, .mv (.tmp 26), none⟩] [4] []) <|
  .ret
theorem Cd.laws_szCardSS_rs : Try.f12.results.toList = [.tmp 4] := rfl
theorem Cd.laws_szCardSS_nt : Try.f12.ntmps = 27 := rfl
theorem Cd.laws_szCardSS_ok : CodeIsR Try.prog 12 Try.f12 Cd.laws_szCardSS := ⟨Try.func12, by kernel_rfl, by decide +kernel⟩
/-- loop.example/g01012/laws.szTotalSS -/
def Cd.laws_szTotalSS : ACode :=
  .seq (.region [⟨some 4, .mv (.const (.int .i64 (0))), none⟩] [0, 1] []) <|
  .seq (.region [⟨some 6, .mv (.tmp 1), none⟩,
     ⟨some 7, .mv (.tmp 0), none⟩,
     ⟨some 8, .len (.tmp 7), none⟩,
     ⟨some 9, .bin .sub (.tmp 6) (.tmp 8), none⟩,
     ⟨some 1, .mv (.tmp 9), none⟩] [0, 1] []) <|
  .seq (.seq (.region [⟨some 10, .mv (.tmp 1), none⟩,
      ⟨some 11, .bin .lss (.tmp 10) (.const (.int .i64 (0))), none⟩] [0, 1, 11] []) <|
   .cond (.tmp 11)
     (.seq (.region [⟨some 4, .mv (.const (.int .i64 (-1))), none⟩] [4] []) <|
     .ret)
     (.skip)) <|
  .seq (.seq (.region [⟨some 5, .mv (.const (.int .i64 (0))), none⟩] [0, 1, 5] []) <|
   .block 0 (
     .loop (
       .seq (.seq (.region [⟨some 12, .mv (.tmp 5), none⟩,
           ⟨some 13, .mv (.tmp 0), none⟩,
           ⟨some 14, .len (.tmp 13), none⟩,
           ⟨some 15, .bin .lss (.tmp 12) (.tmp 14), none⟩] [0, 1, 5, 15] []) <|
        .cond (.tmp 15)
          (.skip)
          (.exit 0)) <|
       .seq (.block 1 (
          .seq (.region [⟨some 18, .mv (.tmp 0), none⟩,
             ⟨some 19, .mv (.tmp 5), none⟩,
             ⟨some 20, .idxSl 1 (.tmp 18) (.tmp 19), none⟩,
             ⟨some 21, .load false 1 (.tmp 20), none⟩,
             ⟨some 22, .mv (.tmp 1), none⟩,
             ⟨some 23, .call (.func F.laws_szTotalS) [(.tmp 21), (.tmp 22)] [], none⟩,
             ⟨some 1, .mv (.tmp 23), none⟩] [0, 1, 5] []) <|
          .seq (.region [⟨some 24, .mv (.tmp 1), none⟩,
             ⟨some 25, .bin .lss (.tmp 24) (.const (.int .i64 (0))), none⟩] [0, 1, 5, 25] []) <|
          .cond (.tmp 25)
            (.seq (.region [⟨some 4, .mv (.const (.int .i64 (-1))), none⟩] [4] []) <|
            .ret)
            (.skip))) <|
       .region [⟨some 16, .mv (.tmp 5), none⟩,
         ⟨some 17, .bin .add (.tmp 16) (.const (.int .i64 (1))), none⟩,
         ⟨some 5, .mv (.tmp 17), none⟩] [0, 1, 5] []))) <|
  .seq (.region [⟨some 26, .mv (.tmp 1), none⟩,
     ⟨some 4, .mv (.tmp 26), none⟩] [4] []) <|
  .ret
theorem Cd.laws_szTotalSS_rs : Try.f13.results.toList = [.tmp 4] := rfl
theorem Cd.laws_szTotalSS_nt : Try.f13.ntmps = 27 := rfl
theorem Cd.laws_szTotalSS_ok : CodeIsR Try.prog 13 Try.f13 Cd.laws_szTotalSS := ⟨Try.func13, by kernel_rfl, by decide +kernel⟩
/-- loop.example/g01012/spec.SameDeck DRAWS -/
def Cd.spec_SameDeck : ACode :=
  .seq (.region [⟨some 4, .mv (.const (.bool false)), none⟩] [0, 1] []) <|
  .seq (.seq (.region [⟨some 6, .mv (.tmp 0), none⟩,
      ⟨some 7, .len (.tmp 6), none⟩,
      ⟨some 8, .mv (.tmp 1), none⟩,
      ⟨some 9, .len (.tmp 8), none⟩,
      ⟨some 10, .bin .neq (.tmp 7) (.tmp 9), none⟩] [0, 1, 10] []) <|
   .cond (.tmp 10)
     (.seq (.region [⟨some 4, .mv (.const (.bool false)), none⟩] [4] []) <|
     .ret)
     (.skip)) <|
  .seq (.seq (.region [⟨some 5, .mv (.const (.int .i64 (0))), none⟩] [0, 1, 5] []) <|
   .block 0 (
     .loop (
       .seq (.seq (.region [⟨some 11, .mv (.tmp 5), none⟩,
           ⟨some 12, .mv (.tmp 0), none⟩,
           ⟨some 13, .len (.tmp 12), none⟩,
           ⟨some 14, .bin .lss (.tmp 11) (.tmp 13), none⟩] [0, 1, 5, 14] []) <|
        .cond (.tmp 14)
          (.skip)
          (.exit 0)) <|
       .seq (.block 1 (
          .seq (.region [⟨some 17, .mv (.tmp 0), none⟩,
             ⟨some 18, .mv (.tmp 5), none⟩,
             ⟨some 19, .idxSl 1 (.tmp 17) (.tmp 18), none⟩,
             ⟨some 20, .fieldAddr 0 (.tmp 19), none⟩,
             ⟨some 21, .load false 1 (.tmp 20), none⟩,
             ⟨some 22, .mv (.tmp 1), none⟩,
             ⟨some 23, .mv (.tmp 5), none⟩,
             ⟨some 24, .idxSl 1 (.tmp 22) (.tmp 23), none⟩,
             ⟨some 25, .fieldAddr 0 (.tmp 24), none⟩,
             ⟨some 26, .load false 1 (.tmp 25), none⟩,
             ⟨some 27, .call (.func F.spec_l00Same) [(.tmp 21), (.tmp 26)] [], none⟩,
             ⟨some 28, .un .not (.tmp 27), none⟩] [0, 1, 5, 28] [17, 18, 20, 21, 19, 22, 23, 24, 25, 26, 27, 28]) <|
          .cond (.tmp 28)
            (.seq (.region [⟨some 4, .mv (.const (.bool false)), none⟩] [4] []) <|
            .ret)
            (.skip))) <|
       .region [⟨some 15, .mv (.tmp 5), none⟩,
         ⟨some 16, .bin .add (.tmp 15) (.const (.int .i64 (1))), none⟩,
         ⟨some 5, .mv (.tmp 16), none⟩] [0, 1, 5] []))) <|
  .seq (.region [⟨some 4, .mv (.const (.bool true)), none⟩] [4] []) <|
  .ret
theorem Cd.spec_SameDeck_rs : Try.f14.results.toList = [.tmp 4] := rfl
theorem Cd.spec_SameDeck_nt : Try.f14.ntmps = 29 := rfl
theorem Cd.spec_SameDeck_ok : CodeIsR Try.prog 14 Try.f14 Cd.spec_SameDeck := ⟨Try.func14, by kernel_rfl, by decide +kernel⟩
/-- loop.example/g01012/spec.l15Totals DRAWS -/
def Cd.spec_l15Totals : ACode :=
  .seq (.region [⟨some 4, .mv (.const (.bool false)), none⟩] [0, 1] []) <|
  .seq (.seq (.region [⟨some 6, .mv (.tmp 0), none⟩,
      ⟨some 7, .len (.tmp 6), none⟩,
      ⟨some 8, .mv (.tmp 1), none⟩,
      ⟨some 9, .len (.tmp 8), none⟩,
      ⟨some 10, .bin .neq (.tmp 7) (.tmp 9), none⟩] [0, 1, 10] []) <|
   .cond (.tmp 10)
     (.seq (.region [⟨some 4, .mv (.const (.bool false)), none⟩] [4] []) <|
     .ret)
     (.skip)) <|
  .seq (.seq (.region [⟨some 5, .mv (.const (.int .i64 (0))), none⟩] [0, 1, 5] []) <|
   .block 0 (
     .loop (
       .seq (.seq (.region [⟨some 11, .mv (.tmp 5), none⟩,
           ⟨some 12, .mv (.tmp 0), none⟩,
           ⟨some 13, .len (.tmp 12), none⟩,
           ⟨some 14, .bin .lss (.tmp 11) (.tmp 13), none⟩] [0, 1, 5, 14] []) <|
        .cond (.tmp 14)
          (.skip)
          (.exit 0)) <|
       .seq (.block 1 (
          .seq (.region [⟨some 17, .mv (.tmp 0), none⟩,
             ⟨some 18, .mv (.tmp 5), none⟩,
             ⟨some 19, .idxSl 2 (.tmp 17) (.tmp 18), none⟩,
             ⟨some 20, .load true 2 (.tmp 19), none⟩,
             ⟨some 21, .mv (.tmp 1), none⟩,
             ⟨some 22, .mv (.tmp 5), none⟩,
             ⟨some 23, .idxSl 2 (.tmp 21) (.tmp 22), none⟩,
             ⟨some 24, .load true 2 (.tmp 23), none⟩,
             ⟨some 25, .eqA true [2, 0] (.tmp 20) (.tmp 24), none⟩] [0, 1, 5, 25] [17, 18, 20, 21, 19, 22, 23, 24, 25]) <|
          .cond (.tmp 25)
            (.seq (.region [⟨some 4, .mv (.const (.bool false)), none⟩] [4] []) <|
            .ret)
            (.skip))) <|
       .region [⟨some 15, .mv (.tmp 5), none⟩,
         ⟨some 16, .bin .add (.tmp 15) (.const (.int .i64 (1))), none⟩,
         ⟨some 5, .mv (.tmp 16), none⟩] [0, 1, 5] []))) <|
  .seq (.region [⟨some 4, .mv (.const (.bool true)), none⟩] [4] []) <|
  .ret
theorem Cd.spec_l15Totals_rs : Try.f15.results.toList = [.tmp 4] := rfl
theorem Cd.spec_l15Totals_nt : Try.f15.ntmps = 26 := rfl
theorem Cd.spec_l15Totals_ok : CodeIsR Try.prog 15 Try.f15 Cd.spec_l15Totals := ⟨Try.func15, by kernel_rfl, by decide +kernel⟩
/-- loop.example/g01012/laws.toCardSS -/
def Cd.laws_toCardSS : ACode :=
  .seq (.region [⟨some 2, .mv (.const (.slice none 0 0)), none⟩] [0] []) <|
  .seq (.region [⟨some 5, .mv (.tmp 0), none⟩,
     ⟨some 6, .len (.tmp 5), none⟩,
     ⟨some 7, .mk 1 24 [.v (.slice none 0 0)] (.tmp 6), none⟩,
     ⟨some 3, .mv (.tmp 7), none⟩] [0, 3] []) <|
  .seq (.seq (.region [⟨some 4, .mv (.const (.int .i64 (0))), none⟩] [0, 3, 4] []) <|
   .block 0 (
     .loop (
       .seq (.seq (.region [⟨some 8, .mv (.tmp 4), none⟩,
           ⟨some 9, .mv (.tmp 0), none⟩,
           ⟨some 10, .len (.tmp 9), none⟩,
           ⟨some 11, .bin .lss (.tmp 8) (.tmp 10), none⟩] [0, 3, 4, 11] []) <|
        .cond (.tmp 11)
          (.skip)
          (.exit 0)) <|
       .seq (.block 1 (
          .region [⟨some 14, .mv (.tmp 3), none⟩,
            ⟨some 15, .mv (.tmp 4), none⟩,
            ⟨some 16, .mv (.tmp 0), none⟩,
            ⟨some 17, .mv (.tmp 4), none⟩,
            ⟨some 18, .idxSl 1 (.tmp 16) (.tmp 17), none⟩,
            ⟨some 19, .load false 1 (.tmp 18), none⟩,
            ⟨some 20, .call (.func F.laws_toCardS) [(.tmp 19)] [], none⟩,
            ⟨some 21, .idxSl 1 (.tmp 14) (.tmp 15), none⟩,
            ⟨none, .store 1 (.tmp 21) (.tmp 20), none⟩] [0, 3, 4] [])) <|
       .region [⟨some 12, .mv (.tmp 4), none⟩,
         ⟨some 13, .bin .add (.tmp 12) (.const (.int .i64 (1))), none⟩,
         ⟨some 4, .mv (.tmp 13), none⟩] [0, 3, 4] []))) <|
  .seq (.region [⟨some 22, .mv (.tmp 3), none⟩,
     ⟨some 2, .mv (.tmp 22), none⟩] [2] []) <|
  .ret
theorem Cd.laws_toCardSS_rs : Try.f16.results.toList = [.tmp 2] := rfl
theorem Cd.laws_toCardSS_nt : Try.f16.ntmps = 23 := rfl
theorem Cd.laws_toCardSS_ok : CodeIsR Try.prog 16 Try.f16 Cd.laws_toCardSS := ⟨Try.func16, by kernel_rfl, by decide +kernel⟩
/-- loop.example/g01012/laws.toTotalSS -/
def Cd.laws_toTotalSS : ACode :=
  .seq (.region [⟨some 2, .mv (.const (.slice none 0 0)), none⟩] [0] []) <|
  .seq (.region [⟨some 5, .mv (.tmp 0), none⟩,
     ⟨some 6, .len (.tmp 5), none⟩,
     ⟨some 7, .mk 1 24 [.v (.slice none 0 0)] (.tmp 6), none⟩,
     ⟨some 3, .mv (.tmp 7), none⟩] [0, 3] []) <|
  .seq (.seq (.region [⟨some 4, .mv (.const (.int .i64 (0))), none⟩] [0, 3, 4] []) <|
   .block 0 (
     .loop (
       .seq (.seq (.region [⟨some 8, .mv (.tmp 4), none⟩,
           ⟨some 9, .mv (.tmp 0), none⟩,
           ⟨some 10, .len (.tmp 9), none⟩,
           ⟨some 11, .bin .lss (.tmp 8) (.tmp 10), none⟩] [0, 3, 4, 11] []) <|
        .cond (.tmp 11)
          (.skip)
          (.exit 0)) <|
       .seq (.block 1 (
          .region [⟨some 14, .mv (.tmp 3), none⟩,
            ⟨some 15, .mv (.tmp 4), none⟩,
            ⟨some 16, .mv (.tmp 0), none⟩,
            ⟨some 17, .mv (.tmp 4), none⟩,
            ⟨some 18, .idxSl 1 (.tmp 16) (.tmp 17), none⟩,
            ⟨some 19, .load false 1 (.tmp 18), none⟩,
            ⟨some 20, .call (.func F.laws_toTotalS) [(.tmp 19)] [], none⟩,
            ⟨some 21, .idxSl 1 (.tmp 14) (.tmp 15), none⟩,
            ⟨none, .store 1 (.tmp 21) (.tmp 20), none⟩] [0, 3, 4] [])) <|
       .region [⟨some 12, .mv (.tmp 4), none⟩,
         ⟨some 13, .bin .add (.tmp 12) (.const (.int .i64 (1))), none⟩,
         ⟨some 4, .mv (.tmp 13), none⟩] [0, 3, 4] []))) <|
  .seq (.region [⟨some 22, .mv (.tmp 3), none⟩,
     ⟨some 2, .mv (.tmp 22), none⟩] [2] []) <|
  .ret
theorem Cd.laws_toTotalSS_rs : Try.f17.results.toList = [.tmp 2] := rfl
theorem Cd.laws_toTotalSS_nt : Try.f17.ntmps = 23 := rfl
theorem Cd.laws_toTotalSS_ok : CodeIsR Try.prog 17 Try.f17 Cd.laws_toTotalSS := ⟨Try.func17, by kernel_rfl, by decide +kernel⟩
/-- slices.EqualFunc[[][]loop.example/g01012/impl.Card,[][]loop.example/g01012/impl.Card,[]loop.example/g01012/impl.Card,[]loop.example/g01012/impl.Card] -/
def Cd.slices_EqualFunc_____impl_Card_____impl_Card___impl_Card___impl_Card_ : ACode :=
  .seq (.region [⟨some 6, .mv (.const (.bool false)), none⟩] [0, 1, 2] []) <|
  .seq (.seq (.region [⟨some 10, .mv (.tmp 0), none⟩,
      ⟨some 11, .len (.tmp 10), none⟩,
      ⟨some 12, .mv (.tmp 1), none⟩,
      ⟨some 13, .len (.tmp 12), none⟩,
      ⟨some 14, .bin .neq (.tmp 11) (.tmp 13), none⟩] [0, 1, 2, 14] []) <|
   .cond (.tmp 14)
     (.seq (.region [⟨some 6, .mv (.const (.bool false)), none⟩] [6] []) <|
     .ret)
     (.skip)) <|
  .seq (.seq (.region [⟨some 15, .mv (.tmp 0), none⟩,
      ⟨some 16, .len (.tmp 15), none⟩,
      ⟨some 17, .mv (.const (.int .i64 (0))), none⟩] [1, 2, 15, 16, 17] []) <|
   .block 0 (
     .loop (
       .seq (.region [⟨some 18, .bin .lss (.tmp 17) (.tmp 16), none⟩] [1, 2, 15, 16, 17, 18] []) <|
       .seq (.cond (.tmp 18)
          (.skip)
          (.exit 0)) <|
       .seq (.block 1 (
          .seq (.region [⟨some 19, .mv (.tmp 17), none⟩,
             ⟨some 20, .idxSl 1 (.tmp 15) (.tmp 17), none⟩,
             ⟨some 21, .load false 1 (.tmp 20), none⟩,
             ⟨some 7, .mv (.tmp 19), none⟩,
             ⟨some 8, .mv (.tmp 21), none⟩] [1, 2, 7, 8, 15, 16, 17] []) <|
          .seq (.region [⟨some 22, .mv (.tmp 1), none⟩,
             ⟨some 23, .mv (.tmp 7), none⟩,
             ⟨some 24, .idxSl 1 (.tmp 22) (.tmp 23), none⟩,
             ⟨some 25, .load false 1 (.tmp 24), none⟩,
             ⟨some 9, .mv (.tmp 25), none⟩] [1, 2, 8, 9, 15, 16, 17] []) <|
          .seq (.region [⟨some 26, .mv (.tmp 2), none⟩,
             ⟨some 27, .mv (.tmp 8), none⟩,
             ⟨some 28, .mv (.tmp 9), none⟩,
             ⟨some 29, .call (.tmp 26) [(.tmp 27), (.tmp 28)] [], none⟩,
             ⟨some 30, .un .not (.tmp 29), none⟩] [1, 2, 15, 16, 17, 30] []) <|
          .cond (.tmp 30)
            (.seq (.region [⟨some 6, .mv (.const (.bool false)), none⟩] [6] []) <|
            .ret)
            (.skip))) <|
       .region [⟨some 31, .bin .add (.tmp 17) (.const (.int .i64 (1))), none⟩,
         ⟨some 17, .mv (.tmp 31), none⟩] [1, 2, 15, 16, 17] []))) <|
  .seq (.region [⟨some 6, .mv (.const (.bool true)), none⟩] [6] []) <|
  .ret
theorem Cd.slices_EqualFunc_____impl_Card_____impl_Card___impl_Card___impl_Card__rs : Try.f18.results.toList = [.tmp 6] := rfl
theorem Cd.slices_EqualFunc_____impl_Card_____impl_Card___impl_Card___impl_Card__nt : Try.f18.ntmps = 32 := rfl
theorem Cd.slices_EqualFunc_____impl_Card_____impl_Card___impl_Card___impl_Card__ok : CodeIsR Try.prog 18 Try.f18 Cd.slices_EqualFunc_____impl_Card_____impl_Card___impl_Card___impl_Card_ := ⟨Try.func18, by kernel_rfl, by decide +kernel⟩
/-- loop.example/g01012/impl.SameDeck -/
def Cd.impl_SameDeck : ACode :=
  .seq (.region [⟨some 4, .mv (.const (.bool false)), none⟩] [0, 1] []) <|
  .seq (.region [⟨some 5, .mv (.tmp 0), none⟩,
     ⟨some 6, .mv (.tmp 1), none⟩,
     ⟨some 7, .call (.func F.slices_EqualFunc___impl_Card___impl_Card_impl_Card_impl_Card_) [(.tmp 5), (.tmp 6), (.func F.impl_SameCard)] [], none⟩,
     ⟨some 4, .mv (.tmp 7), none⟩] [4] []) <|
  .ret
theorem Cd.impl_SameDeck_rs : Try.f19.results.toList = [.tmp 4] := rfl
theorem Cd.impl_SameDeck_nt : Try.f19.ntmps = 8 := rfl
theorem Cd.impl_SameDeck_ok : CodeIsR Try.prog 19 Try.f19 Cd.impl_SameDeck := ⟨Try.func19, by kernel_rfl, by decide +kernel⟩
/-- slices.EqualFunc[[][]loop.example/g01012/impl.Total,[][]loop.example/g01012/impl.Total,[]loop.example/g01012/impl.Total,[]loop.example/g01012/impl.Total] -/
def Cd.slices_EqualFunc_____impl_Total_____impl_Total___impl_Total___impl_Total_ : ACode :=
  .seq (.region [⟨some 6, .mv (.const (.bool false)), none⟩] [0, 1, 2] []) <|
  .seq (.seq (.region [⟨some 10, .mv (.tmp 0), none⟩,
      ⟨some 11, .len (.tmp 10), none⟩,
      ⟨some 12, .mv (.tmp 1), none⟩,
      ⟨some 13, .len (.tmp 12), none⟩,
      ⟨some 14, .bin .neq (.tmp 11) (.tmp 13), none⟩] [0, 1, 2, 14] []) <|
   .cond (.tmp 14)
     (.seq (.region [⟨some 6, .mv (.const (.bool false)), none⟩] [6] []) <|
     .ret)
     (.skip)) <|
  .seq (.seq (.region [⟨some 15, .mv (.tmp 0), none⟩,
      ⟨some 16, .len (.tmp 15), none⟩,
      ⟨some 17, .mv (.const (.int .i64 (0))), none⟩] [1, 2, 15, 16, 17] []) <|
   .block 0 (
     .loop (
       .seq (.region [⟨some 18, .bin .lss (.tmp 17) (.tmp 16), none⟩] [1, 2, 15, 16, 17, 18] []) <|
       .seq (.cond (.tmp 18)
          (.skip)
          (.exit 0)) <|
       .seq (.block 1 (
          .seq (.region [⟨some 19, .mv (.tmp 17), none⟩,
             ⟨some 20, .idxSl 1 (.tmp 15) (.tmp 17), none⟩,
             ⟨some 21, .load false 1 (.tmp 20), none⟩,
             ⟨some 7, .mv (.tmp 19), none⟩,
             ⟨some 8, .mv (.tmp 21), none⟩] [1, 2, 7, 8, 15, 16, 17] []) <|
          .seq (.region [⟨some 22, .mv (.tmp 1), none⟩,
             ⟨some 23, .mv (.tmp 7), none⟩,
             ⟨some 24, .idxSl 1 (.tmp 22) (.tmp 23), none⟩,
             ⟨some 25, .load false 1 (.tmp 24), none⟩,
             ⟨some 9, .mv (.tmp 25), none⟩] [1, 2, 8, 9, 15, 16, 17] []) <|
          .seq (.region [⟨some 26, .mv (.tmp 2), none⟩,
             ⟨some 27, .mv (.tmp 8), none⟩,
             ⟨some 28, .mv (.tmp 9), none⟩,
             ⟨some 29, .call (.tmp 26) [(.tmp 27), (.tmp 28)] [], none⟩,
             ⟨some 30, .un .not (.tmp 29), none⟩] [1, 2, 15, 16, 17, 30] []) <|
          .cond (.tmp 30)
            (.seq (.region [⟨some 6, .mv (.const (.bool false)), none⟩] [6] []) <|
            .ret)
            (.skip))) <|
       .region [⟨some 31, .bin .add (.tmp 17) (.const (.int .i64 (1))), none⟩,
         ⟨some 17, .mv (.tmp 31), none⟩] [1, 2, 15, 16, 17] []))) <|
  .seq (.region [⟨some 6, .mv (.const (.bool true)), none⟩] [6] []) <|
  .ret
theorem Cd.slices_EqualFunc_____impl_Total_____impl_Total___impl_Total___impl_Total__rs : Try.f20.results.toList = [.tmp 6] := rfl
theorem Cd.slices_EqualFunc_____impl_Total_____impl_Total___impl_Total___impl_Total__nt : Try.f20.ntmps = 32 := rfl
theorem Cd.slices_EqualFunc_____impl_Total_____impl_Total___impl_Total___impl_Total__ok : CodeIsR Try.prog 20 Try.f20 Cd.slices_EqualFunc_____impl_Total_____impl_Total___impl_Total___impl_Total_ := ⟨Try.func20, by kernel_rfl, by decide +kernel⟩
/-- slices.Equal[[]loop.example/g01012/impl.Total,loop.example/g01012/impl.Total] DRAWS -/
def Cd.slices_Equal___impl_Total_impl_Total_ : ACode :=
  .seq (.region [⟨some 4, .mv (.const (.bool false)), none⟩] [0, 1] []) <|
  .seq (.seq (.region [⟨some 6, .mv (.tmp 0), none⟩,
      ⟨some 7, .len (.tmp 6), none⟩,
      ⟨some 8, .mv (.tmp 1), none⟩,
      ⟨some 9, .len (.tmp 8), none⟩,
      ⟨some 10, .bin .neq (.tmp 7) (.tmp 9), none⟩] [0, 1, 10] []) <|
   .cond (.tmp 10)
     (.seq (.region [⟨some 4, .mv (.const (.bool false)), none⟩] [4] []) <|
     .ret)
     (.skip)) <|
  .seq (.seq (.region [⟨some 11, .mv (.tmp 0), none⟩,
      ⟨some 12, .len (.tmp 11), none⟩,
      ⟨some 13, .mv (.const (.int .i64 (0))), none⟩] [0, 1, 12, 13] []) <|
   .block 0 (
     .loop (
       .seq (.region [⟨some 14, .bin .lss (.tmp 13) (.tmp 12), none⟩] [0, 1, 12, 13, 14] []) <|
       .seq (.cond (.tmp 14)
          (.skip)
          (.exit 0)) <|
       .seq (.block 1 (
          .seq (.region [⟨some 15, .mv (.tmp 13), none⟩,
             ⟨some 5, .mv (.tmp 15), none⟩] [0, 1, 5, 12, 13] []) <|
          .seq (.region [⟨some 16, .mv (.tmp 0), none⟩,
             ⟨some 17, .mv (.tmp 5), none⟩,
             ⟨some 18, .idxSl 2 (.tmp 16) (.tmp 17), none⟩,
             ⟨some 19, .load true 2 (.tmp 18), none⟩,
             ⟨some 20, .mv (.tmp 1), none⟩,
             ⟨some 21, .mv (.tmp 5), none⟩,
             ⟨some 22, .idxSl 2 (.tmp 20) (.tmp 21), none⟩,
             ⟨some 23, .load true 2 (.tmp 22), none⟩,
             ⟨some 24, .eqA true [2, 0] (.tmp 19) (.tmp 23), none⟩] [0, 1, 12, 13, 24] [16, 17, 19, 20, 18, 21, 22, 23, 24]) <|
          .cond (.tmp 24)
            (.seq (.region [⟨some 4, .mv (.const (.bool false)), none⟩] [4] []) <|
            .ret)
            (.skip))) <|
       .region [⟨some 25, .bin .add (.tmp 13) (.const (.int .i64 (1))), none⟩,
         ⟨some 13, .mv (.tmp 25), none⟩] [0, 1, 12, 13] []))) <|
  .seq (.region [⟨some 4, .mv (.const (.bool true)), none⟩] [4] []) <|
  .ret
theorem Cd.slices_Equal___impl_Total_impl_Total__rs : Try.f21.results.toList = [.tmp 4] := rfl
theorem Cd.slices_Equal___impl_Total_impl_Total__nt : Try.f21.ntmps = 26 := rfl
theorem Cd.slices_Equal___impl_Total_impl_Total__ok : CodeIsR Try.prog 21 Try.f21 Cd.slices_Equal___impl_Total_impl_Total_ := ⟨Try.func21, by kernel_rfl, by decide +kernel⟩
/-- loop.example/g01012/laws.eqCardSS DRAWS -/
def Cd.laws_eqCardSS : ACode :=
  .seq (.region [⟨some 4, .mv (.const (.bool false)), none⟩] [0, 1] []) <|
  .seq (.seq (.region [⟨some 6, .mv (.tmp 0), none⟩,
      ⟨some 7, .len (.tmp 6), none⟩,
      ⟨some 8, .mv (.tmp 1), none⟩,
      ⟨some 9, .len (.tmp 8), none⟩,
      ⟨some 10, .bin .neq (.tmp 7) (.tmp 9), none⟩] [0, 1, 10] []) <|
   .cond (.tmp 10)
     (.seq (.region [⟨some 4, .mv (.const (.bool false)), none⟩] [4] []) <|
     .ret)
     (.skip)) <|
  .seq (.seq (.region [⟨some 5, .mv (.const (.int .i64 (0))), none⟩] [0, 1, 5] []) <|
   .block 0 (
     .loop (
       .seq (.seq (.region [⟨some 11, .mv (.tmp 5), none⟩,
           ⟨some 12, .mv (.tmp 0), none⟩,
           ⟨some 13, .len (.tmp 12), none⟩,
           ⟨some 14, .bin .lss (.tmp 11) (.tmp 13), none⟩] [0, 1, 5, 14] []) <|
        .cond (.tmp 14)
          (.skip)
          (.exit 0)) <|
       .seq (.block 1 (
          .seq (.region [⟨some 17, .mv (.tmp 0), none⟩,
             ⟨some 18, .mv (.tmp 5), none⟩,
             ⟨some 19, .idxSl 1 (.tmp 17) (.tmp 18), none⟩,
             ⟨some 20, .load false 1 (.tmp 19), none⟩,
             ⟨some 21, .mv (.tmp 1), none⟩,
             ⟨some 22, .mv (.tmp 5), none⟩,
             ⟨some 23, .idxSl 1 (.tmp 21) (.tmp 22), none⟩,
             ⟨some 24, .load false 1 (.tmp 23), none⟩,
             ⟨some 25, .call (.func F.laws_eqCardS) [(.tmp 20), (.tmp 24)] [], none⟩,
             ⟨some 26, .un .not (.tmp 25), none⟩] [0, 1, 5, 26] [17, 18, 20, 21, 19, 22, 23, 24, 25, 26]) <|
          .cond (.tmp 26)
            (.seq (.region [⟨some 4, .mv (.const (.bool false)), none⟩] [4] []) <|
            .ret)
            (.skip))) <|
       .region [⟨some 15, .mv (.tmp 5), none⟩,
         ⟨some 16, .bin .add (.tmp 15) (.const (.int .i64 (1))), none⟩,
         ⟨some 5, .mv (.tmp 16), none⟩] [0, 1, 5] []))) <|
  .seq (.region [⟨some 4, .mv (.const (.bool true)), none⟩] [4] []) <|
  .ret
theorem Cd.laws_eqCardSS_rs : Try.f22.results.toList = [.tmp 4] := rfl
theorem Cd.laws_eqCardSS_nt : Try.f22.ntmps = 27 := rfl
theorem Cd.laws_eqCardSS_ok : CodeIsR Try.prog 22 Try.f22 Cd.laws_eqCardSS := ⟨Try.func22, by kernel_rfl, by decide +kernel⟩
/-- loop.example/g01012/laws.eqTotalSS DRAWS -/
def Cd.laws_eqTotalSS : ACode :=
  .seq (.region [⟨some 4, .mv (.const (.bool false)), none⟩] [0, 1] []) <|
  .seq (.seq (.region [⟨some 6, .mv (.tmp 0), none⟩,
      ⟨some 7, .len (.tmp 6), none⟩,
      ⟨some 8, .mv (.tmp 1), none⟩,
      ⟨some 9, .len (.tmp 8), none⟩,
      ⟨some 10, .bin .neq (.tmp 7) (.tmp 9), none⟩] [0, 1, 10] []) <|
   .cond (.tmp 10)
     (.seq (.region [⟨some 4, .mv (.const (.bool false)), none⟩] [4] []) <|
     .ret)
     (.skip)) <|
  .seq (.seq (.region [⟨some 5, .mv (.const (.int .i64 (0))), none⟩] [0, 1, 5] []) <|
   .block 0 (
     .loop (
       .seq (.seq (.region [⟨some 11, .mv (.tmp 5), none⟩,
           ⟨some 12, .mv (.tmp 0), none⟩,
           ⟨some 13, .len (.tmp 12), none⟩,
           ⟨some 14, .bin .lss (.tmp 11) (.tmp 13), none⟩] [0, 1, 5, 14] []) <|
        .cond (.tmp 14)
          (.skip)
          (.exit 0)) <|
       .seq (.block 1 (
          .seq (.region [⟨some 17, .mv (.tmp 0), none⟩,
             ⟨some 18, .mv (.tmp 5), none⟩,
             ⟨some 19, .idxSl 1 (.tmp 17) (.tmp 18), none⟩,
             ⟨some 20, .load false 1 (.tmp 19), none⟩,
             ⟨some 21, .mv (.tmp 1), none⟩,
             ⟨some 22, .mv (.tmp 5), none⟩,
             ⟨some 23, .idxSl 1 (.tmp 21) (.tmp 22), none⟩,
             ⟨some 24, .load false 1 (.tmp 23), none⟩,
             ⟨some 25, .call (.func F.laws_eqTotalS) [(.tmp 20), (.tmp 24)] [], none⟩,
             ⟨some 26, .un .not (.tmp 25), none⟩] [0, 1, 5, 26] [17, 18, 20, 21, 19, 22, 23, 24, 25, 26]) <|
          .cond (.tmp 26)
            (.seq (.region [⟨some 4, .mv (.const (.bool false)), none⟩] [4] []) <|
            .ret)
            (.skip))) <|
       .region [⟨some 15, .mv (.tmp 5), none⟩,
         ⟨some 16, .bin .add (.tmp 15) (.const (.int .i64 (1))), none⟩,
         ⟨some 5, .mv (.tmp 16), none⟩] [0, 1, 5] []))) <|
  .seq (.region [⟨some 4, .mv (.const (.bool true)), none⟩] [4] []) <|
  .ret
theorem Cd.laws_eqTotalSS_rs : Try.f23.results.toList = [.tmp 4] := rfl
theorem Cd.laws_eqTotalSS_nt : Try.f23.ntmps = 27 := rfl
theorem Cd.laws_eqTotalSS_ok : CodeIsR Try.prog 23 Try.f23 Cd.laws_eqTotalSS := ⟨Try.func23, by kernel_rfl, by decide +kernel⟩
/-- loop.example/g01012/spec.l15Ok DRAWS -/
def Cd.spec_l15Ok : ACode :=
  .seq (.region [⟨some 2, .mv (.const (.bool false)), none⟩] [0] []) <|
  .seq (.seq (.region [⟨some 3, .mv (.const (.int .i64 (0))), none⟩] [0, 3] []) <|
   .block 0 (
     .loop (
       .seq (.seq (.region [⟨some 4, .mv (.tmp 3), none⟩,
           ⟨some 5, .mv (.tmp 0), none⟩,
           ⟨some 6, .nilc (.tmp 5), none⟩,
           ⟨some 7, .fieldAddr 0 (.tmp 6), none⟩,
           ⟨some 8, .load false 1 (.tmp 7), none⟩,
           ⟨some 9, .len (.tmp 8), none⟩,
           ⟨some 10, .bin .lss (.tmp 4) (.tmp 9), none⟩] [0, 3, 10] []) <|
        .cond (.tmp 10)
          (.skip)
          (.exit 0)) <|
       .seq (.block 1 (
          .seq (.region [⟨some 13, .mv (.tmp 0), none⟩,
             ⟨some 14, .nilc (.tmp 13), none⟩,
             ⟨some 15, .fieldAddr 0 (.tmp 14), none⟩,
             ⟨some 16, .load false 1 (.tmp 15), none⟩,
             ⟨some 17, .mv (.tmp 3), none⟩,
             ⟨some 18, .idxSl 1 (.tmp 16) (.tmp 17), none⟩,
             ⟨some 19, .load false 1 (.tmp 18), none⟩,
             ⟨some 20, .call (.func F.spec_l02Deck) [(.tmp 19)] [], none⟩,
             ⟨some 21, .un .not (.tmp 20), none⟩,
             ⟨some 22, .mv (.tmp 21), none⟩,
             ⟨some 23, .mv (.tmp 0), some (22, false)⟩,
             ⟨some 24, .nilc (.tmp 23), some (22, false)⟩,
             ⟨some 25, .fieldAddr 0 (.tmp 24), some (22, false)⟩,
             ⟨some 26, .load false 1 (.tmp 25), some (22, false)⟩,
             ⟨some 27, .mv (.tmp 3), some (22, false)⟩,
             ⟨some 28, .idxSl 1 (.tmp 26) (.tmp 27), some (22, false)⟩,
             ⟨some 29, .load false 1 (.tmp 28), some (22, false)⟩,
             ⟨some 30, .len (.tmp 29), some (22, false)⟩,
             ⟨some 31, .bin .gtr (.tmp 30) (.const (.int .i64 (0))), some (22, false)⟩,
             ⟨some 32, .mv (.tmp 31), some (22, false)⟩,
             ⟨some 33, .mv (.tmp 0), some (32, true)⟩,
             ⟨some 34, .nilc (.tmp 33), some (32, true)⟩,
             ⟨some 35, .fieldAddr 0 (.tmp 34), some (32, true)⟩,
             ⟨some 36, .load false 1 (.tmp 35), some (32, true)⟩,
             ⟨some 37, .mv (.tmp 3), some (32, true)⟩,
             ⟨some 38, .idxSl 1 (.tmp 36) (.tmp 37), some (32, true)⟩,
             ⟨some 39, .load false 1 (.tmp 38), some (32, true)⟩,
             ⟨some 40, .idxSl 1 (.tmp 39) (.const (.int .i64 (0))), some (32, true)⟩,
             ⟨some 41, .fieldAddr 0 (.tmp 40), some (32, true)⟩,
             ⟨some 42, .load false 1 (.tmp 41), some (32, true)⟩,
             ⟨some 43, .len (.tmp 42), some (32, true)⟩,
             ⟨some 44, .mv (.tmp 0), some (32, true)⟩,
             ⟨some 45, .call (.func F.spec_l15Width) [(.tmp 44)] [], some (32, true)⟩,
             ⟨some 46, .bin .neq (.tmp 43) (.tmp 45), some (32, true)⟩,
             ⟨some 47, .pick (.tmp 32) (.tmp 46) (.const (.bool false)), some (22, false)⟩,
             ⟨some 48, .pick (.tmp 22) (.const (.bool true)) (.tmp 47), none⟩] [0, 3, 48] [13, 15, 16, 14, 17, 18, 19, 20, 21, 22, 23, 24, 25, 26, 27, 28, 29, 30, 31, 32, 33, 34, 35, 36, 37, 38, 39, 40, 41, 42, 43, 44, 45, 46, 47, 48]) <|
          .cond (.tmp 48)
            (.seq (.region [⟨some 2, .mv (.const (.bool false)), none⟩] [2] []) <|
            .ret)
            (.skip))) <|
       .region [⟨some 11, .mv (.tmp 3), none⟩,
         ⟨some 12, .bin .add (.tmp 11) (.const (.int .i64 (1))), none⟩,
         ⟨some 3, .mv (.tmp 12), none⟩] [0, 3] []))) <|
  .seq (.region [⟨some 49, .mv (.tmp 0), none⟩,
     ⟨some 50, .nilc (.tmp 49), none⟩,
     ⟨some 51, .fieldAddr 0 (.tmp 50), none⟩,
     ⟨some 52, .load false 1 (.tmp 51), none⟩,
     ⟨some 53, .len (.tmp 52), none⟩,
     ⟨some 54, .bin .eql (.tmp 53) (.const (.int .i64 (6))), none⟩,
     ⟨some 55, .mv (.tmp 54), none⟩,
     ⟨some 56, .mv (.tmp 0), some (55, true)⟩,
     ⟨some 57, .nilc (.tmp 56), some (55, true)⟩,
     ⟨some 58, .fieldAddr 1 (.tmp 57), some (55, true)⟩,
     ⟨some 59, .load false 1 (.tmp 58), some (55, true)⟩,
     ⟨some 60, .len (.tmp 59), some (55, true)⟩,
     ⟨some 61, .bin .leq (.tmp 60) (.const (.int .i64 (20))), some (55, true)⟩,
     ⟨some 62, .pick (.tmp 55) (.tmp 61) (.const (.bool false)), none⟩,
     ⟨some 2, .mv (.tmp 62), none⟩] [2] []) <|
  .ret
theorem Cd.spec_l15Ok_rs : Try.f24.results.toList = [.tmp 2] := rfl
theorem Cd.spec_l15Ok_nt : Try.f24.ntmps = 63 := rfl
theorem Cd.spec_l15Ok_ok : CodeIsR Try.prog 24 Try.f24 Cd.spec_l15Ok := ⟨Try.func24, by kernel_rfl, by decide +kernel⟩
/-- loop.example/g01012/impl.ValidDeck DRAWS -/
def Cd.impl_ValidDeck : ACode :=
  .seq (.region [⟨some 2, .mv (.const (.bool false)), none⟩] [0] []) <|
  .seq (.seq (.region [⟨some 5, .mv (.tmp 0), none⟩,
      ⟨some 6, .len (.tmp 5), none⟩,
      ⟨some 7, .mv (.const (.int .i64 (0))), none⟩] [0, 5, 6, 7] []) <|
   .block 0 (
     .loop (
       .seq (.region [⟨some 8, .bin .lss (.tmp 7) (.tmp 6), none⟩] [0, 5, 6, 7, 8] []) <|
       .seq (.cond (.tmp 8)
          (.skip)
          (.exit 0)) <|
       .seq (.block 1 (
          .seq (.region [⟨some 9, .idxSl 1 (.tmp 5) (.tmp 7), none⟩,
             ⟨some 10, .load true 1 (.tmp 9), none⟩,
             ⟨some 4, .alloc [.v (.slice none 0 0)], none⟩,
             ⟨none, .store 1 (.tmp 4) (.tmp 10), none⟩] [0, 4, 5, 6, 7] []) <|
          .seq (.region [⟨some 11, .load true 1 (.tmp 4), none⟩,
             ⟨some 12, .call (.func F.impl_ValidCard) [(.tmp 11)] [], none⟩,
             ⟨some 13, .un .not (.tmp 12), none⟩,
             ⟨some 14, .mv (.tmp 13), none⟩,
             ⟨some 15, .load true 1 (.tmp 4), some (14, false)⟩,
             ⟨some 16, .call (.func F._impl_Card__columns) [(.tmp 15)] [], some (14, false)⟩,
             ⟨some 17, .mv (.tmp 0), some (14, false)⟩,
             ⟨some 18, .idxSl 1 (.tmp 17) (.const (.int .i64 (0))), some (14, false)⟩,
             ⟨some 19, .load true 1 (.tmp 18), some (14, false)⟩,
             ⟨some 20, .call (.func F._impl_Card__columns) [(.tmp 19)] [], some (14, false)⟩,
             ⟨some 21, .bin .neq (.tmp 16) (.tmp 20), some (14, false)⟩,
             ⟨some 22, .pick (.tmp 14) (.const (.bool true)) (.tmp 21), none⟩] [0, 5, 6, 7, 22] [11, 13, 14, 15, 12, 16, 17, 18, 19, 20, 21, 22]) <|
          .cond (.tmp 22)
            (.seq (.region [⟨some 2, .mv (.const (.bool false)), none⟩] [2] []) <|
            .ret)
            (.skip))) <|
       .region [⟨some 23, .bin .add (.tmp 7) (.const (.int .i64 (1))), none⟩,
         ⟨some 7, .mv (.tmp 23), none⟩] [0, 5, 6, 7] []))) <|
  .seq (.region [⟨some 24, .mv (.tmp 0), none⟩,
     ⟨some 25, .len (.tmp 24), none⟩,
     ⟨some 26, .bin .leq (.tmp 25) (.const (.int .i64 (40))), none⟩,
     ⟨some 2, .mv (.tmp 26), none⟩] [2] []) <|
  .ret
theorem Cd.impl_ValidDeck_rs : Try.f25.results.toList = [.tmp 2] := rfl
theorem Cd.impl_ValidDeck_nt : Try.f25.ntmps = 27 := rfl
theorem Cd.impl_ValidDeck_ok : CodeIsR Try.prog 25 Try.f25 Cd.impl_ValidDeck := ⟨Try.func25, by kernel_rfl, by decide +kernel⟩
/-- (loop.example/g01012/impl.Card).columns -/
def Cd._impl_Card__columns : ACode :=
  .seq (.region [⟨some 1, .box (.tmp 0), none⟩,
     ⟨some 2, .mv (.const (.int .i64 (0))), none⟩] [1] []) <|
  .seq (.region [⟨some 3, .fieldAddr 0 (.tmp 1), none⟩,
     ⟨some 4, .load false 1 (.tmp 3), none⟩,
     ⟨some 5, .call (.func F.impl_size_int64_) [(.tmp 4)] [], none⟩,
     ⟨some 2, .mv (.tmp 5), none⟩] [2] []) <|
  .ret
theorem Cd._impl_Card__columns_rs : Try.f26.results.toList = [.tmp 2] := rfl
theorem Cd._impl_Card__columns_nt : Try.f26.ntmps = 6 := rfl
theorem Cd._impl_Card__columns_ok : CodeIsR Try.prog 26 Try.f26 Cd._impl_Card__columns := ⟨Try.func26, by kernel_rfl, by decide +kernel⟩
/-- loop.example/g01012/impl.officeColumns -/
def Cd.impl_officeColumns : ACode :=
  .seq (.region [⟨some 1, .box (.tmp 0), none⟩,
     ⟨some 2, .mv (.const (.int .i64 (0))), none⟩] [1] []) <|
  .seq (.seq (.region [⟨some 5, .fieldAddr 0 (.tmp 1), none⟩,
      ⟨some 6, .load false 1 (.tmp 5), none⟩,
      ⟨some 7, .len (.tmp 6), none⟩,
      ⟨some 8, .mv (.const (.int .i64 (0))), none⟩] [6, 7, 8] []) <|
   .block 0 (
     .loop (
       .seq (.region [⟨some 9, .bin .lss (.tmp 8) (.tmp 7), none⟩] [6, 7, 8, 9] []) <|
       .seq (.cond (.tmp 9)
          (.skip)
          (.exit 0)) <|
       .seq (.block 1 (
          .seq (.region [⟨some 10, .idxSl 1 (.tmp 6) (.tmp 8), none⟩,
             ⟨some 11, .load false 1 (.tmp 10), none⟩,
             ⟨some 4, .mv (.tmp 11), none⟩] [4, 6, 7, 8] []) <|
          .seq (.region [⟨some 12, .mv (.tmp 4), none⟩,
             ⟨some 13, .len (.tmp 12), none⟩,
             ⟨some 14, .bin .gtr (.tmp 13) (.const (.int .i64 (0))), none⟩] [4, 6, 7, 8, 14] []) <|
          .cond (.tmp 14)
            (.seq (.region [⟨some 15, .mv (.tmp 4), none⟩,
               ⟨some 16, .idxSl 1 (.tmp 15) (.const (.int .i64 (0))), none⟩,
               ⟨some 17, .load true 1 (.tmp 16), none⟩,
               ⟨some 18, .call (.func F._impl_Card__columns) [(.tmp 17)] [], none⟩,
               ⟨some 2, .mv (.tmp 18), none⟩] [2] []) <|
            .ret)
            (.skip))) <|
       .region [⟨some 19, .bin .add (.tmp 8) (.const (.int .i64 (1))), none⟩,
         ⟨some 8, .mv (.tmp 19), none⟩] [6, 7, 8] []))) <|
  .seq (.region [⟨some 2, .mv (.const (.int .i64 (20))), none⟩] [2] []) <|
  .ret
theorem Cd.impl_officeColumns_rs : Try.f27.results.toList = [.tmp 2] := rfl
theorem Cd.impl_officeColumns_nt : Try.f27.ntmps = 20 := rfl
theorem Cd.impl_officeColumns_ok : CodeIsR Try.prog 27 Try.f27 Cd.impl_officeColumns := ⟨Try.func27, by kernel_rfl, by decide +kernel⟩
/-- loop.example/g01012/laws.szCardS -/
def Cd.laws_szCardS : ACode :=
  .seq (.region [⟨some 4, .mv (.const (.int .i64 (0))), none⟩] [0, 1] []) <|
  .seq (.region [⟨some 6, .mv (.tmp 1), none⟩,
     ⟨some 7, .mv (.tmp 0), none⟩,
     ⟨some 8, .len (.tmp 7), none⟩,
     ⟨some 9, .bin .sub (.tmp 6) (.tmp 8), none⟩,
     ⟨some 1, .mv (.tmp 9), none⟩] [0, 1] []) <|
  .seq (.seq (.region [⟨some 10, .mv (.tmp 1), none⟩,
      ⟨some 11, .bin .lss (.tmp 10) (.const (.int .i64 (0))), none⟩] [0, 1, 11] []) <|
   .cond (.tmp 11)
     (.seq (.region [⟨some 4, .mv (.const (.int .i64 (-1))), none⟩] [4] []) <|
     .ret)
     (.skip)) <|
  .seq (.seq (.region [⟨some 5, .mv (.const (.int .i64 (0))), none⟩] [0, 1, 5] []) <|
   .block 0 (
     .loop (
       .seq (.seq (.region [⟨some 12, .mv (.tmp 5), none⟩,
           ⟨some 13, .mv (.tmp 0), none⟩,
           ⟨some 14, .len (.tmp 13), none⟩,
           ⟨some 15, .bin .lss (.tmp 12) (.tmp 14), none⟩] [0, 1, 5, 15] []) <|
        .cond (.tmp 15)
          (.skip)
          (.exit 0)) <|
       .seq (.block 1 (
          .seq (.region [⟨some 18, .mv (.tmp 0), none⟩,
             ⟨some 19, .mv (.tmp 5), none⟩,
             ⟨some 20, .idxSl 1 (.tmp 18) (.tmp 19), none⟩,
             ⟨some 21, .load true 1 (.tmp 20), none⟩,
             ⟨some 22, .mv (.tmp 1), none⟩,
             ⟨some 23, .call (.func F.laws_szCard) [(.tmp 21), (.tmp 22)] [], none⟩,
             ⟨some 1, .mv (.tmp 23), none⟩] [0, 1, 5] []) <|
          .seq (.region [⟨some 24, .mv (.tmp 1), none⟩,
             ⟨some 25, .bin .lss (.tmp 24) (.const (.int .i64 (0))), none⟩] [0, 1, 5, 25] []) <|
          .cond (.tmp 25)
            (.seq (.region [⟨some 4, .mv (.const (.int .i64 (-1))), none⟩] [4] []) <|
            .ret)
            (.skip))) <|
       .region [⟨some 16, .mv (.tmp 5), none⟩,
         ⟨some 17, .bin .add (.tmp 16) (.const (.int .i64 (1))), none⟩,
         ⟨some 5, .mv (.tmp 17), none⟩] [0, 1, 5] []))) <|
  .seq (.region [⟨some 26, .mv (.tmp 1), none⟩,
     ⟨some 4, .mv (.tmp 26), none⟩] [4] []) <|
  .ret
theorem Cd.laws_szCardS_rs : Try.f28.results.toList = [.tmp 4] := rfl
theorem Cd.laws_szCardS_nt : Try.f28.ntmps = 27 := rfl
theorem Cd.laws_szCardS_ok : CodeIsR Try.prog 28 Try.f28 Cd.laws_szCardS := ⟨Try.func28, by kernel_rfl, by decide +kernel⟩
/-- loop.example/g01012/laws.szTotalS -/
def Cd.laws_szTotalS : ACode :=
  .seq (.region [⟨some 4, .mv (.const (.int .i64 (0))), none⟩] [0, 1] []) <|
  .seq (.region [⟨some 6, .mv (.tmp 1), none⟩,
     ⟨some 7, .mv (.tmp 0), none⟩,
     ⟨some 8, .len (.tmp 7), none⟩,
     ⟨some 9, .bin .sub (.tmp 6) (.tmp 8), none⟩,
     ⟨some 1, .mv (.tmp 9), none⟩] [0, 1] []) <|
  .seq (.seq (.region [⟨some 10, .mv (.tmp 1), none⟩,
      ⟨some 11, .bin .lss (.tmp 10) (.const (.int .i64 (0))), none⟩] [0, 1, 11] []) <|
   .cond (.tmp 11)
     (.seq (.region [⟨some 4, .mv (.const (.int .i64 (-1))), none⟩] [4] []) <|
     .ret)
     (.skip)) <|
  .seq (.seq (.region [⟨some 5, .mv (.const (.int .i64 (0))), none⟩] [0, 1, 5] []) <|
   .block 0 (
     .loop (
       .seq (.seq (.region [⟨some 12, .mv (.tmp 5), none⟩,
           ⟨some 13, .mv (.tmp 0), none⟩,
           ⟨some 14, .len (.tmp 13), none⟩,
           ⟨some 15, .bin .lss (.tmp 12) (.tmp 14), none⟩] [0, 1, 5, 15] []) <|
        .cond (.tmp 15)
          (.skip)
          (.exit 0)) <|
       .seq (.block 1 (
          .seq (.region [⟨some 18, .mv (.tmp 0), none⟩,
             ⟨some 19, .mv (.tmp 5), none⟩,
             ⟨some 20, .idxSl 2 (.tmp 18) (.tmp 19), none⟩,
             ⟨some 21, .load true 2 (.tmp 20), none⟩,
             ⟨some 22, .mv (.tmp 1), none⟩,
             ⟨some 23, .call (.func F.laws_szTotal) [(.tmp 21), (.tmp 22)] [], none⟩,
             ⟨some 1, .mv (.tmp 23), none⟩] [0, 1, 5] []) <|
          .seq (.region [⟨some 24, .mv (.tmp 1), none⟩,
             ⟨some 25, .bin .lss (.tmp 24) (.const (.int .i64 (0))), none⟩] [0, 1, 5, 25] []) <|
          .cond (.tmp 25)
            (.seq (.region [⟨some 4, .mv (.const (.int .i64 (-1))), none⟩] [4] []) <|
            .ret)
            (.skip))) <|
       .region [⟨some 16, .mv (.tmp 5), none⟩,
         ⟨some 17, .bin .add (.tmp 16) (.const (.int .i64 (1))), none⟩,
         ⟨some 5, .mv (.tmp 17), none⟩] [0, 1, 5] []))) <|
  .seq (.region [⟨some 26, .mv (.tmp 1), none⟩,
     ⟨some 4, .mv (.tmp 26), none⟩] [4] []) <|
  .ret
theorem Cd.laws_szTotalS_rs : Try.f29.results.toList = [.tmp 4] := rfl
theorem Cd.laws_szTotalS_nt : Try.f29.ntmps = 27 := rfl
theorem Cd.laws_szTotalS_ok : CodeIsR Try.prog 29 Try.f29 Cd.laws_szTotalS := ⟨Try.func29, by kernel_rfl, by decide +kernel⟩
/-- loop.example/g01012/spec.l00Same DRAWS -/
def Cd.spec_l00Same : ACode :=
  .seq (.region [⟨some 4, .mv (.const (.bool false)), none⟩] [0, 1] []) <|
  .seq (.seq (.region [⟨some 6, .mv (.tmp 0), none⟩,
      ⟨some 7, .len (.tmp 6), none⟩,
      ⟨some 8, .mv (.tmp 1), none⟩,
      ⟨some 9, .len (.tmp 8), none⟩,
      ⟨some 10, .bin .neq (.tmp 7) (.tmp 9), none⟩] [0, 1, 10] []) <|
   .cond (.tmp 10)
     (.seq (.region [⟨some 4, .mv (.const (.bool false)), none⟩] [4] []) <|
     .ret)
     (.skip)) <|
  .seq (.seq (.region [⟨some 5, .mv (.const (.int .i64 (0))), none⟩] [0, 1, 5] []) <|
   .block 0 (
     .loop (
       .seq (.seq (.region [⟨some 11, .mv (.tmp 5), none⟩,
           ⟨some 12, .mv (.tmp 0), none⟩,
           ⟨some 13, .len (.tmp 12), none⟩,
           ⟨some 14, .bin .lss (.tmp 11) (.tmp 13), none⟩] [0, 1, 5, 14] []) <|
        .cond (.tmp 14)
          (.skip)
          (.exit 0)) <|
       .seq (.block 1 (
          .seq (.region [⟨some 17, .mv (.tmp 0), none⟩,
             ⟨some 18, .mv (.tmp 5), none⟩,
             ⟨some 19, .idxSl 1 (.tmp 17) (.tmp 18), none⟩,
             ⟨some 20, .load false 1 (.tmp 19), none⟩,
             ⟨some 21, .mv (.tmp 1), none⟩,
             ⟨some 22, .mv (.tmp 5), none⟩,
             ⟨some 23, .idxSl 1 (.tmp 21) (.tmp 22), none⟩,
             ⟨some 24, .load false 1 (.tmp 23), none⟩,
             ⟨some 25, .bin .neq (.tmp 20) (.tmp 24), none⟩] [0, 1, 5, 25] [17, 18, 20, 21, 19, 22, 23, 24, 25]) <|
          .cond (.tmp 25)
            (.seq (.region [⟨some 4, .mv (.const (.bool false)), none⟩] [4] []) <|
            .ret)
            (.skip))) <|
       .region [⟨some 15, .mv (.tmp 5), none⟩,
         ⟨some 16, .bin .add (.tmp 15) (.const (.int .i64 (1))), none⟩,
         ⟨some 5, .mv (.tmp 16), none⟩] [0, 1, 5] []))) <|
  .seq (.region [⟨some 4, .mv (.const (.bool true)), none⟩] [4] []) <|
  .ret
theorem Cd.spec_l00Same_rs : Try.f30.results.toList = [.tmp 4] := rfl
theorem Cd.spec_l00Same_nt : Try.f30.ntmps = 26 := rfl
theorem Cd.spec_l00Same_ok : CodeIsR Try.prog 30 Try.f30 Cd.spec_l00Same := ⟨Try.func30, by kernel_rfl, by decide +kernel⟩
/-- loop.example/g01012/laws.toCardS -/
def Cd.laws_toCardS : ACode :=
  .seq (.region [⟨some 2, .mv (.const (.slice none 0 0)), none⟩] [0] []) <|
  .seq (.region [⟨some 5, .mv (.tmp 0), none⟩,
     ⟨some 6, .len (.tmp 5), none⟩,
     ⟨some 7, .mk 1 24 [.v (.slice none 0 0)] (.tmp 6), none⟩,
     ⟨some 3, .mv (.tmp 7), none⟩] [0, 3] []) <|
  .seq (.seq (.region [⟨some 4, .mv (.const (.int .i64 (0))), none⟩] [0, 3, 4] []) <|
   .block 0 (
     .loop (
       .seq (.seq (.region [⟨some 8, .mv (.tmp 4), none⟩,
           ⟨some 9, .mv (.tmp 0), none⟩,
           ⟨some 10, .len (.tmp 9), none⟩,
           ⟨some 11, .bin .lss (.tmp 8) (.tmp 10), none⟩] [0, 3, 4, 11] []) <|
        .cond (.tmp 11)
          (.skip)
          (.exit 0)) <|
       .seq (.block 1 (
          .region [⟨some 14, .mv (.tmp 3), none⟩,
            ⟨some 15, .mv (.tmp 4), none⟩,
            ⟨some 16, .mv (.tmp 0), none⟩,
            ⟨some 17, .mv (.tmp 4), none⟩,
            ⟨some 18, .idxSl 1 (.tmp 16) (.tmp 17), none⟩,
            ⟨some 19, .load true 1 (.tmp 18), none⟩,
            ⟨some 20, .call (.func F.laws_toCard) [(.tmp 19)] [], none⟩,
            ⟨some 21, .idxSl 1 (.tmp 14) (.tmp 15), none⟩,
            ⟨none, .store 1 (.tmp 21) (.tmp 20), none⟩] [0, 3, 4] [])) <|
       .region [⟨some 12, .mv (.tmp 4), none⟩,
         ⟨some 13, .bin .add (.tmp 12) (.const (.int .i64 (1))), none⟩,
         ⟨some 4, .mv (.tmp 13), none⟩] [0, 3, 4] []))) <|
  .seq (.region [⟨some 22, .mv (.tmp 3), none⟩,
     ⟨some 2, .mv (.tmp 22), none⟩] [2] []) <|
  .ret
theorem Cd.laws_toCardS_rs : Try.f31.results.toList = [.tmp 2] := rfl
theorem Cd.laws_toCardS_nt : Try.f31.ntmps = 23 := rfl
theorem Cd.laws_toCardS_ok : CodeIsR Try.prog 31 Try.f31 Cd.laws_toCardS := ⟨Try.func31, by kernel_rfl, by decide +kernel⟩
/-- loop.example/g01012/laws.toTotalS -/
def Cd.laws_toTotalS : ACode :=
  .seq (.region [⟨some 2, .mv (.const (.slice none 0 0)), none⟩] [0] []) <|
  .seq (.region [⟨some 5, .mv (.tmp 0), none⟩,
     ⟨some 6, .len (.tmp 5), none⟩,
     ⟨some 7, .mk 2 24 [.v (.string ⟨#[]⟩), .v (.int .i64 (0))] (.tmp 6), none⟩,
     ⟨some 3, .mv (.tmp 7), none⟩] [0, 3] []) <|
  .seq (.seq (.region [⟨some 4, .mv (.const (.int .i64 (0))), none⟩] [0, 3, 4] []) <|
   .block 0 (
     .loop (
       .seq (.seq (.region [⟨some 8, .mv (.tmp 4), none⟩,
           ⟨some 9, .mv (.tmp 0), none⟩,
           ⟨some 10, .len (.tmp 9), none⟩,
           ⟨some 11, .bin .lss (.tmp 8) (.tmp 10), none⟩] [0, 3, 4, 11] []) <|
        .cond (.tmp 11)
          (.skip)
          (.exit 0)) <|
       .seq (.block 1 (
          .region [⟨some 14, .mv (.tmp 3), none⟩,
            ⟨some 15, .mv (.tmp 4), none⟩,
            ⟨some 16, .mv (.tmp 0), none⟩,
            ⟨some 17, .mv (.tmp 4), none⟩,
            ⟨some 18, .idxSl 2 (.tmp 16) (.tmp 17), none⟩,
            ⟨some 19, .load true 2 (.tmp 18), none⟩,
            ⟨some 20, .call (.func F.laws_toTotal) [(.tmp 19)] [], none⟩,
            ⟨some 21, .idxSl 2 (.tmp 14) (.tmp 15), none⟩,
            ⟨none, .store 2 (.tmp 21) (.tmp 20), none⟩] [0, 3, 4] [])) <|
       .region [⟨some 12, .mv (.tmp 4), none⟩,
         ⟨some 13, .bin .add (.tmp 12) (.const (.int .i64 (1))), none⟩,
         ⟨some 4, .mv (.tmp 13), none⟩] [0, 3, 4] []))) <|
  .seq (.region [⟨some 22, .mv (.tmp 3), none⟩,
     ⟨some 2, .mv (.tmp 22), none⟩] [2] []) <|
  .ret
theorem Cd.laws_toTotalS_rs : Try.f32.results.toList = [.tmp 2] := rfl
theorem Cd.laws_toTotalS_nt : Try.f32.ntmps = 23 := rfl
theorem Cd.laws_toTotalS_ok : CodeIsR Try.prog 32 Try.f32 Cd.laws_toTotalS := ⟨Try.func32, by kernel_rfl, by decide +kernel⟩
/-- slices.EqualFunc[[]loop.example/g01012/impl.Card,[]loop.example/g01012/impl.Card,loop.example/g01012/impl.Card,loop.example/g01012/impl.Card] -/
def Cd.slices_EqualFunc___impl_Card___impl_Card_impl_Card_impl_Card_ : ACode :=
  .seq (.region [⟨some 6, .mv (.const (.bool false)), none⟩] [0, 1, 2] []) <|
  .seq (.seq (.region [⟨some 10, .mv (.tmp 0), none⟩,
      ⟨some 11, .len (.tmp 10), none⟩,
      ⟨some 12, .mv (.tmp 1), none⟩,
      ⟨some 13, .len (.tmp 12), none⟩,
      ⟨some 14, .bin .neq (.tmp 11) (.tmp 13), none⟩] [0, 1, 2, 14] []) <|
   .cond (.tmp 14)
     (.seq (.region [⟨some 6, .mv (.const (.bool false)), none⟩] [6] []) <|
     .ret)
     (.skip)) <|
  .seq (.seq (.region [⟨some 15, .mv (.tmp 0), none⟩,
      ⟨some 16, .len (.tmp 15), none⟩,
      ⟨some 17, .mv (.const (.int .i64 (0))), none⟩] [1, 2, 15, 16, 17] []) <|
   .block 0 (
     .loop (
       .seq (.region [⟨some 18, .bin .lss (.tmp 17) (.tmp 16), none⟩] [1, 2, 15, 16, 17, 18] []) <|
       .seq (.cond (.tmp 18)
          (.skip)
          (.exit 0)) <|
       .seq (.block 1 (
          .seq (.region [⟨some 19, .mv (.tmp 17), none⟩,
             ⟨some 20, .idxSl 1 (.tmp 15) (.tmp 17), none⟩,
             ⟨some 21, .load true 1 (.tmp 20), none⟩,
             ⟨some 8, .alloc [.v (.slice none 0 0)], none⟩,
             ⟨some 7, .mv (.tmp 19), none⟩,
             ⟨none, .store 1 (.tmp 8) (.tmp 21), none⟩] [1, 2, 7, 8, 15, 16, 17] []) <|
          .seq (.region [⟨some 22, .mv (.tmp 1), none⟩,
             ⟨some 23, .mv (.tmp 7), none⟩,
             ⟨some 24, .idxSl 1 (.tmp 22) (.tmp 23), none⟩,
             ⟨some 25, .load true 1 (.tmp 24), none⟩,
             ⟨some 9, .alloc [.v (.slice none 0 0)], none⟩,
             ⟨none, .store 1 (.tmp 9) (.tmp 25), none⟩] [1, 2, 8, 9, 15, 16, 17] []) <|
          .seq (.region [⟨some 26, .mv (.tmp 2), none⟩,
             ⟨some 27, .load true 1 (.tmp 8), none⟩,
             ⟨some 28, .load true 1 (.tmp 9), none⟩,
             ⟨some 29, .call (.tmp 26) [(.tmp 27), (.tmp 28)] [], none⟩,
             ⟨some 30, .un .not (.tmp 29), none⟩] [1, 2, 15, 16, 17, 30] []) <|
          .cond (.tmp 30)
            (.seq (.region [⟨some 6, .mv (.const (.bool false)), none⟩] [6] []) <|
            .ret)
            (.skip))) <|
       .region [⟨some 31, .bin .add (.tmp 17) (.const (.int .i64 (1))), none⟩,
         ⟨some 17, .mv (.tmp 31), none⟩] [1, 2, 15, 16, 17] []))) <|
  .seq (.region [⟨some 6, .mv (.const (.bool true)), none⟩] [6] []) <|
  .ret
theorem Cd.slices_EqualFunc___impl_Card___impl_Card_impl_Card_impl_Card__rs : Try.f33.results.toList = [.tmp 6] := rfl
theorem Cd.slices_EqualFunc___impl_Card___impl_Card_impl_Card_impl_Card__nt : Try.f33.ntmps = 32 := rfl
theorem Cd.slices_EqualFunc___impl_Card___impl_Card_impl_Card_impl_Card__ok : CodeIsR Try.prog 33 Try.f33 Cd.slices_EqualFunc___impl_Card___impl_Card_impl_Card_impl_Card_ := ⟨Try.func33, by kernel_rfl, by decide +kernel⟩
/-- loop.example/g01012/impl.SameCard -/
def Cd.impl_SameCard : ACode :=
  .seq (.region [⟨some 2, .box (.tmp 0), none⟩,
     ⟨some 3, .box (.tmp 1), none⟩,
     ⟨some 4, .mv (.const (.bool false)), none⟩] [2, 3] []) <|
  .seq (.region [⟨some 5, .fieldAddr 0 (.tmp 2), none⟩,
     ⟨some 6, .load false 1 (.tmp 5), none⟩,
     ⟨some 7, .fieldAddr 0 (.tmp 3), none⟩,
     ⟨some 8, .load false 1 (.tmp 7), none⟩,
     ⟨some 9, .call (.func F.slices_Equal___int64_int64_) [(.tmp 6), (.tmp 8)] [], none⟩,
     ⟨some 4, .mv (.tmp 9), none⟩] [4] []) <|
  .ret
theorem Cd.impl_SameCard_rs : Try.f34.results.toList = [.tmp 4] := rfl
theorem Cd.impl_SameCard_nt : Try.f34.ntmps = 10 := rfl
theorem Cd.impl_SameCard_ok : CodeIsR Try.prog 34 Try.f34 Cd.impl_SameCard := ⟨Try.func34, by kernel_rfl, by decide +kernel⟩
/-- loop.example/g01012/laws.eqCardS DRAWS -/
def Cd.laws_eqCardS : ACode :=
  .seq (.region [⟨some 4, .mv (.const (.bool false)), none⟩] [0, 1] []) <|
  .seq (.seq (.region [⟨some 6, .mv (.tmp 0), none⟩,
      ⟨some 7, .len (.tmp 6), none⟩,
      ⟨some 8, .mv (.tmp 1), none⟩,
      ⟨some 9, .len (.tmp 8), none⟩,
      ⟨some 10, .bin .neq (.tmp 7) (.tmp 9), none⟩] [0, 1, 10] []) <|
   .cond (.tmp 10)
     (.seq (.region [⟨some 4, .mv (.const (.bool false)), none⟩] [4] []) <|
     .ret)
     (.skip)) <|
  .seq (.seq (.region [⟨some 5, .mv (.const (.int .i64 (0))), none⟩] [0, 1, 5] []) <|
   .block 0 (
     .loop (
       .seq (.seq (.region [⟨some 11, .mv (.tmp 5), none⟩,
           ⟨some 12, .mv (.tmp 0), none⟩,
           ⟨some 13, .len (.tmp 12), none⟩,
           ⟨some 14, .bin .lss (.tmp 11) (.tmp 13), none⟩] [0, 1, 5, 14] []) <|
        .cond (.tmp 14)
          (.skip)
          (.exit 0)) <|
       .seq (.block 1 (
          .seq (.region [⟨some 17, .mv (.tmp 0), none⟩,
             ⟨some 18, .mv (.tmp 5), none⟩,
             ⟨some 19, .idxSl 1 (.tmp 17) (.tmp 18), none⟩,
             ⟨some 20, .load true 1 (.tmp 19), none⟩,
             ⟨some 21, .mv (.tmp 1), none⟩,
             ⟨some 22, .mv (.tmp 5), none⟩,
             ⟨some 23, .idxSl 1 (.tmp 21) (.tmp 22), none⟩,
             ⟨some 24, .load true 1 (.tmp 23), none⟩,
             ⟨some 25, .call (.func F.laws_eqCard) [(.tmp 20), (.tmp 24)] [], none⟩,
             ⟨some 26, .un .not (.tmp 25), none⟩] [0, 1, 5, 26] [17, 18, 20, 21, 19, 22, 23, 24, 25, 26]) <|
          .cond (.tmp 26)
            (.seq (.region [⟨some 4, .mv (.const (.bool false)), none⟩] [4] []) <|
            .ret)
            (.skip))) <|
       .region [⟨some 15, .mv (.tmp 5), none⟩,
         ⟨some 16, .bin .add (.tmp 15) (.const (.int .i64 (1))), none⟩,
         ⟨some 5, .mv (.tmp 16), none⟩] [0, 1, 5] []))) <|
  .seq (.region [⟨some 4, .mv (.const (.bool true)), none⟩] [4] []) <|
  .ret
theorem Cd.laws_eqCardS_rs : Try.f35.results.toList = [.tmp 4] := rfl
theorem Cd.laws_eqCardS_nt : Try.f35.ntmps = 27 := rfl
theorem Cd.laws_eqCardS_ok : CodeIsR Try.prog 35 Try.f35 Cd.laws_eqCardS := ⟨Try.func35, by kernel_rfl, by decide +kernel⟩
/-- loop.example/g01012/laws.eqTotalS DRAWS -/
def Cd.laws_eqTotalS : ACode :=
  .seq (.region [⟨some 4, .mv (.const (.bool false)), none⟩] [0, 1] []) <|
  .seq (.seq (.region [⟨some 6, .mv (.tmp 0), none⟩,
      ⟨some 7, .len (.tmp 6), none⟩,
      ⟨some 8, .mv (.tmp 1), none⟩,
      ⟨some 9, .len (.tmp 8), none⟩,
      ⟨some 10, .bin .neq (.tmp 7) (.tmp 9), none⟩] [0, 1, 10] []) <|
   .cond (.tmp 10)
     (.seq (.region [⟨some 4, .mv (.const (.bool false)), none⟩] [4] []) <|
     .ret)
     (.skip)) <|
  .seq (.seq (.region [⟨some 5, .mv (.const (.int .i64 (0))), none⟩] [0, 1, 5] []) <|
   .block 0 (
     .loop (
       .seq (.seq (.region [⟨some 11, .mv (.tmp 5), none⟩,
           ⟨some 12, .mv (.tmp 0), none⟩,
           ⟨some 13, .len (.tmp 12), none⟩,
           ⟨some 14, .bin .lss (.tmp 11) (.tmp 13), none⟩] [0, 1, 5, 14] []) <|
        .cond (.tmp 14)
          (.skip)
          (.exit 0)) <|
       .seq (.block 1 (
          .seq (.region [⟨some 17, .mv (.tmp 0), none⟩,
             ⟨some 18, .mv (.tmp 5), none⟩,
             ⟨some 19, .idxSl 2 (.tmp 17) (.tmp 18), none⟩,
             ⟨some 20, .load true 2 (.tmp 19), none⟩,
             ⟨some 21, .mv (.tmp 1), none⟩,
             ⟨some 22, .mv (.tmp 5), none⟩,
             ⟨some 23, .idxSl 2 (.tmp 21) (.tmp 22), none⟩,
             ⟨some 24, .load true 2 (.tmp 23), none⟩,
             ⟨some 25, .call (.func F.laws_eqTotal) [(.tmp 20), (.tmp 24)] [], none⟩,
             ⟨some 26, .un .not (.tmp 25), none⟩] [0, 1, 5, 26] [17, 18, 20, 21, 19, 22, 23, 24, 25, 26]) <|
          .cond (.tmp 26)
            (.seq (.region [⟨some 4, .mv (.const (.bool false)), none⟩] [4] []) <|
            .ret)
            (.skip))) <|
       .region [⟨some 15, .mv (.tmp 5), none⟩,
         ⟨some 16, .bin .add (.tmp 15) (.const (.int .i64 (1))), none⟩,
         ⟨some 5, .mv (.tmp 16), none⟩] [0, 1, 5] []))) <|
  .seq (.region [⟨some 4, .mv (.const (.bool true)), none⟩] [4] []) <|
  .ret
theorem Cd.laws_eqTotalS_rs : Try.f36.results.toList = [.tmp 4] := rfl
theorem Cd.laws_eqTotalS_nt : Try.f36.ntmps = 27 := rfl
theorem Cd.laws_eqTotalS_ok : CodeIsR Try.prog 36 Try.f36 Cd.laws_eqTotalS := ⟨Try.func36, by kernel_rfl, by decide +kernel⟩
/-- loop.example/g01012/spec.l02Deck DRAWS -/
def Cd.spec_l02Deck : ACode :=
  .seq (.region [⟨some 2, .mv (.const (.bool false)), none⟩] [0] []) <|
  .seq (.seq (.region [⟨some 3, .mv (.const (.int .i64 (0))), none⟩] [0, 3] []) <|
   .block 0 (
     .loop (
       .seq (.seq (.region [⟨some 4, .mv (.tmp 3), none⟩,
           ⟨some 5, .mv (.tmp 0), none⟩,
           ⟨some 6, .len (.tmp 5), none⟩,
           ⟨some 7, .bin .lss (.tmp 4) (.tmp 6), none⟩] [0, 3, 7] []) <|
        .cond (.tmp 7)
          (.skip)
          (.exit 0)) <|
       .seq (.block 1 (
          .seq (.region [⟨some 10, .mv (.tmp 0), none⟩,
             ⟨some 11, .mv (.tmp 3), none⟩,
             ⟨some 12, .idxSl 1 (.tmp 10) (.tmp 11), none⟩,
             ⟨some 13, .call (.func F.spec_l02Ok) [(.tmp 12)] [], none⟩,
             ⟨some 14, .un .not (.tmp 13), none⟩,
             ⟨some 15, .mv (.tmp 14), none⟩,
             ⟨some 16, .mv (.tmp 0), some (15, false)⟩,
             ⟨some 17, .mv (.tmp 3), some (15, false)⟩,
             ⟨some 18, .idxSl 1 (.tmp 16) (.tmp 17), some (15, false)⟩,
             ⟨some 19, .fieldAddr 0 (.tmp 18), some (15, false)⟩,
             ⟨some 20, .load false 1 (.tmp 19), some (15, false)⟩,
             ⟨some 21, .len (.tmp 20), some (15, false)⟩,
             ⟨some 22, .mv (.tmp 0), some (15, false)⟩,
             ⟨some 23, .idxSl 1 (.tmp 22) (.const (.int .i64 (0))), some (15, false)⟩,
             ⟨some 24, .fieldAddr 0 (.tmp 23), some (15, false)⟩,
             ⟨some 25, .load false 1 (.tmp 24), some (15, false)⟩,
             ⟨some 26, .len (.tmp 25), some (15, false)⟩,
             ⟨some 27, .bin .neq (.tmp 21) (.tmp 26), some (15, false)⟩,
             ⟨some 28, .pick (.tmp 15) (.const (.bool true)) (.tmp 27), none⟩] [0, 3, 28] [10, 11, 13, 14, 12, 15, 16, 17, 18, 19, 20, 21, 22, 23, 24, 25, 26, 27, 28]) <|
          .cond (.tmp 28)
            (.seq (.region [⟨some 2, .mv (.const (.bool false)), none⟩] [2] []) <|
            .ret)
            (.skip))) <|
       .region [⟨some 8, .mv (.tmp 3), none⟩,
         ⟨some 9, .bin .add (.tmp 8) (.const (.int .i64 (1))), none⟩,
         ⟨some 3, .mv (.tmp 9), none⟩] [0, 3] []))) <|
  .seq (.region [⟨some 29, .mv (.tmp 0), none⟩,
     ⟨some 30, .len (.tmp 29), none⟩,
     ⟨some 31, .bin .leq (.tmp 30) (.const (.int .i64 (40))), none⟩,
     ⟨some 2, .mv (.tmp 31), none⟩] [2] []) <|
  .ret
theorem Cd.spec_l02Deck_rs : Try.f37.results.toList = [.tmp 2] := rfl
theorem Cd.spec_l02Deck_nt : Try.f37.ntmps = 32 := rfl
theorem Cd.spec_l02Deck_ok : CodeIsR Try.prog 37 Try.f37 Cd.spec_l02Deck := ⟨Try.func37, by kernel_rfl, by decide +kernel⟩
/-- loop.example/g01012/spec.l15Width -/
def Cd.spec_l15Width : ACode :=
  .seq (.region [⟨some 2, .mv (.const (.int .i64 (0))), none⟩] [0] []) <|
  .seq (.seq (.region [⟨some 3, .mv (.const (.int .i64 (0))), none⟩] [0, 3] []) <|
   .block 0 (
     .loop (
       .seq (.seq (.region [⟨some 4, .mv (.tmp 3), none⟩,
           ⟨some 5, .mv (.tmp 0), none⟩,
           ⟨some 6, .nilc (.tmp 5), none⟩,
           ⟨some 7, .fieldAddr 0 (.tmp 6), none⟩,
           ⟨some 8, .load false 1 (.tmp 7), none⟩,
           ⟨some 9, .len (.tmp 8), none⟩,
           ⟨some 10, .bin .lss (.tmp 4) (.tmp 9), none⟩] [0, 3, 10] []) <|
        .cond (.tmp 10)
          (.skip)
          (.exit 0)) <|
       .seq (.block 1 (
          .seq (.region [⟨some 13, .mv (.tmp 0), none⟩,
             ⟨some 14, .nilc (.tmp 13), none⟩,
             ⟨some 15, .fieldAddr 0 (.tmp 14), none⟩,
             ⟨some 16, .load false 1 (.tmp 15), none⟩,
             ⟨some 17, .mv (.tmp 3), none⟩,
             ⟨some 18, .idxSl 1 (.tmp 16) (.tmp 17), none⟩,
             ⟨some 19, .load false 1 (.tmp 18), none⟩,
             ⟨some 20, .len (.tmp 19), none⟩,
             ⟨some 21, .bin .gtr (.tmp 20) (.const (.int .i64 (0))), none⟩] [0, 3, 21] []) <|
          .cond (.tmp 21)
            (.seq (.region [⟨some 22, .mv (.tmp 0), none⟩,
               ⟨some 23, .nilc (.tmp 22), none⟩,
               ⟨some 24, .fieldAddr 0 (.tmp 23), none⟩,
               ⟨some 25, .load false 1 (.tmp 24), none⟩,
               ⟨some 26, .mv (.tmp 3), none⟩,
               ⟨some 27, .idxSl 1 (.tmp 25) (.tmp 26), none⟩,
               ⟨some 28, .load false 1 (.tmp 27), none⟩,
               ⟨some 29, .idxSl 1 (.tmp 28) (.const (.int .i64 (0))), none⟩,
               ⟨some 30, .fieldAddr 0 (.tmp 29), none⟩,
               ⟨some 31, .load false 1 (.tmp 30), none⟩,
               ⟨some 32, .len (.tmp 31), none⟩,
               ⟨some 2, .mv (.tmp 32), none⟩] [2] []) <|
            .ret)
            (.skip))) <|
       .region [⟨some 11, .mv (.tmp 3), none⟩,
         ⟨some 12, .bin .add (.tmp 11) (.const (.int .i64 (1))), none⟩,
         ⟨some 3, .mv (.tmp 12), none⟩] [0, 3] []))) <|
  .seq (.region [⟨some 2, .mv (.const (.int .i64 (20))), none⟩] [2] []) <|
  .ret
theorem Cd.spec_l15Width_rs : Try.f38.results.toList = [.tmp 2] := rfl
theorem Cd.spec_l15Width_nt : Try.f38.ntmps = 33 := rfl
theorem Cd.spec_l15Width_ok : CodeIsR Try.prog 38 Try.f38 Cd.spec_l15Width := ⟨Try.func38, by kernel_rfl, by decide +kernel⟩
/-- loop.example/g01012/impl.ValidCard -/
def Cd.impl_ValidCard : ACode :=
  .seq (.region [⟨some 1, .box (.tmp 0), none⟩,
     ⟨some 2, .mv (.const (.bool false)), none⟩] [1] []) <|
  .seq (.region [⟨some 3, .load true 1 (.tmp 1), none⟩,
     ⟨some 4, .call (.func F._impl_Card__columns) [(.tmp 3)] [], none⟩,
     ⟨some 5, .call (.func F.impl_inside) [(.tmp 4), (.const (.int .i64 (1))), (.const (.int .i64 (20)))] [], none⟩,
     ⟨some 6, .mv (.tmp 5), none⟩,
     ⟨some 7, .fieldAddr 0 (.tmp 1), some (6, true)⟩,
     ⟨some 8, .load false 1 (.tmp 7), some (6, true)⟩,
     ⟨some 9, .call (.func F.slices_ContainsFunc___int64_int64_) [(.tmp 8), (.func F.impl_ValidCard_1)] [], some (6, true)⟩,
     ⟨some 10, .un .not (.tmp 9), some (6, true)⟩,
     ⟨some 11, .pick (.tmp 6) (.tmp 10) (.const (.bool false)), none⟩,
     ⟨some 2, .mv (.tmp 11), none⟩] [2] []) <|
  .ret
theorem Cd.impl_ValidCard_rs : Try.f39.results.toList = [.tmp 2] := rfl
theorem Cd.impl_ValidCard_nt : Try.f39.ntmps = 12 := rfl
theorem Cd.impl_ValidCard_ok : CodeIsR Try.prog 39 Try.f39 Cd.impl_ValidCard := ⟨Try.func39, by kernel_rfl, by decide +kernel⟩
/-- loop.example/g01012/impl.size[int64] -/
def Cd.impl_size_int64_ : ACode :=
  .seq (.region [⟨some 2, .mv (.const (.int .i64 (0))), none⟩] [0] []) <|
  .seq (.region [⟨some 3, .mv (.tmp 0), none⟩,
     ⟨some 4, .len (.tmp 3), none⟩,
     ⟨some 2, .mv (.tmp 4), none⟩] [2] []) <|
  .ret
theorem Cd.impl_size_int64__rs : Try.f40.results.toList = [.tmp 2] := rfl
theorem Cd.impl_size_int64__nt : Try.f40.ntmps = 5 := rfl
theorem Cd.impl_size_int64__ok : CodeIsR Try.prog 40 Try.f40 Cd.impl_size_int64_ := ⟨Try.func40, by kernel_rfl, by decide +kernel⟩
/-- loop.example/g01012/laws.szCard -/
def Cd.laws_szCard : ACode :=
  .seq (.region [⟨some 2, .box (.tmp 0), none⟩,
     ⟨some 4, .mv (.const (.int .i64 (0))), none⟩] [1, 2] []) <|
  .seq (.region [⟨some 5, .fieldAddr 0 (.tmp 2), none⟩,
     ⟨some 6, .load false 1 (.tmp 5), none⟩,
     ⟨some 7, .mv (.tmp 1), none⟩,
     ⟨some 8, .call (.func F.laws_szInt64S) [(.tmp 6), (.tmp 7)] [], none⟩,
     ⟨some 1, .mv (.tmp 8), none⟩] [1] []) <|
  .seq (.seq (.region [⟨some 9, .mv (.tmp 1), none⟩,
      ⟨some 10, .bin .lss (.tmp 9) (.const (.int .i64 (0))), none⟩] [1, 10] []) <|
   .cond (.tmp 10)
     (.seq (.region [⟨some 4, .mv (.const (.int .i64 (-1))), none⟩] [4] []) <|
     .ret)
     (.skip)) <|
  .seq (.region [⟨some 11, .mv (.tmp 1), none⟩,
     ⟨some 4, .mv (.tmp 11), none⟩] [4] []) <|
  .ret
theorem Cd.laws_szCard_rs : Try.f41.results.toList = [.tmp 4] := rfl
theorem Cd.laws_szCard_nt : Try.f41.ntmps = 12 := rfl
theorem Cd.laws_szCard_ok : CodeIsR Try.prog 41 Try.f41 Cd.laws_szCard := ⟨Try.func41, by kernel_rfl, by decide +kernel⟩
/-- loop.example/g01012/laws.szTotal -/
def Cd.laws_szTotal : ACode :=
  .seq (.region [⟨some 2, .box (.tmp 0), none⟩,
     ⟨some 4, .mv (.const (.int .i64 (0))), none⟩] [1, 2] []) <|
  .seq (.region [⟨some 5, .mv (.tmp 1), none⟩,
     ⟨some 6, .fieldAddr 0 (.tmp 2), none⟩,
     ⟨some 7, .load false 1 (.tmp 6), none⟩,
     ⟨some 8, .lenS (.tmp 7), none⟩,
     ⟨some 9, .bin .sub (.tmp 5) (.tmp 8), none⟩,
     ⟨some 1, .mv (.tmp 9), none⟩] [1] []) <|
  .seq (.seq (.region [⟨some 10, .mv (.tmp 1), none⟩,
      ⟨some 11, .bin .lss (.tmp 10) (.const (.int .i64 (0))), none⟩] [1, 11] []) <|
   .cond (.tmp 11)
     (.seq (.region [⟨some 4, .mv (.const (.int .i64 (-1))), none⟩] [4] []) <|
     .ret)
     (.skip)) <|
  .seq (.region [⟨some 12, .mv (.tmp 1), none⟩,
     ⟨some 4, .mv (.tmp 12), none⟩] [4] []) <|
  .ret
theorem Cd.laws_szTotal_rs : Try.f42.results.toList = [.tmp 4] := rfl
theorem Cd.laws_szTotal_nt : Try.f42.ntmps = 13 := rfl
theorem Cd.laws_szTotal_ok : CodeIsR Try.prog 42 Try.f42 Cd.laws_szTotal := ⟨Try.func42, by kernel_rfl, by decide +kernel⟩
/-- loop.example/g01012/laws.toCard -/
def Cd.laws_toCard : ACode :=
  .seq (.region [⟨some 1, .box (.tmp 0), none⟩,
     ⟨some 2, .alloc [.v (.slice none 0 0)], none⟩] [1, 2] []) <|
  .seq (.region [⟨some 3, .alloc [.v (.slice none 0 0)], none⟩] [1, 2, 3] []) <|
  .seq (.region [⟨some 4, .fieldAddr 0 (.tmp 1), none⟩,
     ⟨some 5, .load false 1 (.tmp 4), none⟩,
     ⟨some 6, .call (.func F.laws_toInt64S) [(.tmp 5)] [], none⟩,
     ⟨some 7, .fieldAddr 0 (.tmp 3), none⟩,
     ⟨none, .store 1 (.tmp 7) (.tmp 6), none⟩] [2, 3] []) <|
  .seq (.region [⟨some 8, .load true 1 (.tmp 3), none⟩,
     ⟨none, .store 1 (.tmp 2) (.tmp 8), none⟩] [2] []) <|
  .ret
theorem Cd.laws_toCard_rs : Try.f43.results.toList = [.cell 2 55] := rfl
theorem Cd.laws_toCard_nt : Try.f43.ntmps = 9 := rfl
theorem Cd.laws_toCard_ok : CodeIsR Try.prog 43 Try.f43 Cd.laws_toCard := ⟨Try.func43, by kernel_rfl, by decide +kernel⟩
/-- loop.example/g01012/laws.toTotal -/
def Cd.laws_toTotal : ACode :=
  .seq (.region [⟨some 1, .box (.tmp 0), none⟩,
     ⟨some 2, .alloc [.v (.string ⟨#[]⟩), .v (.int .i64 (0))], none⟩] [1, 2] []) <|
  .seq (.region [⟨some 3, .alloc [.v (.string ⟨#[]⟩), .v (.int .i64 (0))], none⟩] [1, 2, 3] []) <|
  .seq (.region [⟨some 4, .fieldAddr 0 (.tmp 1), none⟩,
     ⟨some 5, .load false 1 (.tmp 4), none⟩,
     ⟨some 6, .fieldAddr 0 (.tmp 3), none⟩,
     ⟨none, .store 1 (.tmp 6) (.tmp 5), none⟩] [1, 2, 3] []) <|
  .seq (.region [⟨some 7, .fieldAddr 1 (.tmp 1), none⟩,
     ⟨some 8, .load false 1 (.tmp 7), none⟩,
     ⟨some 9, .fieldAddr 1 (.tmp 3), none⟩,
     ⟨none, .store 1 (.tmp 9) (.tmp 8), none⟩] [2, 3] []) <|
  .seq (.region [⟨some 10, .load true 2 (.tmp 3), none⟩,
     ⟨none, .store 2 (.tmp 2) (.tmp 10), none⟩] [2] []) <|
  .ret
theorem Cd.laws_toTotal_rs : Try.f44.results.toList = [.cell 2 47] := rfl
theorem Cd.laws_toTotal_nt : Try.f44.ntmps = 11 := rfl
theorem Cd.laws_toTotal_ok : CodeIsR Try.prog 44 Try.f44 Cd.laws_toTotal := ⟨Try.func44, by kernel_rfl, by decide +kernel⟩
/-- slices.Equal[[]int64,int64] DRAWS -/
def Cd.slices_Equal___int64_int64_ : ACode :=
  .seq (.region [⟨some 4, .mv (.const (.bool false)), none⟩] [0, 1] []) <|
  .seq (.seq (.region [⟨some 6, .mv (.tmp 0), none⟩,
      ⟨some 7, .len (.tmp 6), none⟩,
      ⟨some 8, .mv (.tmp 1), none⟩,
      ⟨some 9, .len (.tmp 8), none⟩,
      ⟨some 10, .bin .neq (.tmp 7) (.tmp 9), none⟩] [0, 1, 10] []) <|
   .cond (.tmp 10)
     (.seq (.region [⟨some 4, .mv (.const (.bool false)), none⟩] [4] []) <|
     .ret)
     (.skip)) <|
  .seq (.seq (.region [⟨some 11, .mv (.tmp 0), none⟩,
      ⟨some 12, .len (.tmp 11), none⟩,
      ⟨some 13, .mv (.const (.int .i64 (0))), none⟩] [0, 1, 12, 13] []) <|
   .block 0 (
     .loop (
       .seq (.region [⟨some 14, .bin .lss (.tmp 13) (.tmp 12), none⟩] [0, 1, 12, 13, 14] []) <|
       .seq (.cond (.tmp 14)
          (.skip)
          (.exit 0)) <|
       .seq (.block 1 (
          .seq (.region [⟨some 15, .mv (.tmp 13), none⟩,
             ⟨some 5, .mv (.tmp 15), none⟩] [0, 1, 5, 12, 13] []) <|
          .seq (.region [⟨some 16, .mv (.tmp 0), none⟩,
             ⟨some 17, .mv (.tmp 5), none⟩,
             ⟨some 18, .idxSl 1 (.tmp 16) (.tmp 17), none⟩,
             ⟨some 19, .load false 1 (.tmp 18), none⟩,
             ⟨some 20, .mv (.tmp 1), none⟩,
             ⟨some 21, .mv (.tmp 5), none⟩,
             ⟨some 22, .idxSl 1 (.tmp 20) (.tmp 21), none⟩,
             ⟨some 23, .load false 1 (.tmp 22), none⟩,
             ⟨some 24, .bin .neq (.tmp 19) (.tmp 23), none⟩] [0, 1, 12, 13, 24] [16, 17, 19, 20, 18, 21, 22, 23, 24]) <|
          .cond (.tmp 24)
            (.seq (.region [⟨some 4, .mv (.const (.bool false)), none⟩] [4] []) <|
            .ret)
            (.skip))) <|
       .region [⟨some 25, .bin .add (.tmp 13) (.const (.int .i64 (1))), none⟩,
         ⟨some 13, .mv (.tmp 25), none⟩] [0, 1, 12, 13] []))) <|
  .seq (.region [⟨some 4, .mv (.const (.bool true)), none⟩] [4] []) <|
  .ret
theorem Cd.slices_Equal___int64_int64__rs : Try.f45.results.toList = [.tmp 4] := rfl
theorem Cd.slices_Equal___int64_int64__nt : Try.f45.ntmps = 26 := rfl
theorem Cd.slices_Equal___int64_int64__ok : CodeIsR Try.prog 45 Try.f45 Cd.slices_Equal___int64_int64_ := ⟨Try.func45, by kernel_rfl, by decide +kernel⟩
/-- loop.example/g01012/laws.eqCard -/
def Cd.laws_eqCard : ACode :=
  .seq (.region [⟨some 2, .box (.tmp 0), none⟩,
     ⟨some 3, .box (.tmp 1), none⟩,
     ⟨some 4, .mv (.const (.bool false)), none⟩] [2, 3] []) <|
  .seq (.seq (.region [⟨some 5, .fieldAddr 0 (.tmp 2), none⟩,
      ⟨some 6, .load false 1 (.tmp 5), none⟩,
      ⟨some 7, .fieldAddr 0 (.tmp 3), none⟩,
      ⟨some 8, .load false 1 (.tmp 7), none⟩,
      ⟨some 9, .call (.func F.laws_eqInt64S) [(.tmp 6), (.tmp 8)] [], none⟩,
      ⟨some 10, .un .not (.tmp 9), none⟩] [10] []) <|
   .cond (.tmp 10)
     (.seq (.region [⟨some 4, .mv (.const (.bool false)), none⟩] [4] []) <|
     .ret)
     (.skip)) <|
  .seq (.region [⟨some 4, .mv (.const (.bool true)), none⟩] [4] []) <|
  .ret
theorem Cd.laws_eqCard_rs : Try.f46.results.toList = [.tmp 4] := rfl
theorem Cd.laws_eqCard_nt : Try.f46.ntmps = 11 := rfl
theorem Cd.laws_eqCard_ok : CodeIsR Try.prog 46 Try.f46 Cd.laws_eqCard := ⟨Try.func46, by kernel_rfl, by decide +kernel⟩
/-- loop.example/g01012/laws.eqTotal -/
def Cd.laws_eqTotal : ACode :=
  .seq (.region [⟨some 2, .box (.tmp 0), none⟩,
     ⟨some 3, .box (.tmp 1), none⟩,
     ⟨some 4, .mv (.const (.bool false)), none⟩] [2, 3] []) <|
  .seq (.seq (.region [⟨some 5, .fieldAddr 0 (.tmp 2), none⟩,
      ⟨some 6, .load false 1 (.tmp 5), none⟩,
      ⟨some 7, .fieldAddr 0 (.tmp 3), none⟩,
      ⟨some 8, .load false 1 (.tmp 7), none⟩,
      ⟨some 9, .binS .neq (.tmp 6) (.tmp 8), none⟩] [2, 3, 9] []) <|
   .cond (.tmp 9)
     (.seq (.region [⟨some 4, .mv (.const (.bool false)), none⟩] [4] []) <|
     .ret)
     (.skip)) <|
  .seq (.seq (.region [⟨some 10, .fieldAddr 1 (.tmp 2), none⟩,
      ⟨some 11, .load false 1 (.tmp 10), none⟩,
      ⟨some 12, .fieldAddr 1 (.tmp 3), none⟩,
      ⟨some 13, .load false 1 (.tmp 12), none⟩,
      ⟨some 14, .bin .neq (.tmp 11) (.tmp 13), none⟩] [14] []) <|
   .cond (.tmp 14)
     (.seq (.region [⟨some 4, .mv (.const (.bool false)), none⟩] [4] []) <|
     .ret)
     (.skip)) <|
  .seq (.region [⟨some 4, .mv (.const (.bool true)), none⟩] [4] []) <|
  .ret
theorem Cd.laws_eqTotal_rs : Try.f47.results.toList = [.tmp 4] := rfl
theorem Cd.laws_eqTotal_nt : Try.f47.ntmps = 15 := rfl
theorem Cd.laws_eqTotal_ok : CodeIsR Try.prog 47 Try.f47 Cd.laws_eqTotal := ⟨Try.func47, by kernel_rfl, by decide +kernel⟩
/-- loop.example/g01012/spec.l02Ok -/
def Cd.spec_l02Ok : ACode :=
  .seq (.region [⟨some 2, .mv (.const (.bool false)), none⟩] [0] []) <|
  .seq (.seq (.region [⟨some 3, .mv (.const (.int .i64 (0))), none⟩] [0, 3] []) <|
   .block 0 (
     .loop (
       .seq (.seq (.region [⟨some 4, .mv (.tmp 3), none⟩,
           ⟨some 5, .mv (.tmp 0), none⟩,
           ⟨some 6, .nilc (.tmp 5), none⟩,
           ⟨some 7, .fieldAddr 0 (.tmp 6), none⟩,
           ⟨some 8, .load false 1 (.tmp 7), none⟩,
           ⟨some 9, .len (.tmp 8), none⟩,
           ⟨some 10, .bin .lss (.tmp 4) (.tmp 9), none⟩] [0, 3, 10] []) <|
        .cond (.tmp 10)
          (.skip)
          (.exit 0)) <|
       .seq (.block 1 (
          .seq (.region [⟨some 13, .mv (.tmp 0), none⟩,
             ⟨some 14, .nilc (.tmp 13), none⟩,
             ⟨some 15, .fieldAddr 0 (.tmp 14), none⟩,
             ⟨some 16, .load false 1 (.tmp 15), none⟩,
             ⟨some 17, .mv (.tmp 3), none⟩,
             ⟨some 18, .idxSl 1 (.tmp 16) (.tmp 17), none⟩,
             ⟨some 19, .load false 1 (.tmp 18), none⟩,
             ⟨some 20, .call (.func F.spec_l00In) [(.tmp 19), (.const (.int .i64 (0))), (.const (.int .i64 (4095)))] [], none⟩,
             ⟨some 21, .un .not (.tmp 20), none⟩] [0, 3, 21] []) <|
          .cond (.tmp 21)
            (.seq (.region [⟨some 2, .mv (.const (.bool false)), none⟩] [2] []) <|
            .ret)
            (.skip))) <|
       .region [⟨some 11, .mv (.tmp 3), none⟩,
         ⟨some 12, .bin .add (.tmp 11) (.const (.int .i64 (1))), none⟩,
         ⟨some 3, .mv (.tmp 12), none⟩] [0, 3] []))) <|
  .seq (.region [⟨some 22, .mv (.tmp 0), none⟩,
     ⟨some 23, .nilc (.tmp 22), none⟩,
     ⟨some 24, .fieldAddr 0 (.tmp 23), none⟩,
     ⟨some 25, .load false 1 (.tmp 24), none⟩,
     ⟨some 26, .len (.tmp 25), none⟩,
     ⟨some 27, .call (.func F.spec_l00In) [(.tmp 26), (.const (.int .i64 (1))), (.const (.int .i64 (20)))] [], none⟩,
     ⟨some 2, .mv (.tmp 27), none⟩] [2] []) <|
  .ret
theorem Cd.spec_l02Ok_rs : Try.f48.results.toList = [.tmp 2] := rfl
theorem Cd.spec_l02Ok_nt : Try.f48.ntmps = 28 := rfl
theorem Cd.spec_l02Ok_ok : CodeIsR Try.prog 48 Try.f48 Cd.spec_l02Ok := ⟨Try.func48, by kernel_rfl, by decide +kernel⟩
/-- loop.example/g01012/impl.inside -/
def Cd.impl_inside : ACode :=
  .seq (.region [⟨some 6, .mv (.const (.bool false)), none⟩] [0, 1, 2] []) <|
  .seq (.region [⟨some 7, .mv (.tmp 0), none⟩,
     ⟨some 8, .mv (.tmp 1), none⟩,
     ⟨some 9, .bin .geq (.tmp 7) (.tmp 8), none⟩,
     ⟨some 10, .mv (.tmp 9), none⟩,
     ⟨some 11, .mv (.tmp 0), some (10, true)⟩,
     ⟨some 12, .mv (.tmp 2), some (10, true)⟩,
     ⟨some 13, .bin .leq (.tmp 11) (.tmp 12), some (10, true)⟩,
     ⟨some 14, .pick (.tmp 10) (.tmp 13) (.const (.bool false)), none⟩,
     ⟨some 6, .mv (.tmp 14), none⟩] [6] []) <|
  .ret
theorem Cd.impl_inside_rs : Try.f49.results.toList = [.tmp 6] := rfl
theorem Cd.impl_inside_nt : Try.f49.ntmps = 15 := rfl
theorem Cd.impl_inside_ok : CodeIsR Try.prog 49 Try.f49 Cd.impl_inside := ⟨Try.func49, by kernel_rfl, by decide +kernel⟩
/-- slices.ContainsFunc[[]int64,int64] -/
def Cd.slices_ContainsFunc___int64_int64_ : ACode :=
  .seq (.region [⟨some 4, .mv (.const (.bool false)), none⟩] [0, 1] []) <|
  .seq (.region [⟨some 5, .mv (.tmp 0), none⟩,
     ⟨some 6, .mv (.tmp 1), none⟩,
     ⟨some 7, .call (.func F.slices_IndexFunc___int64_int64_) [(.tmp 5), (.tmp 6)] [], none⟩,
     ⟨some 8, .bin .geq (.tmp 7) (.const (.int .i64 (0))), none⟩,
     ⟨some 4, .mv (.tmp 8), none⟩] [4] []) <|
  .ret
theorem Cd.slices_ContainsFunc___int64_int64__rs : Try.f50.results.toList = [.tmp 4] := rfl
theorem Cd.slices_ContainsFunc___int64_int64__nt : Try.f50.ntmps = 9 := rfl
theorem Cd.slices_ContainsFunc___int64_int64__ok : CodeIsR Try.prog 50 Try.f50 Cd.slices_ContainsFunc___int64_int64_ := ⟨Try.func50, by kernel_rfl, by decide +kernel⟩
/-- loop.example/g01012/impl.ValidCard$1 -/
def Cd.impl_ValidCard_1 : ACode :=
  .seq (.region [⟨some 2, .mv (.const (.bool false)), none⟩] [0] []) <|
  .seq (.region [⟨some 3, .mv (.tmp 0), none⟩,
     ⟨some 4, .call (.func F.impl_inside) [(.tmp 3), (.const (.int .i64 (0))), (.const (.int .i64 (4095)))] [], none⟩,
     ⟨some 5, .un .not (.tmp 4), none⟩,
     ⟨some 2, .mv (.tmp 5), none⟩] [2] []) <|
  .ret
theorem Cd.impl_ValidCard_1_rs : Try.f51.results.toList = [.tmp 2] := rfl
theorem Cd.impl_ValidCard_1_nt : Try.f51.ntmps = 6 := rfl
theorem Cd.impl_ValidCard_1_ok : CodeIsR Try.prog 51 Try.f51 Cd.impl_ValidCard_1 := ⟨Try.func51, by kernel_rfl, by decide +kernel⟩
/-- loop.example/g01012/laws.szInt64S -/
def Cd.laws_szInt64S : ACode :=
  .seq (.region [⟨some 4, .mv (.const (.int .i64 (0))), none⟩] [0, 1] []) <|
  .seq (.region [⟨some 5, .mv (.tmp 1), none⟩,
     ⟨some 6, .mv (.tmp 0), none⟩,
     ⟨some 7, .len (.tmp 6), none⟩,
     ⟨some 8, .bin .sub (.tmp 5) (.tmp 7), none⟩,
     ⟨some 1, .mv (.tmp 8), none⟩] [1] []) <|
  .seq (.seq (.region [⟨some 9, .mv (.tmp 1), none⟩,
      ⟨some 10, .bin .lss (.tmp 9) (.const (.int .i64 (0))), none⟩] [1, 10] []) <|
   .cond (.tmp 10)
     (.seq (.region [⟨some 4, .mv (.const (.int .i64 (-1))), none⟩] [4] []) <|
     .ret)
     (.skip)) <|
  .seq (.region [⟨some 11, .mv (.tmp 1), none⟩,
     ⟨some 4, .mv (.tmp 11), none⟩] [4] []) <|
  .ret
theorem Cd.laws_szInt64S_rs : Try.f52.results.toList = [.tmp 4] := rfl
theorem Cd.laws_szInt64S_nt : Try.f52.ntmps = 12 := rfl
theorem Cd.laws_szInt64S_ok : CodeIsR Try.prog 52 Try.f52 Cd.laws_szInt64S := ⟨Try.func52, by kernel_rfl, by decide +kernel⟩
/-- loop.example/g01012/laws.toInt64S -/
def Cd.laws_toInt64S : ACode :=
  .seq (.region [⟨some 2, .mv (.const (.slice none 0 0)), none⟩] [0] []) <|
  .seq (.region [⟨some 5, .mv (.tmp 0), none⟩,
     ⟨some 6, .len (.tmp 5), none⟩,
     ⟨some 7, .mk 1 8 [.v (.int .i64 (0))] (.tmp 6), none⟩,
     ⟨some 3, .mv (.tmp 7), none⟩] [0, 3] []) <|
  .seq (.seq (.region [⟨some 4, .mv (.const (.int .i64 (0))), none⟩] [0, 3, 4] []) <|
   .block 0 (
     .loop (
       .seq (.seq (.region [⟨some 8, .mv (.tmp 4), none⟩,
           ⟨some 9, .mv (.tmp 0), none⟩,
           ⟨some 10, .len (.tmp 9), none⟩,
           ⟨some 11, .bin .lss (.tmp 8) (.tmp 10), none⟩] [0, 3, 4, 11] []) <|
        .cond (.tmp 11)
          (.skip)
          (.exit 0)) <|
       .seq (.block 1 (
          .region [⟨some 14, .mv (.tmp 3), none⟩,
            ⟨some 15, .mv (.tmp 4), none⟩,
            ⟨some 16, .mv (.tmp 0), none⟩,
            ⟨some 17, .mv (.tmp 4), none⟩,
            ⟨some 18, .idxSl 1 (.tmp 16) (.tmp 17), none⟩,
            ⟨some 19, .load false 1 (.tmp 18), none⟩,
            ⟨some 20, .idxSl 1 (.tmp 14) (.tmp 15), none⟩,
            ⟨none, .store 1 (.tmp 20) (.tmp 19), none⟩] [0, 3, 4] [])) <|
       .region [⟨some 12, .mv (.tmp 4), none⟩,
         ⟨some 13, .bin .add (.tmp 12) (.const (.int .i64 (1))), none⟩,
         ⟨some 4, .mv (.tmp 13), none⟩] [0, 3, 4] []))) <|
  .seq (.region [⟨some 21, .mv (.tmp 3), none⟩,
     ⟨some 2, .mv (.tmp 21), none⟩] [2] []) <|
  .ret
theorem Cd.laws_toInt64S_rs : Try.f53.results.toList = [.tmp 2] := rfl
theorem Cd.laws_toInt64S_nt : Try.f53.ntmps = 22 := rfl
theorem Cd.laws_toInt64S_ok : CodeIsR Try.prog 53 Try.f53 Cd.laws_toInt64S := ⟨Try.func53, by kernel_rfl, by decide +kernel⟩
/-- loop.example/g01012/laws.eqInt64S DRAWS -/
def Cd.laws_eqInt64S : ACode :=
  .seq (.region [⟨some 4, .mv (.const (.bool false)), none⟩] [0, 1] []) <|
  .seq (.seq (.region [⟨some 6, .mv (.tmp 0), none⟩,
      ⟨some 7, .len (.tmp 6), none⟩,
      ⟨some 8, .mv (.tmp 1), none⟩,
      ⟨some 9, .len (.tmp 8), none⟩,
      ⟨some 10, .bin .neq (.tmp 7) (.tmp 9), none⟩] [0, 1, 10] []) <|
   .cond (.tmp 10)
     (.seq (.region [⟨some 4, .mv (.const (.bool false)), none⟩] [4] []) <|
     .ret)
     (.skip)) <|
  .seq (.seq (.region [⟨some 5, .mv (.const (.int .i64 (0))), none⟩] [0, 1, 5] []) <|
   .block 0 (
     .loop (
       .seq (.seq (.region [⟨some 11, .mv (.tmp 5), none⟩,
           ⟨some 12, .mv (.tmp 0), none⟩,
           ⟨some 13, .len (.tmp 12), none⟩,
           ⟨some 14, .bin .lss (.tmp 11) (.tmp 13), none⟩] [0, 1, 5, 14] []) <|
        .cond (.tmp 14)
          (.skip)
          (.exit 0)) <|
       .seq (.block 1 (
          .seq (.region [⟨some 17, .mv (.tmp 0), none⟩,
             ⟨some 18, .mv (.tmp 5), none⟩,
             ⟨some 19, .idxSl 1 (.tmp 17) (.tmp 18), none⟩,
             ⟨some 20, .load false 1 (.tmp 19), none⟩,
             ⟨some 21, .mv (.tmp 1), none⟩,
             ⟨some 22, .mv (.tmp 5), none⟩,
             ⟨some 23, .idxSl 1 (.tmp 21) (.tmp 22), none⟩,
             ⟨some 24, .load false 1 (.tmp 23), none⟩,
             ⟨some 25, .bin .neq (.tmp 20) (.tmp 24), none⟩] [0, 1, 5, 25] [17, 18, 20, 21, 19, 22, 23, 24, 25]) <|
          .cond (.tmp 25)
            (.seq (.region [⟨some 4, .mv (.const (.bool false)), none⟩] [4] []) <|
            .ret)
            (.skip))) <|
       .region [⟨some 15, .mv (.tmp 5), none⟩,
         ⟨some 16, .bin .add (.tmp 15) (.const (.int .i64 (1))), none⟩,
         ⟨some 5, .mv (.tmp 16), none⟩] [0, 1, 5] []))) <|
  .seq (.region [⟨some 4, .mv (.const (.bool true)), none⟩] [4] []) <|
  .ret
theorem Cd.laws_eqInt64S_rs : Try.f54.results.toList = [.tmp 4] := rfl
theorem Cd.laws_eqInt64S_nt : Try.f54.ntmps = 26 := rfl
theorem Cd.laws_eqInt64S_ok : CodeIsR Try.prog 54 Try.f54 Cd.laws_eqInt64S := ⟨Try.func54, by kernel_rfl, by decide +kernel⟩
/-- loop.example/g01012/spec.l00In -/
def Cd.spec_l00In : ACode :=
  .seq (.region [⟨some 6, .mv (.const (.bool false)), none⟩] [0, 1, 2] []) <|
  .seq (.region [⟨some 7, .mv (.tmp 0), none⟩,
     ⟨some 8, .mv (.tmp 1), none⟩,
     ⟨some 9, .bin .geq (.tmp 7) (.tmp 8), none⟩,
     ⟨some 10, .mv (.tmp 9), none⟩,
     ⟨some 11, .mv (.tmp 0), some (10, true)⟩,
     ⟨some 12, .mv (.tmp 2), some (10, true)⟩,
     ⟨some 13, .bin .leq (.tmp 11) (.tmp 12), some (10, true)⟩,
     ⟨some 14, .pick (.tmp 10) (.tmp 13) (.const (.bool false)), none⟩,
     ⟨some 6, .mv (.tmp 14), none⟩] [6] []) <|
  .ret
theorem Cd.spec_l00In_rs : Try.f55.results.toList = [.tmp 6] := rfl
theorem Cd.spec_l00In_nt : Try.f55.ntmps = 15 := rfl
theorem Cd.spec_l00In_ok : CodeIsR Try.prog 55 Try.f55 Cd.spec_l00In := ⟨Try.func55, by kernel_rfl, by decide +kernel⟩
/-- slices.IndexFunc[[]int64,int64] -/
def Cd.slices_IndexFunc___int64_int64_ : ACode :=
  .seq (.region [⟨some 4, .mv (.const (.int .i64 (0))), none⟩] [0, 1] []) <|
  .seq (.seq (.region [⟨some 6, .mv (.tmp 0), none⟩,
      ⟨some 7, .len (.tmp 6), none⟩,
      ⟨some 8, .mv (.const (.int .i64 (0))), none⟩] [0, 1, 7, 8] []) <|
   .block 0 (
     .loop (
       .seq (.region [⟨some 9, .bin .lss (.tmp 8) (.tmp 7), none⟩] [0, 1, 7, 8, 9] []) <|
       .seq (.cond (.tmp 9)
          (.skip)
          (.exit 0)) <|
       .seq (.block 1 (
          .seq (.region [⟨some 10, .mv (.tmp 8), none⟩,
             ⟨some 5, .mv (.tmp 10), none⟩] [0, 1, 5, 7, 8] []) <|
          .seq (.region [⟨some 11, .mv (.tmp 1), none⟩,
             ⟨some 12, .mv (.tmp 0), none⟩,
             ⟨some 13, .mv (.tmp 5), none⟩,
             ⟨some 14, .idxSl 1 (.tmp 12) (.tmp 13), none⟩,
             ⟨some 15, .load false 1 (.tmp 14), none⟩,
             ⟨some 16, .call (.tmp 11) [(.tmp 15)] [], none⟩] [0, 1, 5, 7, 8, 16] []) <|
          .cond (.tmp 16)
            (.seq (.region [⟨some 17, .mv (.tmp 5), none⟩,
               ⟨some 4, .mv (.tmp 17), none⟩] [4] []) <|
            .ret)
            (.skip))) <|
       .region [⟨some 18, .bin .add (.tmp 8) (.const (.int .i64 (1))), none⟩,
         ⟨some 8, .mv (.tmp 18), none⟩] [0, 1, 7, 8] []))) <|
  .seq (.region [⟨some 4, .mv (.const (.int .i64 (-1))), none⟩] [4] []) <|
  .ret
theorem Cd.slices_IndexFunc___int64_int64__rs : Try.f56.results.toList = [.tmp 4] := rfl
theorem Cd.slices_IndexFunc___int64_int64__nt : Try.f56.ntmps = 19 := rfl
theorem Cd.slices_IndexFunc___int64_int64__ok : CodeIsR Try.prog 56 Try.f56 Cd.slices_IndexFunc___int64_int64_ := ⟨Try.func56, by kernel_rfl, by decide +kernel⟩
end Go.Proofs.Ytclfhgcngodljaa
