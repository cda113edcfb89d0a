/- The code of each function, resolved. -/
import Derived.Test.YtokfhfdnmnblfaaVtC
import Derived.Test.YtokfhfdnmnblfaaRows
namespace Go.Proofs.Ytokfhfdnmnblfaa
open Go.Vs
set_option maxRecDepth 100000
theorem Try.own : ownKnob Try.prog.godebug = none := by kernel_rfl
theorem Try.laidOut : laidOutB Try.prog = true := by kernel_rfl
theorem Try.mixed : Try.prog.follows .mixedOrders = true := Try.checked.mixed
namespace F
abbrev laws_FnExactNewOffice : FuncId := 4
abbrev laws_szCardS : FuncId := 6
abbrev laws_toCardS : FuncId := 8
abbrev laws_eqCardS : FuncId := 10
abbrev laws_markCardS : FuncId := 11
abbrev laws_heldCardS : FuncId := 12
abbrev spec_NewOffice : FuncId := 13
abbrev impl_NewOffice : FuncId := 14
abbrev laws_eqOffice : FuncId := 15
abbrev laws_markOffice : FuncId := 16
abbrev laws_heldOffice : FuncId := 17
abbrev laws_szCard : FuncId := 22
abbrev spec_l00In : FuncId := 24
abbrev laws_toCard : FuncId := 27
abbrev impl_decksOf : FuncId := 29
abbrev impl_inside : FuncId := 30
abbrev laws_eqCard : FuncId := 32
abbrev laws_markInt64S : FuncId := 33
abbrev laws_heldInt64S : FuncId := 34
abbrev spec_l02Deck : FuncId := 35
abbrev spec_l15New : FuncId := 36
abbrev impl_ValidDeck : FuncId := 37
abbrev impl_newDeck : FuncId := 38
abbrev laws_eqCardSS : FuncId := 39
abbrev laws_eqTotalSS : FuncId := 40
abbrev laws_markCardSS : FuncId := 41
abbrev laws_markTotalSS : FuncId := 42
abbrev laws_heldCardSS : FuncId := 43
abbrev laws_heldTotalSS : FuncId := 44
abbrev laws_szInt64S : FuncId := 48
abbrev spec_l02Own : FuncId := 50
abbrev laws_toInt64S : FuncId := 51
abbrev impl_newCard : FuncId := 53
abbrev laws_eqInt64S : FuncId := 54
abbrev spec_l02Ok : FuncId := 55
abbrev spec_l02Copy : FuncId := 56
abbrev impl_ValidCard : FuncId := 57
abbrev _impl_Card__columns : FuncId := 58
abbrev laws_eqTotalS : FuncId := 59
abbrev laws_markTotalS : FuncId := 60
abbrev laws_heldTotalS : FuncId := 61
abbrev spec_l00Own : FuncId := 67
abbrev impl_copyInts : FuncId := 68
abbrev slices_ContainsFunc___int64_int64_ : FuncId := 69
abbrev impl_ValidCard_1 : FuncId := 70
abbrev impl_size_int64_ : FuncId := 71
abbrev laws_eqTotal : FuncId := 72
abbrev slices_IndexFunc___int64_int64_ : FuncId := 81
abbrev spec_l02Part : FuncId := 100
end F
theorem Ld.t34 : ldOf Try.prog 34 = some (true, 2) := by kernel_rfl
theorem Ld.t48 : ldOf Try.prog 48 = some (true, 7) := by kernel_rfl
theorem Ld.t59 : ldOf Try.prog 59 = some (true, 1) := by kernel_rfl
theorem Ld.t46 : ldOf Try.prog 46 = some (true, 2) := by kernel_rfl
attribute [go_sem] Ld.t34 Ld.t48 Ld.t59 Ld.t46
/-- loop.example/g01012/laws.FnExactNewOffice -/
def Cd.laws_FnExactNewOffice : ACode :=
  .seq (.region [⟨some 2, .mv (.const (.bool false)), none⟩] [0] []) <|
  .seq (.region [⟨some 3, .mv (.const (.int .i64 (1048576))), none⟩] [0, 3] []) <|
  .seq (.region [⟨some 14, .mv (.tmp 0), none⟩,
     ⟨some 15, .mv (.tmp 3), none⟩,
     ⟨some 16, .call (.func F.laws_szCardS) [(.tmp 14), (.tmp 15)] [], none⟩,
     ⟨some 3, .mv (.tmp 16), none⟩] [0, 3] []) <|
  .seq (.seq (.region [⟨some 17, .mv (.tmp 3), none⟩,
      ⟨some 18, .bin .lss (.tmp 17) (.const (.int .i64 (0))), none⟩] [0, 18] []) <|
   .cond (.tmp 18)
     (.seq (.region [⟨some 2, .mv (.const (.bool true)), none⟩] [2] []) <|
     .ret)
     (.skip)) <|
  .seq (.region [⟨some 20, .mv (.tmp 0), none⟩,
     ⟨some 21, .call (.func F.laws_toCardS) [(.tmp 20)] [], none⟩,
     ⟨some 22, .call (.func F.spec_NewOffice) [(.tmp 21)] [], none⟩,
     ⟨some 19, .mv (.tmp 22), none⟩,
     ⟨some 23, .extract (.tmp 19) 0, none⟩,
     ⟨some 24, .extract (.tmp 19) 1, none⟩,
     ⟨some 4, .alloc [.v (.slice none 0 0), .v (.slice none 0 0)], none⟩,
     ⟨none, .store 2 (.tmp 4) (.tmp 23), none⟩,
     ⟨some 5, .mv (.tmp 24), none⟩] [0, 4, 5] []) <|
  .seq (.region [⟨some 25, .mv (.tmp 0), none⟩,
     ⟨some 26, .call (.func F.laws_toCardS) [(.tmp 25)] [], none⟩,
     ⟨some 6, .mv (.tmp 26), none⟩] [0, 4, 5, 6] []) <|
  .seq (.region [⟨some 28, .mv (.tmp 6), none⟩,
     ⟨some 29, .call (.func F.impl_NewOffice) [(.tmp 28)] [], none⟩,
     ⟨some 27, .mv (.tmp 29), none⟩,
     ⟨some 30, .extract (.tmp 27) 0, none⟩,
     ⟨some 31, .extract (.tmp 27) 1, none⟩,
     ⟨some 7, .alloc [.v (.slice none 0 0), .v (.slice none 0 0)], none⟩,
     ⟨none, .store 2 (.tmp 7) (.tmp 30), none⟩,
     ⟨some 8, .mv (.tmp 31), none⟩] [0, 4, 5, 6, 7, 8] []) <|
  .seq (.seq (.region [⟨some 32, .load true 2 (.tmp 7), none⟩,
      ⟨some 33, .load true 2 (.tmp 4), none⟩,
      ⟨some 34, .call (.func F.laws_eqOffice) [(.tmp 32), (.tmp 33)] [], none⟩,
      ⟨some 35, .un .not (.tmp 34), none⟩,
      ⟨some 36, .mv (.tmp 35), none⟩,
      ⟨some 37, .mv (.tmp 8), some (36, false)⟩,
      ⟨some 38, .mv (.tmp 5), some (36, false)⟩,
      ⟨some 39, .bin .neq (.tmp 37) (.tmp 38), some (36, false)⟩,
      ⟨some 40, .pick (.tmp 36) (.const (.bool true)) (.tmp 39), none⟩] [0, 4, 5, 6, 7, 8, 40] []) <|
   .cond (.tmp 40)
     (.seq (.region [⟨some 2, .mv (.const (.bool false)), none⟩] [2] []) <|
     .ret)
     (.skip)) <|
  .seq (.seq (.region [⟨some 41, .mv (.tmp 6), none⟩,
      ⟨some 42, .mv (.tmp 0), none⟩,
      ⟨some 43, .call (.func F.laws_toCardS) [(.tmp 42)] [], none⟩,
      ⟨some 44, .call (.func F.laws_eqCardS) [(.tmp 41), (.tmp 43)] [], none⟩,
      ⟨some 45, .un .not (.tmp 44), none⟩] [0, 4, 5, 6, 7, 8, 45] []) <|
   .cond (.tmp 45)
     (.seq (.region [⟨some 2, .mv (.const (.bool false)), none⟩] [2] []) <|
     .ret)
     (.skip)) <|
  .seq (.region [⟨some 9, .mv (.const (.int .i64 (1))), none⟩] [0, 4, 5, 6, 7, 8, 9] []) <|
  .seq (.region [⟨some 46, .mv (.tmp 6), none⟩,
     ⟨some 47, .mv (.tmp 9), none⟩,
     ⟨some 48, .call (.func F.laws_markCardS) [(.tmp 46), (.tmp 47)] [0], none⟩,
     ⟨some 9, .mv (.tmp 48), none⟩] [0, 4, 5, 7, 8, 9] []) <|
  .seq (.seq (.region [⟨some 49, .mv (.tmp 9), none⟩,
      ⟨some 50, .bin .lss (.tmp 49) (.const (.int .i64 (0))), none⟩,
      ⟨some 51, .mv (.tmp 50), none⟩,
      ⟨some 52, .load true 2 (.tmp 7), some (51, false)⟩,
      ⟨some 53, .load true 2 (.tmp 4), some (51, false)⟩,
      ⟨some 54, .call (.func F.laws_eqOffice) [(.tmp 52), (.tmp 53)] [], some (51, false)⟩,
      ⟨some 55, .un .not (.tmp 54), some (51, false)⟩,
      ⟨some 56, .pick (.tmp 51) (.const (.bool true)) (.tmp 55), none⟩,
      ⟨some 57, .mv (.tmp 56), none⟩,
      ⟨some 58, .mv (.tmp 8), some (57, false)⟩,
      ⟨some 59, .mv (.tmp 5), some (57, false)⟩,
      ⟨some 60, .bin .neq (.tmp 58) (.tmp 59), some (57, false)⟩,
      ⟨some 61, .pick (.tmp 57) (.const (.bool true)) (.tmp 60), none⟩] [0, 4, 5, 7, 61] []) <|
   .cond (.tmp 61)
     (.seq (.region [⟨some 2, .mv (.const (.bool false)), none⟩] [2] []) <|
     .ret)
     (.skip)) <|
  .seq (.region [⟨some 10, .mv (.const (.int .i64 (1))), none⟩] [0, 4, 5, 7, 10] []) <|
  .seq (.region [⟨some 62, .load true 2 (.tmp 7), none⟩,
     ⟨some 63, .mv (.tmp 10), none⟩,
     ⟨some 64, .call (.func F.laws_markOffice) [(.tmp 62), (.tmp 63)] [0], none⟩,
     ⟨some 10, .mv (.tmp 64), none⟩] [0, 4, 5, 7, 10] []) <|
  .seq (.region [⟨some 11, .mv (.const (.int .i64 (1))), none⟩] [0, 4, 5, 7, 10, 11] []) <|
  .seq (.region [⟨some 65, .load true 2 (.tmp 7), none⟩,
     ⟨some 66, .mv (.tmp 11), none⟩,
     ⟨some 67, .call (.func F.laws_heldOffice) [(.tmp 65), (.tmp 66)] [], none⟩,
     ⟨some 11, .mv (.tmp 67), none⟩] [0, 4, 5, 7, 10, 11] []) <|
  .seq (.seq (.region [⟨some 68, .mv (.tmp 11), none⟩,
      ⟨some 69, .bin .lss (.tmp 68) (.const (.int .i64 (0))), none⟩] [0, 4, 5, 7, 10, 11, 69] []) <|
   .cond (.tmp 69)
     (.seq (.region [⟨some 2, .mv (.const (.bool false)), none⟩] [2] []) <|
     .ret)
     (.skip)) <|
  .seq (.seq (.region [⟨some 70, .mv (.tmp 11), none⟩,
      ⟨some 71, .mv (.tmp 10), none⟩,
      ⟨some 72, .bin .neq (.tmp 70) (.tmp 71), none⟩] [0, 4, 5, 7, 10, 72] []) <|
   .cond (.tmp 72)
     (.seq (.region [⟨some 2, .mv (.const (.bool false)), none⟩] [2] []) <|
     .ret)
     (.skip)) <|
  .seq (.region [⟨some 74, .mv (.tmp 0), none⟩,
     ⟨some 75, .call (.func F.laws_toCardS) [(.tmp 74)] [], none⟩,
     ⟨some 76, .call (.func F.impl_NewOffice) [(.tmp 75)] [], none⟩,
     ⟨some 73, .mv (.tmp 76), none⟩,
     ⟨some 77, .extract (.tmp 73) 0, none⟩,
     ⟨some 78, .extract (.tmp 73) 1, none⟩,
     ⟨some 12, .alloc [.v (.slice none 0 0), .v (.slice none 0 0)], none⟩,
     ⟨none, .store 2 (.tmp 12) (.tmp 77), none⟩,
     ⟨some 13, .mv (.tmp 78), none⟩] [4, 5, 7, 10, 12, 13] []) <|
  .seq (.seq (.region [⟨some 79, .load true 2 (.tmp 12), none⟩,
      ⟨some 80, .load true 2 (.tmp 4), none⟩,
      ⟨some 81, .call (.func F.laws_eqOffice) [(.tmp 79), (.tmp 80)] [], none⟩,
      ⟨some 82, .un .not (.tmp 81), none⟩,
      ⟨some 83, .mv (.tmp 82), none⟩,
      ⟨some 84, .mv (.tmp 13), some (83, false)⟩,
      ⟨some 85, .mv (.tmp 5), some (83, false)⟩,
      ⟨some 86, .bin .neq (.tmp 84) (.tmp 85), some (83, false)⟩,
      ⟨some 87, .pick (.tmp 83) (.const (.bool true)) (.tmp 86), none⟩] [7, 10, 87] []) <|
   .cond (.tmp 87)
     (.seq (.region [⟨some 2, .mv (.const (.bool false)), none⟩] [2] []) <|
     .ret)
     (.skip)) <|
  .seq (.region [⟨some 11, .mv (.const (.int .i64 (1))), none⟩] [7, 10, 11] []) <|
  .seq (.region [⟨some 88, .load true 2 (.tmp 7), none⟩,
     ⟨some 89, .mv (.tmp 11), none⟩,
     ⟨some 90, .call (.func F.laws_heldOffice) [(.tmp 88), (.tmp 89)] [], none⟩,
     ⟨some 11, .mv (.tmp 90), none⟩] [10, 11] []) <|
  .seq (.seq (.region [⟨some 91, .mv (.tmp 11), none⟩,
      ⟨some 92, .bin .lss (.tmp 91) (.const (.int .i64 (0))), none⟩] [10, 11, 92] []) <|
   .cond (.tmp 92)
     (.seq (.region [⟨some 2, .mv (.const (.bool false)), none⟩] [2] []) <|
     .ret)
     (.skip)) <|
  .seq (.seq (.region [⟨some 93, .mv (.tmp 11), none⟩,
      ⟨some 94, .mv (.tmp 10), none⟩,
      ⟨some 95, .bin .neq (.tmp 93) (.tmp 94), none⟩] [95] []) <|
   .cond (.tmp 95)
     (.seq (.region [⟨some 2, .mv (.const (.bool false)), none⟩] [2] []) <|
     .ret)
     (.skip)) <|
  .seq (.region [⟨some 2, .mv (.const (.bool true)), none⟩] [2] []) <|
  .ret
theorem Cd.laws_FnExactNewOffice_rs : Try.f4.results.toList = [.tmp 2] := rfl
theorem Cd.laws_FnExactNewOffice_nt : Try.f4.ntmps = 96 := rfl
theorem Cd.laws_FnExactNewOffice_ok : CodeIsR Try.prog 4 Try.f4 Cd.laws_FnExactNewOffice := ⟨Try.func4, by kernel_rfl, by decide +kernel⟩
/-- loop.example/g01012/laws.szCardS -/
def Cd.laws_szCardS : ACode :=
  .seq (.region [⟨some 4, .mv (.const (.int .i64 (0))), none⟩] [0, 1] []) <|
  .seq (.region [⟨some 6, .mv (.tmp 1), none⟩,
     ⟨some 7, .mv (.tmp 0), none⟩,
     ⟨some 8, .len (.tmp 7), none⟩,
     ⟨some 9, .bin .sub (.tmp 6) (.tmp 8), none⟩,
     ⟨some 1, .mv (.tmp 9), none⟩] [0, 1] []) <|
  .seq (.seq (.region [⟨some 10, .mv (.tmp 1), none⟩,
      ⟨some 11, .bin .lss (.tmp 10) (.const (.int .i64 (0))), none⟩] [0, 1, 11] []) <|
   .cond (.tmp 11)
     (.seq (.region [⟨some 4, .mv (.const (.int .i64 (-1))), none⟩] [4] []) <|
     .ret)
     (.skip)) <|
  .seq (.seq (.region [⟨some 5, .mv (.const (.int .i64 (0))), none⟩] [0, 1, 5] []) <|
   .block 0 (
     .loop (
       .seq (.seq (.region [⟨some 12, .mv (.tmp 5), none⟩,
           ⟨some 13, .mv (.tmp 0), none⟩,
           ⟨some 14, .len (.tmp 13), none⟩,
           ⟨some 15, .bin .lss (.tmp 12) (.tmp 14), none⟩] [0, 1, 5, 15] []) <|
        .cond (.tmp 15)
          (.skip)
          (.exit 0)) <|
       .seq (.block 1 (
          .seq (.region [⟨some 18, .mv (.tmp 0), none⟩,
             ⟨some 19, .mv (.tmp 5), none⟩,
             ⟨some 20, .idxSl 1 (.tmp 18) (.tmp 19), none⟩,
             ⟨some 21, .load true 1 (.tmp 20), none⟩,
             ⟨some 22, .mv (.tmp 1), none⟩,
             ⟨some 23, .call (.func F.laws_szCard) [(.tmp 21), (.tmp 22)] [], none⟩,
             ⟨some 1, .mv (.tmp 23), none⟩] [0, 1, 5] []) <|
          .seq (.region [⟨some 24, .mv (.tmp 1), none⟩,
             ⟨some 25, .bin .lss (.tmp 24) (.const (.int .i64 (0))), none⟩] [0, 1, 5, 25] []) <|
          .cond (.tmp 25)
            (.seq (.region [⟨some 4, .mv (.const (.int .i64 (-1))), none⟩] [4] []) <|
            .ret)
            (.skip))) <|
       .region [⟨some 16, .mv (.tmp 5), none⟩,
         ⟨some 17, .bin .add (.tmp 16) (.const (.int .i64 (1))), none⟩,
         ⟨some 5, .mv (.tmp 17), none⟩] [0, 1, 5] []))) <|
  .seq (.region [⟨some 26, .mv (.tmp 1), none⟩,
     ⟨some 4, .mv (.tmp 26), none⟩] [4] []) <|
  .ret
theorem Cd.laws_szCardS_rs : Try.f6.results.toList = [.tmp 4] := rfl
theorem Cd.laws_szCardS_nt : Try.f6.ntmps = 27 := rfl
theorem Cd.laws_szCardS_ok : CodeIsR Try.prog 6 Try.f6 Cd.laws_szCardS := ⟨Try.func6, by kernel_rfl, by decide +kernel⟩
/-- loop.example/g01012/laws.toCardS -/
def Cd.laws_toCardS : ACode :=
  .seq (.region [⟨some 2, .mv (.const (.slice none 0 0)), none⟩] [0] []) <|
  .seq (.region [⟨some 5, .mv (.tmp 0), none⟩,
     ⟨some 6, .len (.tmp 5), none⟩,
     ⟨some 7, .mk 1 24 [.v (.slice none 0 0)] (.tmp 6), none⟩,
     ⟨some 3, .mv (.tmp 7), none⟩] [0, 3] []) <|
  .seq (.seq (.region [⟨some 4, .mv (.const (.int .i64 (0))), none⟩] [0, 3, 4] []) <|
   .block 0 (
     .loop (
       .seq (.seq (.region [⟨some 8, .mv (.tmp 4), none⟩,
           ⟨some 9, .mv (.tmp 0), none⟩,
           ⟨some 10, .len (.tmp 9), none⟩,
           ⟨some 11, .bin .lss (.tmp 8) (.tmp 10), none⟩] [0, 3, 4, 11] []) <|
        .cond (.tmp 11)
          (.skip)
          (.exit 0)) <|
       .seq (.block 1 (
          .region [⟨some 14, .mv (.tmp 3), none⟩,
            ⟨some 15, .mv (.tmp 4), none⟩,
            ⟨some 16, .mv (.tmp 0), none⟩,
            ⟨some 17, .mv (.tmp 4), none⟩,
            ⟨some 18, .idxSl 1 (.tmp 16) (.tmp 17), none⟩,
            ⟨some 19, .load true 1 (.tmp 18), none⟩,
            ⟨some 20, .call (.func F.laws_toCard) [(.tmp 19)] [], none⟩,
            ⟨some 21, .idxSl 1 (.tmp 14) (.tmp 15), none⟩,
            ⟨none, .store 1 (.tmp 21) (.tmp 20), none⟩] [0, 3, 4] [])) <|
       .region [⟨some 12, .mv (.tmp 4), none⟩,
         ⟨some 13, .bin .add (.tmp 12) (.const (.int .i64 (1))), none⟩,
         ⟨some 4, .mv (.tmp 13), none⟩] [0, 3, 4] []))) <|
  .seq (.region [⟨some 22, .mv (.tmp 3), none⟩,
     ⟨some 2, .mv (.tmp 22), none⟩] [2] []) <|
  .ret
theorem Cd.laws_toCardS_rs : Try.f8.results.toList = [.tmp 2] := rfl
theorem Cd.laws_toCardS_nt : Try.f8.ntmps = 23 := rfl
theorem Cd.laws_toCardS_ok : CodeIsR Try.prog 8 Try.f8 Cd.laws_toCardS := ⟨Try.func8, by kernel_rfl, by decide +kernel⟩
/-- loop.example/g01012/laws.eqCardS DRAWS -/
def Cd.laws_eqCardS : ACode :=
  .seq (.region [⟨some 4, .mv (.const (.bool false)), none⟩] [0, 1] []) <|
  .seq (.seq (.region [⟨some 6, .mv (.tmp 0), none⟩,
      ⟨some 7, .len (.tmp 6), none⟩,
      ⟨some 8, .mv (.tmp 1), none⟩,
      ⟨some 9, .len (.tmp 8), none⟩,
      ⟨some 10, .bin .neq (.tmp 7) (.tmp 9), none⟩] [0, 1, 10] []) <|
   .cond (.tmp 10)
     (.seq (.region [⟨some 4, .mv (.const (.bool false)), none⟩] [4] []) <|
     .ret)
     (.skip)) <|
  .seq (.seq (.region [⟨some 5, .mv (.const (.int .i64 (0))), none⟩] [0, 1, 5] []) <|
   .block 0 (
     .loop (
       .seq (.seq (.region [⟨some 11, .mv (.tmp 5), none⟩,
           ⟨some 12, .mv (.tmp 0), none⟩,
           ⟨some 13, .len (.tmp 12), none⟩,
           ⟨some 14, .bin .lss (.tmp 11) (.tmp 13), none⟩] [0, 1, 5, 14] []) <|
        .cond (.tmp 14)
          (.skip)
          (.exit 0)) <|
       .seq (.block 1 (
          .seq (.region [⟨some 17, .mv (.tmp 0), none⟩,
             ⟨some 18, .mv (.tmp 5), none⟩,
             ⟨some 19, .idxSl 1 (.tmp 17) (.tmp 18), none⟩,
             ⟨some 20, .load true 1 (.tmp 19), none⟩,
             ⟨some 21, .mv (.tmp 1), none⟩,
             ⟨some 22, .mv (.tmp 5), none⟩,
             ⟨some 23, .idxSl 1 (.tmp 21) (.tmp 22), none⟩,
             ⟨some 24, .load true 1 (.tmp 23), none⟩,
             ⟨some 25, .call (.func F.laws_eqCard) [(.tmp 20), (.tmp 24)] [], none⟩,
             ⟨some 26, .un .not (.tmp 25), none⟩] [0, 1, 5, 26] [17, 18, 20, 21, 19, 22, 23, 24, 25, 26]) <|
          .cond (.tmp 26)
            (.seq (.region [⟨some 4, .mv (.const (.bool false)), none⟩] [4] []) <|
            .ret)
            (.skip))) <|
       .region [⟨some 15, .mv (.tmp 5), none⟩,
         ⟨some 16, .bin .add (.tmp 15) (.const (.int .i64 (1))), none⟩,
         ⟨some 5, .mv (.tmp 16), none⟩] [0, 1, 5] []))) <|
  .seq (.region [⟨some 4, .mv (.const (.bool true)), none⟩] [4] []) <|
  .ret
theorem Cd.laws_eqCardS_rs : Try.f10.results.toList = [.tmp 4] := rfl
theorem Cd.laws_eqCardS_nt : Try.f10.ntmps = 27 := rfl
theorem Cd.laws_eqCardS_ok : CodeIsR Try.prog 10 Try.f10 Cd.laws_eqCardS := ⟨Try.func10, by kernel_rfl, by decide +kernel⟩
/-- loop.example/g01012/laws.markCardS -/
def Cd.laws_markCardS : ACode :=
  .seq (.region [⟨some 4, .mv (.const (.int .i64 (0))), none⟩] [0, 1] []) <|
  .seq (.seq (.region [⟨some 5, .mv (.const (.int .i64 (0))), none⟩] [0, 1, 5] []) <|
   .block 0 (
     .loop (
       .seq (.seq (.region [⟨some 6, .mv (.tmp 5), none⟩,
           ⟨some 7, .mv (.tmp 0), none⟩,
           ⟨some 8, .len (.tmp 7), none⟩,
           ⟨some 9, .bin .lss (.tmp 6) (.tmp 8), none⟩] [0, 1, 5, 9] []) <|
        .cond (.tmp 9)
          (.skip)
          (.exit 0)) <|
       .seq (.block 1 (
          .region [⟨some 12, .mv (.tmp 0), none⟩,
            ⟨some 13, .mv (.tmp 5), none⟩,
            ⟨some 14, .idxSl 1 (.tmp 12) (.tmp 13), none⟩,
            ⟨some 15, .fieldAddr 0 (.tmp 14), none⟩,
            ⟨some 16, .load false 1 (.tmp 15), none⟩,
            ⟨some 17, .mv (.tmp 1), none⟩,
            ⟨some 18, .call (.func F.laws_markInt64S) [(.tmp 16), (.tmp 17)] [0], none⟩,
            ⟨some 1, .mv (.tmp 18), none⟩] [0, 1, 5] [])) <|
       .region [⟨some 10, .mv (.tmp 5), none⟩,
         ⟨some 11, .bin .add (.tmp 10) (.const (.int .i64 (1))), none⟩,
         ⟨some 5, .mv (.tmp 11), none⟩] [0, 1, 5] []))) <|
  .seq (.region [⟨some 19, .mv (.tmp 1), none⟩,
     ⟨some 4, .mv (.tmp 19), none⟩] [4] []) <|
  .ret
theorem Cd.laws_markCardS_rs : Try.f11.results.toList = [.tmp 4] := rfl
theorem Cd.laws_markCardS_nt : Try.f11.ntmps = 20 := rfl
theorem Cd.laws_markCardS_ok : CodeIsR Try.prog 11 Try.f11 Cd.laws_markCardS := ⟨Try.func11, by kernel_rfl, by decide +kernel⟩
/-- loop.example/g01012/laws.heldCardS -/
def Cd.laws_heldCardS : ACode :=
  .seq (.region [⟨some 4, .mv (.const (.int .i64 (0))), none⟩] [0, 1] []) <|
  .seq (.seq (.region [⟨some 5, .mv (.const (.int .i64 (0))), none⟩] [0, 1, 5] []) <|
   .block 0 (
     .loop (
       .seq (.seq (.region [⟨some 6, .mv (.tmp 5), none⟩,
           ⟨some 7, .mv (.tmp 0), none⟩,
           ⟨some 8, .len (.tmp 7), none⟩,
           ⟨some 9, .bin .lss (.tmp 6) (.tmp 8), none⟩] [0, 1, 5, 9] []) <|
        .cond (.tmp 9)
          (.skip)
          (.exit 0)) <|
       .seq (.block 1 (
          .seq (.region [⟨some 12, .mv (.tmp 0), none⟩,
             ⟨some 13, .mv (.tmp 5), none⟩,
             ⟨some 14, .idxSl 1 (.tmp 12) (.tmp 13), none⟩,
             ⟨some 15, .fieldAddr 0 (.tmp 14), none⟩,
             ⟨some 16, .load false 1 (.tmp 15), none⟩,
             ⟨some 17, .mv (.tmp 1), none⟩,
             ⟨some 18, .call (.func F.laws_heldInt64S) [(.tmp 16), (.tmp 17)] [], none⟩,
             ⟨some 1, .mv (.tmp 18), none⟩] [0, 1, 5] []) <|
          .seq (.region [⟨some 19, .mv (.tmp 1), none⟩,
             ⟨some 20, .bin .lss (.tmp 19) (.const (.int .i64 (0))), none⟩] [0, 1, 5, 20] []) <|
          .cond (.tmp 20)
            (.seq (.region [⟨some 4, .mv (.const (.int .i64 (-1))), none⟩] [4] []) <|
            .ret)
            (.skip))) <|
       .region [⟨some 10, .mv (.tmp 5), none⟩,
         ⟨some 11, .bin .add (.tmp 10) (.const (.int .i64 (1))), none⟩,
         ⟨some 5, .mv (.tmp 11), none⟩] [0, 1, 5] []))) <|
  .seq (.region [⟨some 21, .mv (.tmp 1), none⟩,
     ⟨some 4, .mv (.tmp 21), none⟩] [4] []) <|
  .ret
theorem Cd.laws_heldCardS_rs : Try.f12.results.toList = [.tmp 4] := rfl
theorem Cd.laws_heldCardS_nt : Try.f12.ntmps = 22 := rfl
theorem Cd.laws_heldCardS_ok : CodeIsR Try.prog 12 Try.f12 Cd.laws_heldCardS := ⟨Try.func12, by kernel_rfl, by decide +kernel⟩
/-- loop.example/g01012/spec.NewOffice -/
def Cd.spec_NewOffice : ACode :=
  .seq (.region [⟨some 2, .alloc [.v (.slice none 0 0), .v (.slice none 0 0)], none⟩,
     ⟨some 3, .mv (.const (.int .i64 (0))), none⟩] [0, 2] []) <|
  .seq (.seq (.region [⟨some 4, .mv (.tmp 0), none⟩,
      ⟨some 5, .call (.func F.spec_l02Deck) [(.tmp 4)] [], none⟩,
      ⟨some 6, .un .not (.tmp 5), none⟩] [0, 2, 6] []) <|
   .cond (.tmp 6)
     (.seq (.region [⟨some 7, .build [.v (.slice none 0 0), .v (.slice none 0 0)] [], none⟩,
        ⟨none, .store 2 (.tmp 2) (.tmp 7), none⟩,
        ⟨some 3, .mv (.const (.int .i64 (1))), none⟩] [2, 3] []) <|
     .ret)
     (.skip)) <|
  .seq (.region [⟨some 8, .mv (.tmp 0), none⟩,
     ⟨some 9, .call (.func F.spec_l15New) [(.tmp 8)] [], none⟩,
     ⟨none, .store 2 (.tmp 2) (.tmp 9), none⟩,
     ⟨some 3, .mv (.const (.int .i64 (0))), none⟩] [2, 3] []) <|
  .ret
theorem Cd.spec_NewOffice_rs : Try.f13.results.toList = [.cell 2 34, .tmp 3] := rfl
theorem Cd.spec_NewOffice_nt : Try.f13.ntmps = 10 := rfl
theorem Cd.spec_NewOffice_ok : CodeIsR Try.prog 13 Try.f13 Cd.spec_NewOffice := ⟨Try.func13, by kernel_rfl, by decide +kernel⟩
/-- loop.example/g01012/impl.NewOffice DRAWS -/
def Cd.impl_NewOffice : ACode :=
  .seq (.region [⟨some 2, .alloc [.v (.slice none 0 0), .v (.slice none 0 0)], none⟩,
     ⟨some 3, .mv (.const (.int .i64 (0))), none⟩] [0, 2] []) <|
  .seq (.seq (.region [⟨some 5, .mv (.tmp 0), none⟩,
      ⟨some 6, .call (.func F.impl_ValidDeck) [(.tmp 5)] [], none⟩,
      ⟨some 7, .un .not (.tmp 6), none⟩] [0, 2, 7] []) <|
   .cond (.tmp 7)
     (.seq (.region [⟨some 8, .build [.v (.slice none 0 0), .v (.slice none 0 0)] [], none⟩,
        ⟨none, .store 2 (.tmp 2) (.tmp 8), none⟩,
        ⟨some 3, .mv (.const (.int .i64 (1))), none⟩] [2, 3] []) <|
     .ret)
     (.skip)) <|
  .seq (.region [⟨some 9, .mk 1 24 [.v (.slice none 0 0)] (.const (.int .i64 (6))), none⟩,
     ⟨some 10, .bslice 1 0 [.v (.slice none 0 0)] [], none⟩,
     ⟨some 11, .build [.v (.slice none 0 0), .v (.slice none 0 0)] [(0, 1, (.tmp 9)), (1, 1, (.tmp 10))], none⟩,
     ⟨some 4, .alloc [.v (.slice none 0 0), .v (.slice none 0 0)], none⟩,
     ⟨none, .store 2 (.tmp 4) (.tmp 11), none⟩] [0, 2, 4] []) <|
  .seq (.region [⟨some 12, .fieldAddr 0 (.tmp 4), none⟩,
     ⟨some 13, .load false 1 (.tmp 12), none⟩,
     ⟨some 14, .mv (.tmp 0), none⟩,
     ⟨some 15, .call (.func F.impl_newDeck) [(.tmp 14)] [], none⟩,
     ⟨some 16, .idxSl 1 (.tmp 13) (.const (.int .i64 (0))), none⟩,
     ⟨none, .store 1 (.tmp 16) (.tmp 15), none⟩] [2, 4] [12, 14, 13, 15]) <|
  .seq (.region [⟨some 17, .load true 2 (.tmp 4), none⟩,
     ⟨none, .store 2 (.tmp 2) (.tmp 17), none⟩,
     ⟨some 3, .mv (.const (.int .i64 (0))), none⟩] [2, 3] []) <|
  .ret
theorem Cd.impl_NewOffice_rs : Try.f14.results.toList = [.cell 2 34, .tmp 3] := rfl
theorem Cd.impl_NewOffice_nt : Try.f14.ntmps = 18 := rfl
theorem Cd.impl_NewOffice_ok : CodeIsR Try.prog 14 Try.f14 Cd.impl_NewOffice := ⟨Try.func14, by kernel_rfl, by decide +kernel⟩
/-- loop.example/g01012/laws.eqOffice -/
def Cd.laws_eqOffice : ACode :=
  .seq (.region [⟨some 2, .box (.tmp 0), none⟩,
     ⟨some 3, .box (.tmp 1), none⟩,
     ⟨some 4, .mv (.const (.bool false)), none⟩] [2, 3] []) <|
  .seq (.seq (.region [⟨some 5, .fieldAddr 0 (.tmp 2), none⟩,
      ⟨some 6, .load false 1 (.tmp 5), none⟩,
      ⟨some 7, .fieldAddr 0 (.tmp 3), none⟩,
      ⟨some 8, .load false 1 (.tmp 7), none⟩,
      ⟨some 9, .call (.func F.laws_eqCardSS) [(.tmp 6), (.tmp 8)] [], none⟩,
      ⟨some 10, .un .not (.tmp 9), none⟩] [2, 3, 10] []) <|
   .cond (.tmp 10)
     (.seq (.region [⟨some 4, .mv (.const (.bool false)), none⟩] [4] []) <|
     .ret)
     (.skip)) <|
  .seq (.seq (.region [⟨some 11, .fieldAddr 1 (.tmp 2), none⟩,
      ⟨some 12, .load false 1 (.tmp 11), none⟩,
      ⟨some 13, .fieldAddr 1 (.tmp 3), none⟩,
      ⟨some 14, .load false 1 (.tmp 13), none⟩,
      ⟨some 15, .call (.func F.laws_eqTotalSS) [(.tmp 12), (.tmp 14)] [], none⟩,
      ⟨some 16, .un .not (.tmp 15), none⟩] [16] []) <|
   .cond (.tmp 16)
     (.seq (.region [⟨some 4, .mv (.const (.bool false)), none⟩] [4] []) <|
     .ret)
     (.skip)) <|
  .seq (.region [⟨some 4, .mv (.const (.bool true)), none⟩] [4] []) <|
  .ret
theorem Cd.laws_eqOffice_rs : Try.f15.results.toList = [.tmp 4] := rfl
theorem Cd.laws_eqOffice_nt : Try.f15.ntmps = 17 := rfl
theorem Cd.laws_eqOffice_ok : CodeIsR Try.prog 15 Try.f15 Cd.laws_eqOffice := ⟨Try.func15, by kernel_rfl, by decide +kernel⟩
/-- loop.example/g01012/laws.markOffice -/
def Cd.laws_markOffice : ACode :=
  .seq (.region [⟨some 2, .box (.tmp 0), none⟩,
     ⟨some 4, .mv (.const (.int .i64 (0))), none⟩] [1, 2] []) <|
  .seq (.region [⟨some 5, .fieldAddr 0 (.tmp 2), none⟩,
     ⟨some 6, .load false 1 (.tmp 5), none⟩,
     ⟨some 7, .mv (.tmp 1), none⟩,
     ⟨some 8, .call (.func F.laws_markCardSS) [(.tmp 6), (.tmp 7)] [0], none⟩,
     ⟨some 1, .mv (.tmp 8), none⟩] [1, 2] []) <|
  .seq (.region [⟨some 9, .fieldAddr 1 (.tmp 2), none⟩,
     ⟨some 10, .load false 1 (.tmp 9), none⟩,
     ⟨some 11, .mv (.tmp 1), none⟩,
     ⟨some 12, .call (.func F.laws_markTotalSS) [(.tmp 10), (.tmp 11)] [0], none⟩,
     ⟨some 1, .mv (.tmp 12), none⟩] [1] []) <|
  .seq (.region [⟨some 13, .mv (.tmp 1), none⟩,
     ⟨some 4, .mv (.tmp 13), none⟩] [4] []) <|
  .ret
theorem Cd.laws_markOffice_rs : Try.f16.results.toList = [.tmp 4] := rfl
theorem Cd.laws_markOffice_nt : Try.f16.ntmps = 14 := rfl
theorem Cd.laws_markOffice_ok : CodeIsR Try.prog 16 Try.f16 Cd.laws_markOffice := ⟨Try.func16, by kernel_rfl, by decide +kernel⟩
/-- loop.example/g01012/laws.heldOffice -/
def Cd.laws_heldOffice : ACode :=
  .seq (.region [⟨some 2, .box (.tmp 0), none⟩,
     ⟨some 4, .mv (.const (.int .i64 (0))), none⟩] [1, 2] []) <|
  .seq (.region [⟨some 5, .fieldAddr 0 (.tmp 2), none⟩,
     ⟨some 6, .load false 1 (.tmp 5), none⟩,
     ⟨some 7, .mv (.tmp 1), none⟩,
     ⟨some 8, .call (.func F.laws_heldCardSS) [(.tmp 6), (.tmp 7)] [], none⟩,
     ⟨some 1, .mv (.tmp 8), none⟩] [1, 2] []) <|
  .seq (.seq (.region [⟨some 9, .mv (.tmp 1), none⟩,
      ⟨some 10, .bin .lss (.tmp 9) (.const (.int .i64 (0))), none⟩] [1, 2, 10] []) <|
   .cond (.tmp 10)
     (.seq (.region [⟨some 4, .mv (.const (.int .i64 (-1))), none⟩] [4] []) <|
     .ret)
     (.skip)) <|
  .seq (.region [⟨some 11, .fieldAddr 1 (.tmp 2), none⟩,
     ⟨some 12, .load false 1 (.tmp 11), none⟩,
     ⟨some 13, .mv (.tmp 1), none⟩,
     ⟨some 14, .call (.func F.laws_heldTotalSS) [(.tmp 12), (.tmp 13)] [], none⟩,
     ⟨some 1, .mv (.tmp 14), none⟩] [1] []) <|
  .seq (.seq (.region [⟨some 15, .mv (.tmp 1), none⟩,
      ⟨some 16, .bin .lss (.tmp 15) (.const (.int .i64 (0))), none⟩] [1, 16] []) <|
   .cond (.tmp 16)
     (.seq (.region [⟨some 4, .mv (.const (.int .i64 (-1))), none⟩] [4] []) <|
     .ret)
     (.skip)) <|
  .seq (.region [⟨some 17, .mv (.tmp 1), none⟩,
     ⟨some 4, .mv (.tmp 17), none⟩] [4] []) <|
  .ret
theorem Cd.laws_heldOffice_rs : Try.f17.results.toList = [.tmp 4] := rfl
theorem Cd.laws_heldOffice_nt : Try.f17.ntmps = 18 := rfl
theorem Cd.laws_heldOffice_ok : CodeIsR Try.prog 17 Try.f17 Cd.laws_heldOffice := ⟨Try.func17, by kernel_rfl, by decide +kernel⟩
/-- loop.example/g01012/laws.szCard -/
def Cd.laws_szCard : ACode :=
  .seq (.region [⟨some 2, .box (.tmp 0), none⟩,
     ⟨some 4, .mv (.const (.int .i64 (0))), none⟩] [1, 2] []) <|
  .seq (.region [⟨some 5, .fieldAddr 0 (.tmp 2), none⟩,
     ⟨some 6, .load false 1 (.tmp 5), none⟩,
     ⟨some 7, .mv (.tmp 1), none⟩,
     ⟨some 8, .call (.func F.laws_szInt64S) [(.tmp 6), (.tmp 7)] [], none⟩,
     ⟨some 1, .mv (.tmp 8), none⟩] [1] []) <|
  .seq (.seq (.region [⟨some 9, .mv (.tmp 1), none⟩,
      ⟨some 10, .bin .lss (.tmp 9) (.const (.int .i64 (0))), none⟩] [1, 10] []) <|
   .cond (.tmp 10)
     (.seq (.region [⟨some 4, .mv (.const (.int .i64 (-1))), none⟩] [4] []) <|
     .ret)
     (.skip)) <|
  .seq (.region [⟨some 11, .mv (.tmp 1), none⟩,
     ⟨some 4, .mv (.tmp 11), none⟩] [4] []) <|
  .ret
theorem Cd.laws_szCard_rs : Try.f22.results.toList = [.tmp 4] := rfl
theorem Cd.laws_szCard_nt : Try.f22.ntmps = 12 := rfl
theorem Cd.laws_szCard_ok : CodeIsR Try.prog 22 Try.f22 Cd.laws_szCard := ⟨Try.func22, by kernel_rfl, by decide +kernel⟩
/-- loop.example/g01012/spec.l00In -/
def Cd.spec_l00In : ACode :=
  .seq (.region [⟨some 6, .mv (.const (.bool false)), none⟩] [0, 1, 2] []) <|
  .seq (.region [⟨some 7, .mv (.tmp 0), none⟩,
     ⟨some 8, .mv (.tmp 1), none⟩,
     ⟨some 9, .bin .geq (.tmp 7) (.tmp 8), none⟩,
     ⟨some 10, .mv (.tmp 9), none⟩,
     ⟨some 11, .mv (.tmp 0), some (10, true)⟩,
     ⟨some 12, .mv (.tmp 2), some (10, true)⟩,
     ⟨some 13, .bin .leq (.tmp 11) (.tmp 12), some (10, true)⟩,
     ⟨some 14, .pick (.tmp 10) (.tmp 13) (.const (.bool false)), none⟩,
     ⟨some 6, .mv (.tmp 14), none⟩] [6] []) <|
  .ret
theorem Cd.spec_l00In_rs : Try.f24.results.toList = [.tmp 6] := rfl
theorem Cd.spec_l00In_nt : Try.f24.ntmps = 15 := rfl
theorem Cd.spec_l00In_ok : CodeIsR Try.prog 24 Try.f24 Cd.spec_l00In := ⟨Try.func24, by kernel_rfl, by decide +kernel⟩
/-- loop.example/g01012/laws.toCard -/
def Cd.laws_toCard : ACode :=
  .seq (.region [⟨some 1, .box (.tmp 0), none⟩,
     ⟨some 2, .alloc [.v (.slice none 0 0)], none⟩] [1, 2] []) <|
  .seq (.region [⟨some 3, .alloc [.v (.slice none 0 0)], none⟩] [1, 2, 3] []) <|
  .seq (.region [⟨some 4, .fieldAddr 0 (.tmp 1), none⟩,
     ⟨some 5, .load false 1 (.tmp 4), none⟩,
     ⟨some 6, .call (.func F.laws_toInt64S) [(.tmp 5)] [], none⟩,
     ⟨some 7, .fieldAddr 0 (.tmp 3), none⟩,
     ⟨none, .store 1 (.tmp 7) (.tmp 6), none⟩] [2, 3] []) <|
  .seq (.region [⟨some 8, .load true 1 (.tmp 3), none⟩,
     ⟨none, .store 1 (.tmp 2) (.tmp 8), none⟩] [2] []) <|
  .ret
theorem Cd.laws_toCard_rs : Try.f27.results.toList = [.cell 2 59] := rfl
theorem Cd.laws_toCard_nt : Try.f27.ntmps = 9 := rfl
theorem Cd.laws_toCard_ok : CodeIsR Try.prog 27 Try.f27 Cd.laws_toCard := ⟨Try.func27, by kernel_rfl, by decide +kernel⟩
/-- loop.example/g01012/impl.decksOf DRAWS -/
def Cd.impl_decksOf : ACode :=
  .seq (.region [⟨some 4, .mv (.const (.slice none 0 0)), none⟩] [0, 1] []) <|
  .seq (.closing 6 (
     .naming 5 (
       .region [⟨some 12, .bsliceC 1 0 [.v (.slice none 0 0)] [], none⟩,
         ⟨some 13, .bslice 1 1 [.v (.slice none 0 0)] [(0, (.tmp 12))], none⟩,
         ⟨some 14, .bsliceC 1 0 [.v (.slice none 0 0)] [], none⟩,
         ⟨some 15, .bslice 1 1 [.v (.slice none 0 0)] [(0, (.tmp 14))], none⟩,
         ⟨some 5, .mv (.tmp 13), none⟩,
         ⟨some 6, .mv (.tmp 15), none⟩] [0, 1, 5, 6] []))) <|
  .seq (.seq (.region [⟨some 16, .mv (.tmp 1), none⟩,
      ⟨some 17, .mv (.const (.int .i64 (0))), none⟩] [0, 5, 6, 16, 17] []) <|
   .block 0 (
     .loop (
       .seq (.region [⟨some 18, .bin .lss (.tmp 17) (.tmp 16), none⟩] [0, 5, 6, 16, 17, 18] []) <|
       .seq (.cond (.tmp 18)
          (.skip)
          (.exit 0)) <|
       .seq (.block 1 (
          .seq (.naming 7 (
             .region [⟨some 19, .bslice 1 0 [.v (.slice none 0 0)] [], none⟩,
               ⟨some 7, .mv (.tmp 19), none⟩] [0, 5, 6, 7, 16, 17] [])) <|
          .seq (.seq (.region [⟨some 20, .mv (.tmp 6), none⟩,
              ⟨some 21, .len (.tmp 20), none⟩,
              ⟨some 22, .mv (.const (.int .i64 (0))), none⟩] [0, 5, 7, 16, 17, 20, 21, 22] []) <|
           .block 2 (
             .loop (
               .seq (.region [⟨some 23, .bin .lss (.tmp 22) (.tmp 21), none⟩] [0, 5, 7, 16, 17, 20, 21, 22, 23] []) <|
               .seq (.cond (.tmp 23)
                  (.skip)
                  (.exit 2)) <|
               .seq (.block 3 (
                  .seq (.region [⟨some 24, .idxSl 1 (.tmp 20) (.tmp 22), none⟩,
                     ⟨some 25, .load false 1 (.tmp 24), none⟩,
                     ⟨some 9, .mv (.tmp 25), none⟩] [0, 5, 7, 9, 16, 17, 20, 21, 22] []) <|
                  .seq (.region [⟨some 26, .mv (.tmp 0), none⟩,
                     ⟨some 27, .len (.tmp 26), none⟩,
                     ⟨some 28, .mv (.const (.int .i64 (0))), none⟩] [0, 5, 7, 9, 16, 17, 20, 21, 22, 26, 27, 28] []) <|
                  .block 4 (
                    .loop (
                      .seq (.region [⟨some 29, .bin .lss (.tmp 28) (.tmp 27), none⟩] [0, 5, 7, 9, 16, 17, 20, 21, 22, 26, 27, 28, 29] []) <|
                      .seq (.cond (.tmp 29)
                         (.skip)
                         (.exit 4)) <|
                      .seq (.block 5 (
                         .seq (.region [⟨some 30, .idxSl 1 (.tmp 26) (.tmp 28), none⟩,
                            ⟨some 31, .load true 1 (.tmp 30), none⟩,
                            ⟨some 11, .alloc [.v (.slice none 0 0)], none⟩,
                            ⟨none, .store 1 (.tmp 11) (.tmp 31), none⟩] [0, 5, 7, 9, 11, 16, 17, 20, 21, 22, 26, 27, 28] []) <|
                         .naming 7 (
                           .region [⟨some 32, .mv (.tmp 7), none⟩,
                             ⟨some 33, .mv (.tmp 9), none⟩,
                             ⟨some 34, .call (.func F.impl_newDeck) [(.tmp 33)] [], none⟩,
                             ⟨some 35, .load true 1 (.tmp 11), none⟩,
                             ⟨some 36, .call (.func F.impl_newCard) [(.tmp 35)] [], none⟩,
                             ⟨some 37, .bslice 1 1 [.v (.slice none 0 0)] [(0, (.tmp 36))], none⟩,
                             ⟨some 38, .appendC 1 24 (.tmp 34) (.tmp 37), none⟩,
                             ⟨some 39, .bslice 1 1 [.v (.slice none 0 0)] [(0, (.tmp 38))], none⟩,
                             ⟨some 40, .append 1 24 (.tmp 32) (.tmp 39), none⟩,
                             ⟨some 7, .mv (.tmp 40), none⟩] [0, 5, 7, 9, 16, 17, 20, 21, 22, 26, 27, 28] [32, 33, 34, 35, 36, 37, 38, 39, 40]))) <|
                      .region [⟨some 41, .bin .add (.tmp 28) (.const (.int .i64 (1))), none⟩,
                        ⟨some 28, .mv (.tmp 41), none⟩] [0, 5, 7, 9, 16, 17, 20, 21, 22, 26, 27, 28] [])))) <|
               .region [⟨some 42, .bin .add (.tmp 22) (.const (.int .i64 (1))), none⟩,
                 ⟨some 22, .mv (.tmp 42), none⟩] [0, 5, 7, 16, 17, 20, 21, 22] []))) <|
          .seq (.naming 5 (
             .region [⟨some 43, .mv (.tmp 5), none⟩,
               ⟨some 44, .mv (.tmp 7), none⟩,
               ⟨some 45, .append 1 24 (.tmp 43) (.tmp 44), none⟩,
               ⟨some 5, .mv (.tmp 45), none⟩] [0, 5, 7, 16, 17] [])) <|
          .closing 6 (
            .region [⟨some 46, .mv (.tmp 7), none⟩,
              ⟨some 6, .mv (.tmp 46), none⟩] [0, 5, 6, 16, 17] []))) <|
       .region [⟨some 47, .bin .add (.tmp 17) (.const (.int .i64 (1))), none⟩,
         ⟨some 17, .mv (.tmp 47), none⟩] [0, 5, 6, 16, 17] []))) <|
  .seq (.region [⟨some 48, .mv (.tmp 5), none⟩,
     ⟨some 4, .mv (.tmp 48), none⟩] [4] []) <|
  .ret
theorem Cd.impl_decksOf_rs : Try.f29.results.toList = [.tmp 4] := rfl
theorem Cd.impl_decksOf_nt : Try.f29.ntmps = 49 := rfl
theorem Cd.impl_decksOf_ok : CodeIsR Try.prog 29 Try.f29 Cd.impl_decksOf := ⟨Try.func29, by kernel_rfl, by decide +kernel⟩
/-- loop.example/g01012/impl.inside -/
def Cd.impl_inside : ACode :=
  .seq (.region [⟨some 6, .mv (.const (.bool false)), none⟩] [0, 1, 2] []) <|
  .seq (.region [⟨some 7, .mv (.tmp 0), none⟩,
     ⟨some 8, .mv (.tmp 1), none⟩,
     ⟨some 9, .bin .geq (.tmp 7) (.tmp 8), none⟩,
     ⟨some 10, .mv (.tmp 9), none⟩,
     ⟨some 11, .mv (.tmp 0), some (10, true)⟩,
     ⟨some 12, .mv (.tmp 2), some (10, true)⟩,
     ⟨some 13, .bin .leq (.tmp 11) (.tmp 12), some (10, true)⟩,
     ⟨some 14, .pick (.tmp 10) (.tmp 13) (.const (.bool false)), none⟩,
     ⟨some 6, .mv (.tmp 14), none⟩] [6] []) <|
  .ret
theorem Cd.impl_inside_rs : Try.f30.results.toList = [.tmp 6] := rfl
theorem Cd.impl_inside_nt : Try.f30.ntmps = 15 := rfl
theorem Cd.impl_inside_ok : CodeIsR Try.prog 30 Try.f30 Cd.impl_inside := ⟨Try.func30, by kernel_rfl, by decide +kernel⟩
/-- loop.example/g01012/laws.eqCard -/
def Cd.laws_eqCard : ACode :=
  .seq (.region [⟨some 2, .box (.tmp 0), none⟩,
     ⟨some 3, .box (.tmp 1), none⟩,
     ⟨some 4, .mv (.const (.bool false)), none⟩] [2, 3] []) <|
  .seq (.seq (.region [⟨some 5, .fieldAddr 0 (.tmp 2), none⟩,
      ⟨some 6, .load false 1 (.tmp 5), none⟩,
      ⟨some 7, .fieldAddr 0 (.tmp 3), none⟩,
      ⟨some 8, .load false 1 (.tmp 7), none⟩,
      ⟨some 9, .call (.func F.laws_eqInt64S) [(.tmp 6), (.tmp 8)] [], none⟩,
      ⟨some 10, .un .not (.tmp 9), none⟩] [10] []) <|
   .cond (.tmp 10)
     (.seq (.region [⟨some 4, .mv (.const (.bool false)), none⟩] [4] []) <|
     .ret)
     (.skip)) <|
  .seq (.region [⟨some 4, .mv (.const (.bool true)), none⟩] [4] []) <|
  .ret
theorem Cd.laws_eqCard_rs : Try.f32.results.toList = [.tmp 4] := rfl
theorem Cd.laws_eqCard_nt : Try.f32.ntmps = 11 := rfl
theorem Cd.laws_eqCard_ok : CodeIsR Try.prog 32 Try.f32 Cd.laws_eqCard := ⟨Try.func32, by kernel_rfl, by decide +kernel⟩
/-- loop.example/g01012/laws.markInt64S -/
def Cd.laws_markInt64S : ACode :=
  .seq (.region [⟨some 4, .mv (.const (.int .i64 (0))), none⟩] [0, 1] []) <|
  .seq (.seq (.region [⟨some 5, .mv (.const (.int .i64 (0))), none⟩] [0, 1, 5] []) <|
   .block 0 (
     .loop (
       .seq (.seq (.region [⟨some 6, .mv (.tmp 5), none⟩,
           ⟨some 7, .mv (.tmp 0), none⟩,
           ⟨some 8, .len (.tmp 7), none⟩,
           ⟨some 9, .bin .lss (.tmp 6) (.tmp 8), none⟩] [0, 1, 5, 9] []) <|
        .cond (.tmp 9)
          (.skip)
          (.exit 0)) <|
       .seq (.block 1 (
          .seq (.region [⟨some 12, .mv (.tmp 0), none⟩,
             ⟨some 13, .mv (.tmp 5), none⟩,
             ⟨some 14, .mv (.tmp 1), none⟩,
             ⟨some 15, .idxSl 1 (.tmp 12) (.tmp 13), none⟩,
             ⟨none, .store 1 (.tmp 15) (.tmp 14), none⟩] [0, 1, 5] []) <|
          .region [⟨some 16, .mv (.tmp 1), none⟩,
            ⟨some 17, .bin .add (.tmp 16) (.const (.int .i64 (1))), none⟩,
            ⟨some 1, .mv (.tmp 17), none⟩] [0, 1, 5] [])) <|
       .region [⟨some 10, .mv (.tmp 5), none⟩,
         ⟨some 11, .bin .add (.tmp 10) (.const (.int .i64 (1))), none⟩,
         ⟨some 5, .mv (.tmp 11), none⟩] [0, 1, 5] []))) <|
  .seq (.region [⟨some 18, .mv (.tmp 1), none⟩,
     ⟨some 4, .mv (.tmp 18), none⟩] [4] []) <|
  .ret
theorem Cd.laws_markInt64S_rs : Try.f33.results.toList = [.tmp 4] := rfl
theorem Cd.laws_markInt64S_nt : Try.f33.ntmps = 19 := rfl
theorem Cd.laws_markInt64S_ok : CodeIsR Try.prog 33 Try.f33 Cd.laws_markInt64S := ⟨Try.func33, by kernel_rfl, by decide +kernel⟩
/-- loop.example/g01012/laws.heldInt64S -/
def Cd.laws_heldInt64S : ACode :=
  .seq (.region [⟨some 4, .mv (.const (.int .i64 (0))), none⟩] [0, 1] []) <|
  .seq (.seq (.region [⟨some 5, .mv (.const (.int .i64 (0))), none⟩] [0, 1, 5] []) <|
   .block 0 (
     .loop (
       .seq (.seq (.region [⟨some 6, .mv (.tmp 5), none⟩,
           ⟨some 7, .mv (.tmp 0), none⟩,
           ⟨some 8, .len (.tmp 7), none⟩,
           ⟨some 9, .bin .lss (.tmp 6) (.tmp 8), none⟩] [0, 1, 5, 9] []) <|
        .cond (.tmp 9)
          (.skip)
          (.exit 0)) <|
       .seq (.block 1 (
          .seq (.seq (.region [⟨some 12, .mv (.tmp 0), none⟩,
              ⟨some 13, .mv (.tmp 5), none⟩,
              ⟨some 14, .idxSl 1 (.tmp 12) (.tmp 13), none⟩,
              ⟨some 15, .load false 1 (.tmp 14), none⟩,
              ⟨some 16, .mv (.tmp 1), none⟩,
              ⟨some 17, .bin .neq (.tmp 15) (.tmp 16), none⟩] [0, 1, 5, 17] []) <|
           .cond (.tmp 17)
             (.seq (.region [⟨some 4, .mv (.const (.int .i64 (-1))), none⟩] [4] []) <|
             .ret)
             (.skip)) <|
          .region [⟨some 18, .mv (.tmp 1), none⟩,
            ⟨some 19, .bin .add (.tmp 18) (.const (.int .i64 (1))), none⟩,
            ⟨some 1, .mv (.tmp 19), none⟩] [0, 1, 5] [])) <|
       .region [⟨some 10, .mv (.tmp 5), none⟩,
         ⟨some 11, .bin .add (.tmp 10) (.const (.int .i64 (1))), none⟩,
         ⟨some 5, .mv (.tmp 11), none⟩] [0, 1, 5] []))) <|
  .seq (.region [⟨some 20, .mv (.tmp 1), none⟩,
     ⟨some 4, .mv (.tmp 20), none⟩] [4] []) <|
  .ret
theorem Cd.laws_heldInt64S_rs : Try.f34.results.toList = [.tmp 4] := rfl
theorem Cd.laws_heldInt64S_nt : Try.f34.ntmps = 21 := rfl
theorem Cd.laws_heldInt64S_ok : CodeIsR Try.prog 34 Try.f34 Cd.laws_heldInt64S := ⟨Try.func34, by kernel_rfl, by decide +kernel⟩
/-- loop.example/g01012/spec.l02Deck DRAWS -/
def Cd.spec_l02Deck : ACode :=
  .seq (.region [⟨some 2, .mv (.const (.bool false)), none⟩] [0] []) <|
  .seq (.seq (.region [⟨some 3, .mv (.const (.int .i64 (0))), none⟩] [0, 3] []) <|
   .block 0 (
     .loop (
       .seq (.seq (.region [⟨some 4, .mv (.tmp 3), none⟩,
           ⟨some 5, .mv (.tmp 0), none⟩,
           ⟨some 6, .len (.tmp 5), none⟩,
           ⟨some 7, .bin .lss (.tmp 4) (.tmp 6), none⟩] [0, 3, 7] []) <|
        .cond (.tmp 7)
          (.skip)
          (.exit 0)) <|
       .seq (.block 1 (
          .seq (.region [⟨some 10, .mv (.tmp 0), none⟩,
             ⟨some 11, .mv (.tmp 3), none⟩,
             ⟨some 12, .idxSl 1 (.tmp 10) (.tmp 11), none⟩,
             ⟨some 13, .call (.func F.spec_l02Ok) [(.tmp 12)] [], none⟩,
             ⟨some 14, .un .not (.tmp 13), none⟩,
             ⟨some 15, .mv (.tmp 14), none⟩,
             ⟨some 16, .mv (.tmp 0), some (15, false)⟩,
             ⟨some 17, .mv (.tmp 3), some (15, false)⟩,
             ⟨some 18, .idxSl 1 (.tmp 16) (.tmp 17), some (15, false)⟩,
             ⟨some 19, .fieldAddr 0 (.tmp 18), some (15, false)⟩,
             ⟨some 20, .load false 1 (.tmp 19), some (15, false)⟩,
             ⟨some 21, .len (.tmp 20), some (15, false)⟩,
             ⟨some 22, .mv (.tmp 0), some (15, false)⟩,
             ⟨some 23, .idxSl 1 (.tmp 22) (.const (.int .i64 (0))), some (15, false)⟩,
             ⟨some 24, .fieldAddr 0 (.tmp 23), some (15, false)⟩,
             ⟨some 25, .load false 1 (.tmp 24), some (15, false)⟩,
             ⟨some 26, .len (.tmp 25), some (15, false)⟩,
             ⟨some 27, .bin .neq (.tmp 21) (.tmp 26), some (15, false)⟩,
             ⟨some 28, .pick (.tmp 15) (.const (.bool true)) (.tmp 27), none⟩] [0, 3, 28] [10, 11, 13, 14, 12, 15, 16, 17, 18, 19, 20, 21, 22, 23, 24, 25, 26, 27, 28]) <|
          .cond (.tmp 28)
            (.seq (.region [⟨some 2, .mv (.const (.bool false)), none⟩] [2] []) <|
            .ret)
            (.skip))) <|
       .region [⟨some 8, .mv (.tmp 3), none⟩,
         ⟨some 9, .bin .add (.tmp 8) (.const (.int .i64 (1))), none⟩,
         ⟨some 3, .mv (.tmp 9), none⟩] [0, 3] []))) <|
  .seq (.region [⟨some 29, .mv (.tmp 0), none⟩,
     ⟨some 30, .len (.tmp 29), none⟩,
     ⟨some 31, .bin .leq (.tmp 30) (.const (.int .i64 (40))), none⟩,
     ⟨some 2, .mv (.tmp 31), none⟩] [2] []) <|
  .ret
theorem Cd.spec_l02Deck_rs : Try.f35.results.toList = [.tmp 2] := rfl
theorem Cd.spec_l02Deck_nt : Try.f35.ntmps = 32 := rfl
theorem Cd.spec_l02Deck_ok : CodeIsR Try.prog 35 Try.f35 Cd.spec_l02Deck := ⟨Try.func35, by kernel_rfl, by decide +kernel⟩
/-- loop.example/g01012/spec.l15New -/
def Cd.spec_l15New : ACode :=
  .seq (.region [⟨some 2, .alloc [.v (.slice none 0 0), .v (.slice none 0 0)], none⟩] [0, 2] []) <|
  .seq (.region [⟨some 5, .mv (.tmp 0), none⟩,
     ⟨some 6, .call (.func F.spec_l02Copy) [(.tmp 5)] [], none⟩,
     ⟨some 7, .bslice 1 1 [.v (.slice none 0 0)] [(0, (.tmp 6))], none⟩,
     ⟨some 8, .build [.v (.slice none 0 0), .v (.slice none 0 0)] [(0, 1, (.tmp 7))], none⟩,
     ⟨some 3, .alloc [.v (.slice none 0 0), .v (.slice none 0 0)], none⟩,
     ⟨none, .store 2 (.tmp 3) (.tmp 8), none⟩] [2, 3] []) <|
  .seq (.seq (.region [⟨some 4, .mv (.const (.int .i64 (1))), none⟩] [2, 3, 4] []) <|
   .block 0 (
     .loop (
       .seq (.seq (.region [⟨some 9, .mv (.tmp 4), none⟩,
           ⟨some 10, .bin .lss (.tmp 9) (.const (.int .i64 (6))), none⟩] [2, 3, 4, 10] []) <|
        .cond (.tmp 10)
          (.skip)
          (.exit 0)) <|
       .seq (.block 1 (
          .region [⟨some 13, .fieldAddr 0 (.tmp 3), none⟩,
            ⟨some 14, .load false 1 (.tmp 13), none⟩,
            ⟨some 15, .bsliceC 1 0 [.v (.slice none 0 0)] [], none⟩,
            ⟨some 16, .bslice 1 1 [.v (.slice none 0 0)] [(0, (.tmp 15))], none⟩,
            ⟨some 17, .append 1 24 (.tmp 14) (.tmp 16), none⟩,
            ⟨some 18, .fieldAddr 0 (.tmp 3), none⟩,
            ⟨none, .store 1 (.tmp 18) (.tmp 17), none⟩] [2, 3, 4] [])) <|
       .region [⟨some 11, .mv (.tmp 4), none⟩,
         ⟨some 12, .bin .add (.tmp 11) (.const (.int .i64 (1))), none⟩,
         ⟨some 4, .mv (.tmp 12), none⟩] [2, 3, 4] []))) <|
  .seq (.region [⟨some 19, .load true 2 (.tmp 3), none⟩,
     ⟨none, .store 2 (.tmp 2) (.tmp 19), none⟩] [2] []) <|
  .ret
theorem Cd.spec_l15New_rs : Try.f36.results.toList = [.cell 2 34] := rfl
theorem Cd.spec_l15New_nt : Try.f36.ntmps = 20 := rfl
theorem Cd.spec_l15New_ok : CodeIsR Try.prog 36 Try.f36 Cd.spec_l15New := ⟨Try.func36, by kernel_rfl, by decide +kernel⟩
/-- loop.example/g01012/impl.ValidDeck DRAWS -/
def Cd.impl_ValidDeck : ACode :=
  .seq (.region [⟨some 2, .mv (.const (.bool false)), none⟩] [0] []) <|
  .seq (.seq (.region [⟨some 5, .mv (.tmp 0), none⟩,
      ⟨some 6, .len (.tmp 5), none⟩,
      ⟨some 7, .mv (.const (.int .i64 (0))), none⟩] [0, 5, 6, 7] []) <|
   .block 0 (
     .loop (
       .seq (.region [⟨some 8, .bin .lss (.tmp 7) (.tmp 6), none⟩] [0, 5, 6, 7, 8] []) <|
       .seq (.cond (.tmp 8)
          (.skip)
          (.exit 0)) <|
       .seq (.block 1 (
          .seq (.region [⟨some 9, .idxSl 1 (.tmp 5) (.tmp 7), none⟩,
             ⟨some 10, .load true 1 (.tmp 9), none⟩,
             ⟨some 4, .alloc [.v (.slice none 0 0)], none⟩,
             ⟨none, .store 1 (.tmp 4) (.tmp 10), none⟩] [0, 4, 5, 6, 7] []) <|
          .seq (.region [⟨some 11, .load true 1 (.tmp 4), none⟩,
             ⟨some 12, .call (.func F.impl_ValidCard) [(.tmp 11)] [], none⟩,
             ⟨some 13, .un .not (.tmp 12), none⟩,
             ⟨some 14, .mv (.tmp 13), none⟩,
             ⟨some 15, .load true 1 (.tmp 4), some (14, false)⟩,
             ⟨some 16, .call (.func F._impl_Card__columns) [(.tmp 15)] [], some (14, false)⟩,
             ⟨some 17, .mv (.tmp 0), some (14, false)⟩,
             ⟨some 18, .idxSl 1 (.tmp 17) (.const (.int .i64 (0))), some (14, false)⟩,
             ⟨some 19, .load true 1 (.tmp 18), some (14, false)⟩,
             ⟨some 20, .call (.func F._impl_Card__columns) [(.tmp 19)] [], some (14, false)⟩,
             ⟨some 21, .bin .neq (.tmp 16) (.tmp 20), some (14, false)⟩,
             ⟨some 22, .pick (.tmp 14) (.const (.bool true)) (.tmp 21), none⟩] [0, 5, 6, 7, 22] [11, 13, 14, 15, 12, 16, 17, 18, 19, 20, 21, 22]) <|
          .cond (.tmp 22)
            (.seq (.region [⟨some 2, .mv (.const (.bool false)), none⟩] [2] []) <|
            .ret)
            (.skip))) <|
       .region [⟨some 23, .bin .add (.tmp 7) (.const (.int .i64 (1))), none⟩,
         ⟨some 7, .mv (.tmp 23), none⟩] [0, 5, 6, 7] []))) <|
  .seq (.region [⟨some 24, .mv (.tmp 0), none⟩,
     ⟨some 25, .len (.tmp 24), none⟩,
     ⟨some 26, .bin .leq (.tmp 25) (.const (.int .i64 (40))), none⟩,
     ⟨some 2, .mv (.tmp 26), none⟩] [2] []) <|
  .ret
theorem Cd.impl_ValidDeck_rs : Try.f37.results.toList = [.tmp 2] := rfl
theorem Cd.impl_ValidDeck_nt : Try.f37.ntmps = 27 := rfl
theorem Cd.impl_ValidDeck_ok : CodeIsR Try.prog 37 Try.f37 Cd.impl_ValidDeck := ⟨Try.func37, by kernel_rfl, by decide +kernel⟩
/-- loop.example/g01012/impl.newDeck -/
def Cd.impl_newDeck : ACode :=
  .seq (.region [⟨some 2, .mv (.const (.slice none 0 0)), none⟩] [0] []) <|
  .seq (.naming 3 (
     .region [⟨some 6, .bslice 1 0 [.v (.slice none 0 0)] [], none⟩,
       ⟨some 3, .mv (.tmp 6), none⟩] [0, 3] [])) <|
  .seq (.seq (.region [⟨some 7, .mv (.tmp 0), none⟩,
      ⟨some 8, .len (.tmp 7), none⟩,
      ⟨some 9, .mv (.const (.int .i64 (0))), none⟩] [3, 7, 8, 9] []) <|
   .block 0 (
     .loop (
       .seq (.region [⟨some 10, .bin .lss (.tmp 9) (.tmp 8), none⟩] [3, 7, 8, 9, 10] []) <|
       .seq (.cond (.tmp 10)
          (.skip)
          (.exit 0)) <|
       .seq (.block 1 (
          .seq (.region [⟨some 11, .idxSl 1 (.tmp 7) (.tmp 9), none⟩,
             ⟨some 12, .load true 1 (.tmp 11), none⟩,
             ⟨some 5, .alloc [.v (.slice none 0 0)], none⟩,
             ⟨none, .store 1 (.tmp 5) (.tmp 12), none⟩] [3, 5, 7, 8, 9] []) <|
          .naming 3 (
            .region [⟨some 13, .mv (.tmp 3), none⟩,
              ⟨some 14, .load true 1 (.tmp 5), none⟩,
              ⟨some 15, .call (.func F.impl_newCard) [(.tmp 14)] [], none⟩,
              ⟨some 16, .bslice 1 1 [.v (.slice none 0 0)] [(0, (.tmp 15))], none⟩,
              ⟨some 17, .append 1 24 (.tmp 13) (.tmp 16), none⟩,
              ⟨some 3, .mv (.tmp 17), none⟩] [3, 7, 8, 9] []))) <|
       .region [⟨some 18, .bin .add (.tmp 9) (.const (.int .i64 (1))), none⟩,
         ⟨some 9, .mv (.tmp 18), none⟩] [3, 7, 8, 9] []))) <|
  .seq (.region [⟨some 19, .mv (.tmp 3), none⟩,
     ⟨some 2, .mv (.tmp 19), none⟩] [2] []) <|
  .ret
theorem Cd.impl_newDeck_rs : Try.f38.results.toList = [.tmp 2] := rfl
theorem Cd.impl_newDeck_nt : Try.f38.ntmps = 20 := rfl
theorem Cd.impl_newDeck_ok : CodeIsR Try.prog 38 Try.f38 Cd.impl_newDeck := ⟨Try.func38, by kernel_rfl, by decide +kernel⟩
/-- loop.example/g01012/laws.eqCardSS DRAWS -/
def Cd.laws_eqCardSS : ACode :=
  .seq (.region [⟨some 4, .mv (.const (.bool false)), none⟩] [0, 1] []) <|
  .seq (.seq (.region [⟨some 6, .mv (.tmp 0), none⟩,
      ⟨some 7, .len (.tmp 6), none⟩,
      ⟨some 8, .mv (.tmp 1), none⟩,
      ⟨some 9, .len (.tmp 8), none⟩,
      ⟨some 10, .bin .neq (.tmp 7) (.tmp 9), none⟩] [0, 1, 10] []) <|
   .cond (.tmp 10)
     (.seq (.region [⟨some 4, .mv (.const (.bool false)), none⟩] [4] []) <|
     .ret)
     (.skip)) <|
  .seq (.seq (.region [⟨some 5, .mv (.const (.int .i64 (0))), none⟩] [0, 1, 5] []) <|
   .block 0 (
     .loop (
       .seq (.seq (.region [⟨some 11, .mv (.tmp 5), none⟩,
           ⟨some 12, .mv (.tmp 0), none⟩,
           ⟨some 13, .len (.tmp 12), none⟩,
           ⟨some 14, .bin .lss (.tmp 11) (.tmp 13), none⟩] [0, 1, 5, 14] []) <|
        .cond (.tmp 14)
          (.skip)
          (.exit 0)) <|
       .seq (.block 1 (
          .seq (.region [⟨some 17, .mv (.tmp 0), none⟩,
             ⟨some 18, .mv (.tmp 5), none⟩,
             ⟨some 19, .idxSl 1 (.tmp 17) (.tmp 18), none⟩,
             ⟨some 20, .load false 1 (.tmp 19), none⟩,
             ⟨some 21, .mv (.tmp 1), none⟩,
             ⟨some 22, .mv (.tmp 5), none⟩,
             ⟨some 23, .idxSl 1 (.tmp 21) (.tmp 22), none⟩,
             ⟨some 24, .load false 1 (.tmp 23), none⟩,
             ⟨some 25, .call (.func F.laws_eqCardS) [(.tmp 20), (.tmp 24)] [], none⟩,
             ⟨some 26, .un .not (.tmp 25), none⟩] [0, 1, 5, 26] [17, 18, 20, 21, 19, 22, 23, 24, 25, 26]) <|
          .cond (.tmp 26)
            (.seq (.region [⟨some 4, .mv (.const (.bool false)), none⟩] [4] []) <|
            .ret)
            (.skip))) <|
       .region [⟨some 15, .mv (.tmp 5), none⟩,
         ⟨some 16, .bin .add (.tmp 15) (.const (.int .i64 (1))), none⟩,
         ⟨some 5, .mv (.tmp 16), none⟩] [0, 1, 5] []))) <|
  .seq (.region [⟨some 4, .mv (.const (.bool true)), none⟩] [4] []) <|
  .ret
theorem Cd.laws_eqCardSS_rs : Try.f39.results.toList = [.tmp 4] := rfl
theorem Cd.laws_eqCardSS_nt : Try.f39.ntmps = 27 := rfl
theorem Cd.laws_eqCardSS_ok : CodeIsR Try.prog 39 Try.f39 Cd.laws_eqCardSS := ⟨Try.func39, by kernel_rfl, by decide +kernel⟩
/-- loop.example/g01012/laws.eqTotalSS DRAWS -/
def Cd.laws_eqTotalSS : ACode :=
  .seq (.region [⟨some 4, .mv (.const (.bool false)), none⟩] [0, 1] []) <|
  .seq (.seq (.region [⟨some 6, .mv (.tmp 0), none⟩,
      ⟨some 7, .len (.tmp 6), none⟩,
      ⟨some 8, .mv (.tmp 1), none⟩,
      ⟨some 9, .len (.tmp 8), none⟩,
      ⟨some 10, .bin .neq (.tmp 7) (.tmp 9), none⟩] [0, 1, 10] []) <|
   .cond (.tmp 10)
     (.seq (.region [⟨some 4, .mv (.const (.bool false)), none⟩] [4] []) <|
     .ret)
     (.skip)) <|
  .seq (.seq (.region [⟨some 5, .mv (.const (.int .i64 (0))), none⟩] [0, 1, 5] []) <|
   .block 0 (
     .loop (
       .seq (.seq (.region [⟨some 11, .mv (.tmp 5), none⟩,
           ⟨some 12, .mv (.tmp 0), none⟩,
           ⟨some 13, .len (.tmp 12), none⟩,
           ⟨some 14, .bin .lss (.tmp 11) (.tmp 13), none⟩] [0, 1, 5, 14] []) <|
        .cond (.tmp 14)
          (.skip)
          (.exit 0)) <|
       .seq (.block 1 (
          .seq (.region [⟨some 17, .mv (.tmp 0), none⟩,
             ⟨some 18, .mv (.tmp 5), none⟩,
             ⟨some 19, .idxSl 1 (.tmp 17) (.tmp 18), none⟩,
             ⟨some 20, .load false 1 (.tmp 19), none⟩,
             ⟨some 21, .mv (.tmp 1), none⟩,
             ⟨some 22, .mv (.tmp 5), none⟩,
             ⟨some 23, .idxSl 1 (.tmp 21) (.tmp 22), none⟩,
             ⟨some 24, .load false 1 (.tmp 23), none⟩,
             ⟨some 25, .call (.func F.laws_eqTotalS) [(.tmp 20), (.tmp 24)] [], none⟩,
             ⟨some 26, .un .not (.tmp 25), none⟩] [0, 1, 5, 26] [17, 18, 20, 21, 19, 22, 23, 24, 25, 26]) <|
          .cond (.tmp 26)
            (.seq (.region [⟨some 4, .mv (.const (.bool false)), none⟩] [4] []) <|
            .ret)
            (.skip))) <|
       .region [⟨some 15, .mv (.tmp 5), none⟩,
         ⟨some 16, .bin .add (.tmp 15) (.const (.int .i64 (1))), none⟩,
         ⟨some 5, .mv (.tmp 16), none⟩] [0, 1, 5] []))) <|
  .seq (.region [⟨some 4, .mv (.const (.bool true)), none⟩] [4] []) <|
  .ret
theorem Cd.laws_eqTotalSS_rs : Try.f40.results.toList = [.tmp 4] := rfl
theorem Cd.laws_eqTotalSS_nt : Try.f40.ntmps = 27 := rfl
theorem Cd.laws_eqTotalSS_ok : CodeIsR Try.prog 40 Try.f40 Cd.laws_eqTotalSS := ⟨Try.func40, by kernel_rfl, by decide +kernel⟩
/-- loop.example/g01012/laws.markCardSS -/
def Cd.laws_markCardSS : ACode :=
  .seq (.region [⟨some 4, .mv (.const (.int .i64 (0))), none⟩] [0, 1] []) <|
  .seq (.seq (.region [⟨some 5, .mv (.const (.int .i64 (0))), none⟩] [0, 1, 5] []) <|
   .block 0 (
     .loop (
       .seq (.seq (.region [⟨some 6, .mv (.tmp 5), none⟩,
           ⟨some 7, .mv (.tmp 0), none⟩,
           ⟨some 8, .len (.tmp 7), none⟩,
           ⟨some 9, .bin .lss (.tmp 6) (.tmp 8), none⟩] [0, 1, 5, 9] []) <|
        .cond (.tmp 9)
          (.skip)
          (.exit 0)) <|
       .seq (.block 1 (
          .region [⟨some 12, .mv (.tmp 0), none⟩,
            ⟨some 13, .mv (.tmp 5), none⟩,
            ⟨some 14, .idxSl 1 (.tmp 12) (.tmp 13), none⟩,
            ⟨some 15, .load false 1 (.tmp 14), none⟩,
            ⟨some 16, .mv (.tmp 1), none⟩,
            ⟨some 17, .call (.func F.laws_markCardS) [(.tmp 15), (.tmp 16)] [0], none⟩,
            ⟨some 1, .mv (.tmp 17), none⟩] [0, 1, 5] [])) <|
       .region [⟨some 10, .mv (.tmp 5), none⟩,
         ⟨some 11, .bin .add (.tmp 10) (.const (.int .i64 (1))), none⟩,
         ⟨some 5, .mv (.tmp 11), none⟩] [0, 1, 5] []))) <|
  .seq (.region [⟨some 18, .mv (.tmp 1), none⟩,
     ⟨some 4, .mv (.tmp 18), none⟩] [4] []) <|
  .ret
theorem Cd.laws_markCardSS_rs : Try.f41.results.toList = [.tmp 4] := rfl
theorem Cd.laws_markCardSS_nt : Try.f41.ntmps = 19 := rfl
theorem Cd.laws_markCardSS_ok : CodeIsR Try.prog 41 Try.f41 Cd.laws_markCardSS := ⟨Try.func41, by kernel_rfl, by decide +kernel⟩
/-- loop.example/g01012/laws.markTotalSS -/
def Cd.laws_markTotalSS : ACode :=
  .seq (.region [⟨some 4, .mv (.const (.int .i64 (0))), none⟩] [0, 1] []) <|
  .seq (.seq (.region [⟨some 5, .mv (.const (.int .i64 (0))), none⟩] [0, 1, 5] []) <|
   .block 0 (
     .loop (
       .seq (.seq (.region [⟨some 6, .mv (.tmp 5), none⟩,
           ⟨some 7, .mv (.tmp 0), none⟩,
           ⟨some 8, .len (.tmp 7), none⟩,
           ⟨some 9, .bin .lss (.tmp 6) (.tmp 8), none⟩] [0, 1, 5, 9] []) <|
        .cond (.tmp 9)
          (.skip)
          (.exit 0)) <|
       .seq (.block 1 (
          .region [⟨some 12, .mv (.tmp 0), none⟩,
            ⟨some 13, .mv (.tmp 5), none⟩,
            ⟨some 14, .idxSl 1 (.tmp 12) (.tmp 13), none⟩,
            ⟨some 15, .load false 1 (.tmp 14), none⟩,
            ⟨some 16, .mv (.tmp 1), none⟩,
            ⟨some 17, .call (.func F.laws_markTotalS) [(.tmp 15), (.tmp 16)] [0], none⟩,
            ⟨some 1, .mv (.tmp 17), none⟩] [0, 1, 5] [])) <|
       .region [⟨some 10, .mv (.tmp 5), none⟩,
         ⟨some 11, .bin .add (.tmp 10) (.const (.int .i64 (1))), none⟩,
         ⟨some 5, .mv (.tmp 11), none⟩] [0, 1, 5] []))) <|
  .seq (.region [⟨some 18, .mv (.tmp 1), none⟩,
     ⟨some 4, .mv (.tmp 18), none⟩] [4] []) <|
  .ret
theorem Cd.laws_markTotalSS_rs : Try.f42.results.toList = [.tmp 4] := rfl
theorem Cd.laws_markTotalSS_nt : Try.f42.ntmps = 19 := rfl
theorem Cd.laws_markTotalSS_ok : CodeIsR Try.prog 42 Try.f42 Cd.laws_markTotalSS := ⟨Try.func42, by kernel_rfl, by decide +kernel⟩
/-- loop.example/g01012/laws.heldCardSS -/
def Cd.laws_heldCardSS : ACode :=
  .seq (.region [⟨some 4, .mv (.const (.int .i64 (0))), none⟩] [0, 1] []) <|
  .seq (.seq (.region [⟨some 5, .mv (.const (.int .i64 (0))), none⟩] [0, 1, 5] []) <|
   .block 0 (
     .loop (
       .seq (.seq (.region [⟨some 6, .mv (.tmp 5), none⟩,
           ⟨some 7, .mv (.tmp 0), none⟩,
           ⟨some 8, .len (.tmp 7), none⟩,
           ⟨some 9, .bin .lss (.tmp 6) (.tmp 8), none⟩] [0, 1, 5, 9] []) <|
        .cond (.tmp 9)
          (.skip)
          (.exit 0)) <|
       .seq (.block 1 (
          .seq (.region [⟨some 12, .mv (.tmp 0), none⟩,
             ⟨some 13, .mv (.tmp 5), none⟩,
             ⟨some 14, .idxSl 1 (.tmp 12) (.tmp 13), none⟩,
             ⟨some 15, .load false 1 (.tmp 14), none⟩,
             ⟨some 16, .mv (.tmp 1), none⟩,
             ⟨some 17, .call (.func F.laws_heldCardS) [(.tmp 15), (.tmp 16)] [], none⟩,
             ⟨some 1, .mv (.tmp 17), none⟩] [0, 1, 5] []) <|
          .seq (.region [⟨some 18, .mv (.tmp 1), none⟩,
             ⟨some 19, .bin .lss (.tmp 18) (.const (.int .i64 (0))), none⟩] [0, 1, 5, 19] []) <|
          .cond (.tmp 19)
            (.seq (.region [⟨some 4, .mv (.const (.int .i64 (-1))), none⟩] [4] []) <|
            .ret)
            (.skip))) <|
       .region [⟨some 10, .mv (.tmp 5), none⟩,
         ⟨some 11, .bin .add (.tmp 10) (.const (.int .i64 (1))), none⟩,
         ⟨some 5, .mv (.tmp 11), none⟩] [0, 1, 5] []))) <|
  .seq (.region [⟨some 20, .mv (.tmp 1), none⟩,
     ⟨some 4, .mv (.tmp 20), none⟩] [4] []) <|
  .ret
theorem Cd.laws_heldCardSS_rs : Try.f43.results.toList = [.tmp 4] := rfl
theorem Cd.laws_heldCardSS_nt : Try.f43.ntmps = 21 := rfl
theorem Cd.laws_heldCardSS_ok : CodeIsR Try.prog 43 Try.f43 Cd.laws_heldCardSS := ⟨Try.func43, by kernel_rfl, by decide +kernel⟩
/-- loop.example/g01012/laws.heldTotalSS -/
def Cd.laws_heldTotalSS : ACode :=
  .seq (.region [⟨some 4, .mv (.const (.int .i64 (0))), none⟩] [0, 1] []) <|
  .seq (.seq (.region [⟨some 5, .mv (.const (.int .i64 (0))), none⟩] [0, 1, 5] []) <|
   .block 0 (
     .loop (
       .seq (.seq (.region [⟨some 6, .mv (.tmp 5), none⟩,
           ⟨some 7, .mv (.tmp 0), none⟩,
           ⟨some 8, .len (.tmp 7), none⟩,
           ⟨some 9, .bin .lss (.tmp 6) (.tmp 8), none⟩] [0, 1, 5, 9] []) <|
        .cond (.tmp 9)
          (.skip)
          (.exit 0)) <|
       .seq (.block 1 (
          .seq (.region [⟨some 12, .mv (.tmp 0), none⟩,
             ⟨some 13, .mv (.tmp 5), none⟩,
             ⟨some 14, .idxSl 1 (.tmp 12) (.tmp 13), none⟩,
             ⟨some 15, .load false 1 (.tmp 14), none⟩,
             ⟨some 16, .mv (.tmp 1), none⟩,
             ⟨some 17, .call (.func F.laws_heldTotalS) [(.tmp 15), (.tmp 16)] [], none⟩,
             ⟨some 1, .mv (.tmp 17), none⟩] [0, 1, 5] []) <|
          .seq (.region [⟨some 18, .mv (.tmp 1), none⟩,
             ⟨some 19, .bin .lss (.tmp 18) (.const (.int .i64 (0))), none⟩] [0, 1, 5, 19] []) <|
          .cond (.tmp 19)
            (.seq (.region [⟨some 4, .mv (.const (.int .i64 (-1))), none⟩] [4] []) <|
            .ret)
            (.skip))) <|
       .region [⟨some 10, .mv (.tmp 5), none⟩,
         ⟨some 11, .bin .add (.tmp 10) (.const (.int .i64 (1))), none⟩,
         ⟨some 5, .mv (.tmp 11), none⟩] [0, 1, 5] []))) <|
  .seq (.region [⟨some 20, .mv (.tmp 1), none⟩,
     ⟨some 4, .mv (.tmp 20), none⟩] [4] []) <|
  .ret
theorem Cd.laws_heldTotalSS_rs : Try.f44.results.toList = [.tmp 4] := rfl
theorem Cd.laws_heldTotalSS_nt : Try.f44.ntmps = 21 := rfl
theorem Cd.laws_heldTotalSS_ok : CodeIsR Try.prog 44 Try.f44 Cd.laws_heldTotalSS := ⟨Try.func44, by kernel_rfl, by decide +kernel⟩
/-- loop.example/g01012/laws.szInt64S -/
def Cd.laws_szInt64S : ACode :=
  .seq (.region [⟨some 4, .mv (.const (.int .i64 (0))), none⟩] [0, 1] []) <|
  .seq (.region [⟨some 5, .mv (.tmp 1), none⟩,
     ⟨some 6, .mv (.tmp 0), none⟩,
     ⟨some 7, .len (.tmp 6), none⟩,
     ⟨some 8, .bin .sub (.tmp 5) (.tmp 7), none⟩,
     ⟨some 1, .mv (.tmp 8), none⟩] [1] []) <|
  .seq (.seq (.region [⟨some 9, .mv (.tmp 1), none⟩,
      ⟨some 10, .bin .lss (.tmp 9) (.const (.int .i64 (0))), none⟩] [1, 10] []) <|
   .cond (.tmp 10)
     (.seq (.region [⟨some 4, .mv (.const (.int .i64 (-1))), none⟩] [4] []) <|
     .ret)
     (.skip)) <|
  .seq (.region [⟨some 11, .mv (.tmp 1), none⟩,
     ⟨some 4, .mv (.tmp 11), none⟩] [4] []) <|
  .ret
theorem Cd.laws_szInt64S_rs : Try.f48.results.toList = [.tmp 4] := rfl
theorem Cd.laws_szInt64S_nt : Try.f48.ntmps = 12 := rfl
theorem Cd.laws_szInt64S_ok : CodeIsR Try.prog 48 Try.f48 Cd.laws_szInt64S := ⟨Try.func48, by kernel_rfl, by decide +kernel⟩
/-- loop.example/g01012/spec.l02Own -/
def Cd.spec_l02Own : ACode :=
  .seq (.region [⟨some 2, .alloc [.v (.slice none 0 0)], none⟩] [0, 2] []) <|
  .seq (.region [⟨some 3, .mv (.tmp 0), none⟩,
     ⟨some 4, .nilc (.tmp 3), none⟩,
     ⟨some 5, .fieldAddr 0 (.tmp 4), none⟩,
     ⟨some 6, .load false 1 (.tmp 5), none⟩,
     ⟨some 7, .call (.func F.spec_l00Own) [(.tmp 6)] [], none⟩,
     ⟨some 8, .build [.v (.slice none 0 0)] [(0, 1, (.tmp 7))], none⟩,
     ⟨none, .store 1 (.tmp 2) (.tmp 8), none⟩] [2] []) <|
  .ret
theorem Cd.spec_l02Own_rs : Try.f50.results.toList = [.cell 2 59] := rfl
theorem Cd.spec_l02Own_nt : Try.f50.ntmps = 9 := rfl
theorem Cd.spec_l02Own_ok : CodeIsR Try.prog 50 Try.f50 Cd.spec_l02Own := ⟨Try.func50, by kernel_rfl, by decide +kernel⟩
/-- loop.example/g01012/laws.toInt64S -/
def Cd.laws_toInt64S : ACode :=
  .seq (.region [⟨some 2, .mv (.const (.slice none 0 0)), none⟩] [0] []) <|
  .seq (.region [⟨some 5, .mv (.tmp 0), none⟩,
     ⟨some 6, .len (.tmp 5), none⟩,
     ⟨some 7, .mk 1 8 [.v (.int .i64 (0))] (.tmp 6), none⟩,
     ⟨some 3, .mv (.tmp 7), none⟩] [0, 3] []) <|
  .seq (.seq (.region [⟨some 4, .mv (.const (.int .i64 (0))), none⟩] [0, 3, 4] []) <|
   .block 0 (
     .loop (
       .seq (.seq (.region [⟨some 8, .mv (.tmp 4), none⟩,
           ⟨some 9, .mv (.tmp 0), none⟩,
           ⟨some 10, .len (.tmp 9), none⟩,
           ⟨some 11, .bin .lss (.tmp 8) (.tmp 10), none⟩] [0, 3, 4, 11] []) <|
        .cond (.tmp 11)
          (.skip)
          (.exit 0)) <|
       .seq (.block 1 (
          .region [⟨some 14, .mv (.tmp 3), none⟩,
            ⟨some 15, .mv (.tmp 4), none⟩,
            ⟨some 16, .mv (.tmp 0), none⟩,
            ⟨some 17, .mv (.tmp 4), none⟩,
            ⟨some 18, .idxSl 1 (.tmp 16) (.tmp 17), none⟩,
            ⟨some 19, .load false 1 (.tmp 18), none⟩,
            ⟨some 20, .idxSl 1 (.tmp 14) (.tmp 15), none⟩,
            ⟨none, .store 1 (.tmp 20) (.tmp 19), none⟩] [0, 3, 4] [])) <|
       .region [⟨some 12, .mv (.tmp 4), none⟩,
         ⟨some 13, .bin .add (.tmp 12) (.const (.int .i64 (1))), none⟩,
         ⟨some 4, .mv (.tmp 13), none⟩] [0, 3, 4] []))) <|
  .seq (.region [⟨some 21, .mv (.tmp 3), none⟩,
     ⟨some 2, .mv (.tmp 21), none⟩] [2] []) <|
  .ret
theorem Cd.laws_toInt64S_rs : Try.f51.results.toList = [.tmp 2] := rfl
theorem Cd.laws_toInt64S_nt : Try.f51.ntmps = 22 := rfl
theorem Cd.laws_toInt64S_ok : CodeIsR Try.prog 51 Try.f51 Cd.laws_toInt64S := ⟨Try.func51, by kernel_rfl, by decide +kernel⟩
/-- loop.example/g01012/impl.newCard -/
def Cd.impl_newCard : ACode :=
  .seq (.region [⟨some 1, .box (.tmp 0), none⟩,
     ⟨some 2, .alloc [.v (.slice none 0 0)], none⟩] [1, 2] []) <|
  .seq (.region [⟨some 3, .fieldAddr 0 (.tmp 1), none⟩,
     ⟨some 4, .load false 1 (.tmp 3), none⟩,
     ⟨some 5, .call (.func F.impl_copyInts) [(.tmp 4)] [], none⟩,
     ⟨some 6, .build [.v (.slice none 0 0)] [(0, 1, (.tmp 5))], none⟩,
     ⟨none, .store 1 (.tmp 2) (.tmp 6), none⟩] [2] []) <|
  .ret
theorem Cd.impl_newCard_rs : Try.f53.results.toList = [.cell 2 59] := rfl
theorem Cd.impl_newCard_nt : Try.f53.ntmps = 7 := rfl
theorem Cd.impl_newCard_ok : CodeIsR Try.prog 53 Try.f53 Cd.impl_newCard := ⟨Try.func53, by kernel_rfl, by decide +kernel⟩
/-- loop.example/g01012/laws.eqInt64S DRAWS -/
def Cd.laws_eqInt64S : ACode :=
  .seq (.region [⟨some 4, .mv (.const (.bool false)), none⟩] [0, 1] []) <|
  .seq (.seq (.region [⟨some 6, .mv (.tmp 0), none⟩,
      ⟨some 7, .len (.tmp 6), none⟩,
      ⟨some 8, .mv (.tmp 1), none⟩,
      ⟨some 9, .len (.tmp 8), none⟩,
      ⟨some 10, .bin .neq (.tmp 7) (.tmp 9), none⟩] [0, 1, 10] []) <|
   .cond (.tmp 10)
     (.seq (.region [⟨some 4, .mv (.const (.bool false)), none⟩] [4] []) <|
     .ret)
     (.skip)) <|
  .seq (.seq (.region [⟨some 5, .mv (.const (.int .i64 (0))), none⟩] [0, 1, 5] []) <|
   .block 0 (
     .loop (
       .seq (.seq (.region [⟨some 11, .mv (.tmp 5), none⟩,
           ⟨some 12, .mv (.tmp 0), none⟩,
           ⟨some 13, .len (.tmp 12), none⟩,
           ⟨some 14, .bin .lss (.tmp 11) (.tmp 13), none⟩] [0, 1, 5, 14] []) <|
        .cond (.tmp 14)
          (.skip)
          (.exit 0)) <|
       .seq (.block 1 (
          .seq (.region [⟨some 17, .mv (.tmp 0), none⟩,
             ⟨some 18, .mv (.tmp 5), none⟩,
             ⟨some 19, .idxSl 1 (.tmp 17) (.tmp 18), none⟩,
             ⟨some 20, .load false 1 (.tmp 19), none⟩,
             ⟨some 21, .mv (.tmp 1), none⟩,
             ⟨some 22, .mv (.tmp 5), none⟩,
             ⟨some 23, .idxSl 1 (.tmp 21) (.tmp 22), none⟩,
             ⟨some 24, .load false 1 (.tmp 23), none⟩,
             ⟨some 25, .bin .neq (.tmp 20) (.tmp 24), none⟩] [0, 1, 5, 25] [17, 18, 20, 21, 19, 22, 23, 24, 25]) <|
          .cond (.tmp 25)
            (.seq (.region [⟨some 4, .mv (.const (.bool false)), none⟩] [4] []) <|
            .ret)
            (.skip))) <|
       .region [⟨some 15, .mv (.tmp 5), none⟩,
         ⟨some 16, .bin .add (.tmp 15) (.const (.int .i64 (1))), none⟩,
         ⟨some 5, .mv (.tmp 16), none⟩] [0, 1, 5] []))) <|
  .seq (.region [⟨some 4, .mv (.const (.bool true)), none⟩] [4] []) <|
  .ret
theorem Cd.laws_eqInt64S_rs : Try.f54.results.toList = [.tmp 4] := rfl
theorem Cd.laws_eqInt64S_nt : Try.f54.ntmps = 26 := rfl
theorem Cd.laws_eqInt64S_ok : CodeIsR Try.prog 54 Try.f54 Cd.laws_eqInt64S := ⟨Try.func54, by kernel_rfl, by decide +kernel⟩
/-- loop.example/g01012/spec.l02Ok -/
def Cd.spec_l02Ok : ACode :=
  .seq (.region [⟨some 2, .mv (.const (.bool false)), none⟩] [0] []) <|
  .seq (.seq (.region [⟨some 3, .mv (.const (.int .i64 (0))), none⟩] [0, 3] []) <|
   .block 0 (
     .loop (
       .seq (.seq (.region [⟨some 4, .mv (.tmp 3), none⟩,
           ⟨some 5, .mv (.tmp 0), none⟩,
           ⟨some 6, .nilc (.tmp 5), none⟩,
           ⟨some 7, .fieldAddr 0 (.tmp 6), none⟩,
           ⟨some 8, .load false 1 (.tmp 7), none⟩,
           ⟨some 9, .len (.tmp 8), none⟩,
           ⟨some 10, .bin .lss (.tmp 4) (.tmp 9), none⟩] [0, 3, 10] []) <|
        .cond (.tmp 10)
          (.skip)
          (.exit 0)) <|
       .seq (.block 1 (
          .seq (.region [⟨some 13, .mv (.tmp 0), none⟩,
             ⟨some 14, .nilc (.tmp 13), none⟩,
             ⟨some 15, .fieldAddr 0 (.tmp 14), none⟩,
             ⟨some 16, .load false 1 (.tmp 15), none⟩,
             ⟨some 17, .mv (.tmp 3), none⟩,
             ⟨some 18, .idxSl 1 (.tmp 16) (.tmp 17), none⟩,
             ⟨some 19, .load false 1 (.tmp 18), none⟩,
             ⟨some 20, .call (.func F.spec_l00In) [(.tmp 19), (.const (.int .i64 (0))), (.const (.int .i64 (4095)))] [], none⟩,
             ⟨some 21, .un .not (.tmp 20), none⟩] [0, 3, 21] []) <|
          .cond (.tmp 21)
            (.seq (.region [⟨some 2, .mv (.const (.bool false)), none⟩] [2] []) <|
            .ret)
            (.skip))) <|
       .region [⟨some 11, .mv (.tmp 3), none⟩,
         ⟨some 12, .bin .add (.tmp 11) (.const (.int .i64 (1))), none⟩,
         ⟨some 3, .mv (.tmp 12), none⟩] [0, 3] []))) <|
  .seq (.region [⟨some 22, .mv (.tmp 0), none⟩,
     ⟨some 23, .nilc (.tmp 22), none⟩,
     ⟨some 24, .fieldAddr 0 (.tmp 23), none⟩,
     ⟨some 25, .load false 1 (.tmp 24), none⟩,
     ⟨some 26, .len (.tmp 25), none⟩,
     ⟨some 27, .call (.func F.spec_l00In) [(.tmp 26), (.const (.int .i64 (1))), (.const (.int .i64 (20)))] [], none⟩,
     ⟨some 2, .mv (.tmp 27), none⟩] [2] []) <|
  .ret
theorem Cd.spec_l02Ok_rs : Try.f55.results.toList = [.tmp 2] := rfl
theorem Cd.spec_l02Ok_nt : Try.f55.ntmps = 28 := rfl
theorem Cd.spec_l02Ok_ok : CodeIsR Try.prog 55 Try.f55 Cd.spec_l02Ok := ⟨Try.func55, by kernel_rfl, by decide +kernel⟩
/-- loop.example/g01012/spec.l02Copy -/
def Cd.spec_l02Copy : ACode :=
  .seq (.region [⟨some 2, .mv (.const (.slice none 0 0)), none⟩] [0] []) <|
  .seq (.naming 3 (
     .region [⟨some 5, .bslice 1 0 [.v (.slice none 0 0)] [], none⟩,
       ⟨some 3, .mv (.tmp 5), none⟩] [0, 3] [])) <|
  .seq (.seq (.region [⟨some 4, .mv (.const (.int .i64 (0))), none⟩] [0, 3, 4] []) <|
   .block 0 (
     .loop (
       .seq (.seq (.region [⟨some 6, .mv (.tmp 4), none⟩,
           ⟨some 7, .mv (.tmp 0), none⟩,
           ⟨some 8, .len (.tmp 7), none⟩,
           ⟨some 9, .bin .lss (.tmp 6) (.tmp 8), none⟩] [0, 3, 4, 9] []) <|
        .cond (.tmp 9)
          (.skip)
          (.exit 0)) <|
       .seq (.block 1 (
          .naming 3 (
            .region [⟨some 12, .mv (.tmp 3), none⟩,
              ⟨some 13, .mv (.tmp 0), none⟩,
              ⟨some 14, .mv (.tmp 4), none⟩,
              ⟨some 15, .idxSl 1 (.tmp 13) (.tmp 14), none⟩,
              ⟨some 16, .call (.func F.spec_l02Own) [(.tmp 15)] [], none⟩,
              ⟨some 17, .bslice 1 1 [.v (.slice none 0 0)] [(0, (.tmp 16))], none⟩,
              ⟨some 18, .append 1 24 (.tmp 12) (.tmp 17), none⟩,
              ⟨some 3, .mv (.tmp 18), none⟩] [0, 3, 4] []))) <|
       .region [⟨some 10, .mv (.tmp 4), none⟩,
         ⟨some 11, .bin .add (.tmp 10) (.const (.int .i64 (1))), none⟩,
         ⟨some 4, .mv (.tmp 11), none⟩] [0, 3, 4] []))) <|
  .seq (.region [⟨some 19, .mv (.tmp 3), none⟩,
     ⟨some 2, .mv (.tmp 19), none⟩] [2] []) <|
  .ret
theorem Cd.spec_l02Copy_rs : Try.f56.results.toList = [.tmp 2] := rfl
theorem Cd.spec_l02Copy_nt : Try.f56.ntmps = 20 := rfl
theorem Cd.spec_l02Copy_ok : CodeIsR Try.prog 56 Try.f56 Cd.spec_l02Copy := ⟨Try.func56, by kernel_rfl, by decide +kernel⟩
/-- loop.example/g01012/impl.ValidCard -/
def Cd.impl_ValidCard : ACode :=
  .seq (.region [⟨some 1, .box (.tmp 0), none⟩,
     ⟨some 2, .mv (.const (.bool false)), none⟩] [1] []) <|
  .seq (.region [⟨some 3, .load true 1 (.tmp 1), none⟩,
     ⟨some 4, .call (.func F._impl_Card__columns) [(.tmp 3)] [], none⟩,
     ⟨some 5, .call (.func F.impl_inside) [(.tmp 4), (.const (.int .i64 (1))), (.const (.int .i64 (20)))] [], none⟩,
     ⟨some 6, .mv (.tmp 5), none⟩,
     ⟨some 7, .fieldAddr 0 (.tmp 1), some (6, true)⟩,
     ⟨some 8, .load false 1 (.tmp 7), some (6, true)⟩,
     ⟨some 9, .call (.func F.slices_ContainsFunc___int64_int64_) [(.tmp 8), (.func F.impl_ValidCard_1)] [], some (6, true)⟩,
     ⟨some 10, .un .not (.tmp 9), some (6, true)⟩,
     ⟨some 11, .pick (.tmp 6) (.tmp 10) (.const (.bool false)), none⟩,
     ⟨some 2, .mv (.tmp 11), none⟩] [2] []) <|
  .ret
theorem Cd.impl_ValidCard_rs : Try.f57.results.toList = [.tmp 2] := rfl
theorem Cd.impl_ValidCard_nt : Try.f57.ntmps = 12 := rfl
theorem Cd.impl_ValidCard_ok : CodeIsR Try.prog 57 Try.f57 Cd.impl_ValidCard := ⟨Try.func57, by kernel_rfl, by decide +kernel⟩
/-- (loop.example/g01012/impl.Card).columns -/
def Cd._impl_Card__columns : ACode :=
  .seq (.region [⟨some 1, .box (.tmp 0), none⟩,
     ⟨some 2, .mv (.const (.int .i64 (0))), none⟩] [1] []) <|
  .seq (.region [⟨some 3, .fieldAddr 0 (.tmp 1), none⟩,
     ⟨some 4, .load false 1 (.tmp 3), none⟩,
     ⟨some 5, .call (.func F.impl_size_int64_) [(.tmp 4)] [], none⟩,
     ⟨some 2, .mv (.tmp 5), none⟩] [2] []) <|
  .ret
theorem Cd._impl_Card__columns_rs : Try.f58.results.toList = [.tmp 2] := rfl
theorem Cd._impl_Card__columns_nt : Try.f58.ntmps = 6 := rfl
theorem Cd._impl_Card__columns_ok : CodeIsR Try.prog 58 Try.f58 Cd._impl_Card__columns := ⟨Try.func58, by kernel_rfl, by decide +kernel⟩
/-- loop.example/g01012/laws.eqTotalS DRAWS -/
def Cd.laws_eqTotalS : ACode :=
  .seq (.region [⟨some 4, .mv (.const (.bool false)), none⟩] [0, 1] []) <|
  .seq (.seq (.region [⟨some 6, .mv (.tmp 0), none⟩,
      ⟨some 7, .len (.tmp 6), none⟩,
      ⟨some 8, .mv (.tmp 1), none⟩,
      ⟨some 9, .len (.tmp 8), none⟩,
      ⟨some 10, .bin .neq (.tmp 7) (.tmp 9), none⟩] [0, 1, 10] []) <|
   .cond (.tmp 10)
     (.seq (.region [⟨some 4, .mv (.const (.bool false)), none⟩] [4] []) <|
     .ret)
     (.skip)) <|
  .seq (.seq (.region [⟨some 5, .mv (.const (.int .i64 (0))), none⟩] [0, 1, 5] []) <|
   .block 0 (
     .loop (
       .seq (.seq (.region [⟨some 11, .mv (.tmp 5), none⟩,
           ⟨some 12, .mv (.tmp 0), none⟩,
           ⟨some 13, .len (.tmp 12), none⟩,
           ⟨some 14, .bin .lss (.tmp 11) (.tmp 13), none⟩] [0, 1, 5, 14] []) <|
        .cond (.tmp 14)
          (.skip)
          (.exit 0)) <|
       .seq (.block 1 (
          .seq (.region [⟨some 17, .mv (.tmp 0), none⟩,
             ⟨some 18, .mv (.tmp 5), none⟩,
             ⟨some 19, .idxSl 2 (.tmp 17) (.tmp 18), none⟩,
             ⟨some 20, .load true 2 (.tmp 19), none⟩,
             ⟨some 21, .mv (.tmp 1), none⟩,
             ⟨some 22, .mv (.tmp 5), none⟩,
             ⟨some 23, .idxSl 2 (.tmp 21) (.tmp 22), none⟩,
             ⟨some 24, .load true 2 (.tmp 23), none⟩,
             ⟨some 25, .call (.func F.laws_eqTotal) [(.tmp 20), (.tmp 24)] [], none⟩,
             ⟨some 26, .un .not (.tmp 25), none⟩] [0, 1, 5, 26] [17, 18, 20, 21, 19, 22, 23, 24, 25, 26]) <|
          .cond (.tmp 26)
            (.seq (.region [⟨some 4, .mv (.const (.bool false)), none⟩] [4] []) <|
            .ret)
            (.skip))) <|
       .region [⟨some 15, .mv (.tmp 5), none⟩,
         ⟨some 16, .bin .add (.tmp 15) (.const (.int .i64 (1))), none⟩,
         ⟨some 5, .mv (.tmp 16), none⟩] [0, 1, 5] []))) <|
  .seq (.region [⟨some 4, .mv (.const (.bool true)), none⟩] [4] []) <|
  .ret
theorem Cd.laws_eqTotalS_rs : Try.f59.results.toList = [.tmp 4] := rfl
theorem Cd.laws_eqTotalS_nt : Try.f59.ntmps = 27 := rfl
theorem Cd.laws_eqTotalS_ok : CodeIsR Try.prog 59 Try.f59 Cd.laws_eqTotalS := ⟨Try.func59, by kernel_rfl, by decide +kernel⟩
/-- loop.example/g01012/spec.l00Own -/
def Cd.spec_l00Own : ACode :=
  .seq (.region [⟨some 2, .mv (.const (.slice none 0 0)), none⟩] [0] []) <|
  .seq (.region [⟨some 3, .bslice 1 0 [.v (.int .i64 (0))] [], none⟩,
     ⟨some 4, .mv (.tmp 0), none⟩,
     ⟨some 5, .append 1 8 (.tmp 3) (.tmp 4), none⟩,
     ⟨some 2, .mv (.tmp 5), none⟩] [2] []) <|
  .ret
theorem Cd.spec_l00Own_rs : Try.f67.results.toList = [.tmp 2] := rfl
theorem Cd.spec_l00Own_nt : Try.f67.ntmps = 6 := rfl
theorem Cd.spec_l00Own_ok : CodeIsR Try.prog 67 Try.f67 Cd.spec_l00Own := ⟨Try.func67, by kernel_rfl, by decide +kernel⟩
/-- loop.example/g01012/impl.copyInts -/
def Cd.impl_copyInts : ACode :=
  .seq (.region [⟨some 2, .mv (.const (.slice none 0 0)), none⟩] [0] []) <|
  .seq (.region [⟨some 3, .bslice 1 0 [.v (.int .i64 (0))] [], none⟩,
     ⟨some 4, .mv (.tmp 0), none⟩,
     ⟨some 5, .append 1 8 (.tmp 3) (.tmp 4), none⟩,
     ⟨some 2, .mv (.tmp 5), none⟩] [2] []) <|
  .ret
theorem Cd.impl_copyInts_rs : Try.f68.results.toList = [.tmp 2] := rfl
theorem Cd.impl_copyInts_nt : Try.f68.ntmps = 6 := rfl
theorem Cd.impl_copyInts_ok : CodeIsR Try.prog 68 Try.f68 Cd.impl_copyInts := ⟨Try.func68, by kernel_rfl, by decide +kernel⟩
/-- slices.ContainsFunc[[]int64,int64] -/
def Cd.slices_ContainsFunc___int64_int64_ : ACode :=
  .seq (.region [⟨some 4, .mv (.const (.bool false)), none⟩] [0, 1] []) <|
  .seq (.region [⟨some 5, .mv (.tmp 0), none⟩,
     ⟨some 6, .mv (.tmp 1), none⟩,
     ⟨some 7, .call (.func F.slices_IndexFunc___int64_int64_) [(.tmp 5), (.tmp 6)] [], none⟩,
     ⟨some 8, .bin .geq (.tmp 7) (.const (.int .i64 (0))), none⟩,
     ⟨some 4, .mv (.tmp 8), none⟩] [4] []) <|
  .ret
theorem Cd.slices_ContainsFunc___int64_int64__rs : Try.f69.results.toList = [.tmp 4] := rfl
theorem Cd.slices_ContainsFunc___int64_int64__nt : Try.f69.ntmps = 9 := rfl
theorem Cd.slices_ContainsFunc___int64_int64__ok : CodeIsR Try.prog 69 Try.f69 Cd.slices_ContainsFunc___int64_int64_ := ⟨Try.func69, by kernel_rfl, by decide +kernel⟩
/-- loop.example/g01012/impl.ValidCard$1 -/
def Cd.impl_ValidCard_1 : ACode :=
  .seq (.region [⟨some 2, .mv (.const (.bool false)), none⟩] [0] []) <|
  .seq (.region [⟨some 3, .mv (.tmp 0), none⟩,
     ⟨some 4, .call (.func F.impl_inside) [(.tmp 3), (.const (.int .i64 (0))), (.const (.int .i64 (4095)))] [], none⟩,
     ⟨some 5, .un .not (.tmp 4), none⟩,
     ⟨some 2, .mv (.tmp 5), none⟩] [2] []) <|
  .ret
theorem Cd.impl_ValidCard_1_rs : Try.f70.results.toList = [.tmp 2] := rfl
theorem Cd.impl_ValidCard_1_nt : Try.f70.ntmps = 6 := rfl
theorem Cd.impl_ValidCard_1_ok : CodeIsR Try.prog 70 Try.f70 Cd.impl_ValidCard_1 := ⟨Try.func70, by kernel_rfl, by decide +kernel⟩
/-- loop.example/g01012/impl.size[int64] -/
def Cd.impl_size_int64_ : ACode :=
  .seq (.region [⟨some 2, .mv (.const (.int .i64 (0))), none⟩] [0] []) <|
  .seq (.region [⟨some 3, .mv (.tmp 0), none⟩,
     ⟨some 4, .len (.tmp 3), none⟩,
     ⟨some 2, .mv (.tmp 4), none⟩] [2] []) <|
  .ret
theorem Cd.impl_size_int64__rs : Try.f71.results.toList = [.tmp 2] := rfl
theorem Cd.impl_size_int64__nt : Try.f71.ntmps = 5 := rfl
theorem Cd.impl_size_int64__ok : CodeIsR Try.prog 71 Try.f71 Cd.impl_size_int64_ := ⟨Try.func71, by kernel_rfl, by decide +kernel⟩
/-- loop.example/g01012/laws.eqTotal -/
def Cd.laws_eqTotal : ACode :=
  .seq (.region [⟨some 2, .box (.tmp 0), none⟩,
     ⟨some 3, .box (.tmp 1), none⟩,
     ⟨some 4, .mv (.const (.bool false)), none⟩] [2, 3] []) <|
  .seq (.seq (.region [⟨some 5, .fieldAddr 0 (.tmp 2), none⟩,
      ⟨some 6, .load false 1 (.tmp 5), none⟩,
      ⟨some 7, .fieldAddr 0 (.tmp 3), none⟩,
      ⟨some 8, .load false 1 (.tmp 7), none⟩,
      ⟨some 9, .binS .neq (.tmp 6) (.tmp 8), none⟩] [2, 3, 9] []) <|
   .cond (.tmp 9)
     (.seq (.region [⟨some 4, .mv (.const (.bool false)), none⟩] [4] []) <|
     .ret)
     (.skip)) <|
  .seq (.seq (.region [⟨some 10, .fieldAddr 1 (.tmp 2), none⟩,
      ⟨some 11, .load false 1 (.tmp 10), none⟩,
      ⟨some 12, .fieldAddr 1 (.tmp 3), none⟩,
      ⟨some 13, .load false 1 (.tmp 12), none⟩,
      ⟨some 14, .bin .neq (.tmp 11) (.tmp 13), none⟩] [14] []) <|
   .cond (.tmp 14)
     (.seq (.region [⟨some 4, .mv (.const (.bool false)), none⟩] [4] []) <|
     .ret)
     (.skip)) <|
  .seq (.region [⟨some 4, .mv (.const (.bool true)), none⟩] [4] []) <|
  .ret
theorem Cd.laws_eqTotal_rs : Try.f72.results.toList = [.tmp 4] := rfl
theorem Cd.laws_eqTotal_nt : Try.f72.ntmps = 15 := rfl
theorem Cd.laws_eqTotal_ok : CodeIsR Try.prog 72 Try.f72 Cd.laws_eqTotal := ⟨Try.func72, by kernel_rfl, by decide +kernel⟩
/-- slices.IndexFunc[[]int64,int64] -/
def Cd.slices_IndexFunc___int64_int64_ : ACode :=
  .seq (.region [⟨some 4, .mv (.const (.int .i64 (0))), none⟩] [0, 1] []) <|
  .seq (.seq (.region [⟨some 6, .mv (.tmp 0), none⟩,
      ⟨some 7, .len (.tmp 6), none⟩,
      ⟨some 8, .mv (.const (.int .i64 (0))), none⟩] [0, 1, 7, 8] []) <|
   .block 0 (
     .loop (
       .seq (.region [⟨some 9, .bin .lss (.tmp 8) (.tmp 7), none⟩] [0, 1, 7, 8, 9] []) <|
       .seq (.cond (.tmp 9)
          (.skip)
          (.exit 0)) <|
       .seq (.block 1 (
          .seq (.region [⟨some 10, .mv (.tmp 8), none⟩,
             ⟨some 5, .mv (.tmp 10), none⟩] [0, 1, 5, 7, 8] []) <|
          .seq (.region [⟨some 11, .mv (.tmp 1), none⟩,
             ⟨some 12, .mv (.tmp 0), none⟩,
             ⟨some 13, .mv (.tmp 5), none⟩,
             ⟨some 14, .idxSl 1 (.tmp 12) (.tmp 13), none⟩,
             ⟨some 15, .load false 1 (.tmp 14), none⟩,
             ⟨some 16, .call (.tmp 11) [(.tmp 15)] [], none⟩] [0, 1, 5, 7, 8, 16] []) <|
          .cond (.tmp 16)
            (.seq (.region [⟨some 17, .mv (.tmp 5), none⟩,
               ⟨some 4, .mv (.tmp 17), none⟩] [4] []) <|
            .ret)
            (.skip))) <|
       .region [⟨some 18, .bin .add (.tmp 8) (.const (.int .i64 (1))), none⟩,
         ⟨some 8, .mv (.tmp 18), none⟩] [0, 1, 7, 8] []))) <|
  .seq (.region [⟨some 4, .mv (.const (.int .i64 (-1))), none⟩] [4] []) <|
  .ret
theorem Cd.slices_IndexFunc___int64_int64__rs : Try.f81.results.toList = [.tmp 4] := rfl
theorem Cd.slices_IndexFunc___int64_int64__nt : Try.f81.ntmps = 19 := rfl
theorem Cd.slices_IndexFunc___int64_int64__ok : CodeIsR Try.prog 81 Try.f81 Cd.slices_IndexFunc___int64_int64_ := ⟨Try.func81, by kernel_rfl, by decide +kernel⟩
/-- loop.example/g01012/spec.l02Part DRAWS -/
def Cd.spec_l02Part : ACode :=
  .seq (.region [⟨some 3, .box (.tmp 1), none⟩,
     ⟨some 4, .mv (.const (.slice none 0 0)), none⟩] [0, 3] []) <|
  .seq (.region [⟨some 5, .mv (.tmp 0), none⟩,
     ⟨some 6, .nilc (.tmp 5), none⟩,
     ⟨some 7, .fieldAddr 0 (.tmp 6), none⟩,
     ⟨some 8, .load false 1 (.tmp 7), none⟩,
     ⟨some 9, .fieldAddr 0 (.tmp 3), none⟩,
     ⟨some 10, .load false 1 (.tmp 9), none⟩,
     ⟨some 11, .fieldAddr 1 (.tmp 3), none⟩,
     ⟨some 12, .load false 1 (.tmp 11), none⟩,
     ⟨some 13, .slc 1 (.tmp 8) (some (.tmp 10)) (some (.tmp 12)), none⟩,
     ⟨some 4, .mv (.tmp 13), none⟩] [4] [5, 7, 8, 6, 9, 10, 11, 12, 13]) <|
  .ret
theorem Cd.spec_l02Part_rs : Try.f100.results.toList = [.tmp 4] := rfl
theorem Cd.spec_l02Part_nt : Try.f100.ntmps = 14 := rfl
theorem Cd.spec_l02Part_ok : CodeIsR Try.prog 100 Try.f100 Cd.spec_l02Part := ⟨Try.func100, by kernel_rfl, by decide +kernel⟩
end Go.Proofs.Ytokfhfdnmnblfaa
