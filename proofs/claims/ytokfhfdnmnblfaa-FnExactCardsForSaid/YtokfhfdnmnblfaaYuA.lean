/- The code of each function, resolved. -/
import Derived.Test.YtokfhfdnmnblfaaVtC
import Derived.Test.YtokfhfdnmnblfaaRows
namespace Go.Proofs.Ytokfhfdnmnblfaa
open Go.Vs
set_option maxRecDepth 100000
theorem Try.own : ownKnob Try.prog.godebug = none := by kernel_rfl
theorem Try.laidOut : laidOutB Try.prog = true := by kernel_rfl
theorem Try.mixed : Try.prog.follows .mixedOrders = true := Try.checked.mixed
namespace F
abbrev laws_FnExactCardsFor : FuncId := 5
abbrev laws_szCardS : FuncId := 6
abbrev laws_toCardS : FuncId := 8
abbrev laws_eqCardS : FuncId := 10
abbrev laws_markCardS : FuncId := 11
abbrev laws_heldCardS : FuncId := 12
abbrev laws_szSpec : FuncId := 18
abbrev spec_CardsFor : FuncId := 19
abbrev laws_toSpec : FuncId := 20
abbrev impl_CardsFor : FuncId := 21
abbrev laws_szCard : FuncId := 22
abbrev spec_l00In : FuncId := 24
abbrev laws_toCard : FuncId := 27
abbrev impl_inside : FuncId := 30
abbrev laws_eqCard : FuncId := 32
abbrev laws_markInt64S : FuncId := 33
abbrev laws_heldInt64S : FuncId := 34
abbrev spec_l02Deck : FuncId := 35
abbrev impl_ValidDeck : FuncId := 37
abbrev impl_newDeck : FuncId := 38
abbrev spec_l16Cards : FuncId := 45
abbrev laws_toField : FuncId := 46
abbrev impl_cardsFor : FuncId := 47
abbrev laws_szInt64S : FuncId := 48
abbrev spec_l02Own : FuncId := 50
abbrev laws_toInt64S : FuncId := 51
abbrev impl_newCard : FuncId := 53
abbrev laws_eqInt64S : FuncId := 54
abbrev spec_l02Ok : FuncId := 55
abbrev spec_l02Copy : FuncId := 56
abbrev impl_ValidCard : FuncId := 57
abbrev _impl_Card__columns : FuncId := 58
abbrev spec_l16Code : FuncId := 62
abbrev spec_SelectEqual : FuncId := 63
abbrev impl_ValidSpec : FuncId := 64
abbrev impl_deckColumns : FuncId := 65
abbrev impl_SelectEqual : FuncId := 66
abbrev spec_l00Own : FuncId := 67
abbrev impl_copyInts : FuncId := 68
abbrev slices_ContainsFunc___int64_int64_ : FuncId := 69
abbrev impl_ValidCard_1 : FuncId := 70
abbrev impl_size_int64_ : FuncId := 71
abbrev spec_l16Ok : FuncId := 74
abbrev spec_l07Width : FuncId := 75
abbrev spec_l09Ask : FuncId := 76
abbrev impl_isField : FuncId := 77
abbrev impl_isNumberField : FuncId := 78
abbrev impl_areCharacters : FuncId := 79
abbrev impl_SelectBetween : FuncId := 80
abbrev slices_IndexFunc___int64_int64_ : FuncId := 81
abbrev spec_l02Field : FuncId := 82
abbrev spec_l09Text : FuncId := 83
abbrev spec_l07Keys : FuncId := 84
abbrev impl_isCharacter : FuncId := 85
abbrev impl_collateCode : FuncId := 86
abbrev slices_DeleteFunc___impl_Card_impl_Card_ : FuncId := 87
abbrev impl_SelectBetween_1 : FuncId := 88
abbrev impl_compareText : FuncId := 89
abbrev spec_l03Code : FuncId := 90
abbrev spec_l03Key : FuncId := 91
abbrev strings_IndexByte : FuncId := 92
abbrev impl_haveField : FuncId := 93
abbrev slices_IndexFunc___impl_Card_impl_Card_ : FuncId := 94
abbrev impl_compareHoles : FuncId := 95
abbrev impl_punchText : FuncId := 96
abbrev spec_l02Bit : FuncId := 97
abbrev spec_l01Digit : FuncId := 98
abbrev spec_l03Text : FuncId := 99
abbrev spec_l02Part : FuncId := 100
abbrev internal_stringslite_IndexByte : FuncId := 101
abbrev slices_ContainsFunc___impl_Card_impl_Card_ : FuncId := 102
abbrev impl_haveField_1 : FuncId := 103
abbrev impl_hasField : FuncId := 104
abbrev impl_rankOf : FuncId := 105
abbrev impl_blank : FuncId := 106
abbrev impl_codeOf : FuncId := 107
abbrev spec_l03Char : FuncId := 108
abbrev impl_hasCharacters : FuncId := 110
abbrev impl_CodeOf : FuncId := 111
abbrev spec_l03Order : FuncId := 112
abbrev impl_hasCharacters_1 : FuncId := 113
abbrev impl_bitOf : FuncId := 114
abbrev impl_isDigit : FuncId := 115
end F
theorem Ld.t34 : ldOf Try.prog 34 = some (true, 2) := by kernel_rfl
theorem Ld.t48 : ldOf Try.prog 48 = some (true, 7) := by kernel_rfl
theorem Ld.t59 : ldOf Try.prog 59 = some (true, 1) := by kernel_rfl
theorem Ld.t46 : ldOf Try.prog 46 = some (true, 2) := by kernel_rfl
attribute [go_sem] Ld.t34 Ld.t48 Ld.t59 Ld.t46
/-- loop.example/g01012/laws.FnExactCardsFor -/
def Cd.laws_FnExactCardsFor : ACode :=
  .seq (.region [⟨some 2, .box (.tmp 0), none⟩,
     ⟨some 4, .mv (.const (.bool false)), none⟩] [1, 2] []) <|
  .seq (.region [⟨some 5, .mv (.const (.int .i64 (1048576))), none⟩] [1, 2, 5] []) <|
  .seq (.region [⟨some 16, .load true 7 (.tmp 2), none⟩,
     ⟨some 17, .mv (.tmp 5), none⟩,
     ⟨some 18, .call (.func F.laws_szSpec) [(.tmp 16), (.tmp 17)] [], none⟩,
     ⟨some 5, .mv (.tmp 18), none⟩] [1, 2, 5] []) <|
  .seq (.seq (.region [⟨some 19, .mv (.tmp 5), none⟩,
      ⟨some 20, .bin .lss (.tmp 19) (.const (.int .i64 (0))), none⟩] [1, 2, 5, 20] []) <|
   .cond (.tmp 20)
     (.seq (.region [⟨some 4, .mv (.const (.bool true)), none⟩] [4] []) <|
     .ret)
     (.skip)) <|
  .seq (.region [⟨some 21, .mv (.tmp 1), none⟩,
     ⟨some 22, .mv (.tmp 5), none⟩,
     ⟨some 23, .call (.func F.laws_szCardS) [(.tmp 21), (.tmp 22)] [], none⟩,
     ⟨some 5, .mv (.tmp 23), none⟩] [1, 2, 5] []) <|
  .seq (.seq (.region [⟨some 24, .mv (.tmp 5), none⟩,
      ⟨some 25, .bin .lss (.tmp 24) (.const (.int .i64 (0))), none⟩] [1, 2, 25] []) <|
   .cond (.tmp 25)
     (.seq (.region [⟨some 4, .mv (.const (.bool true)), none⟩] [4] []) <|
     .ret)
     (.skip)) <|
  .seq (.region [⟨some 27, .load true 7 (.tmp 2), none⟩,
     ⟨some 28, .call (.func F.laws_toSpec) [(.tmp 27)] [], none⟩,
     ⟨some 29, .mv (.tmp 1), none⟩,
     ⟨some 30, .call (.func F.laws_toCardS) [(.tmp 29)] [], none⟩,
     ⟨some 31, .call (.func F.spec_CardsFor) [(.tmp 28), (.tmp 30)] [], none⟩,
     ⟨some 26, .mv (.tmp 31), none⟩,
     ⟨some 32, .extract (.tmp 26) 0, none⟩,
     ⟨some 33, .extract (.tmp 26) 1, none⟩,
     ⟨some 6, .mv (.tmp 32), none⟩,
     ⟨some 7, .mv (.tmp 33), none⟩] [1, 2, 6, 7] []) <|
  .seq (.region [⟨some 34, .mv (.tmp 1), none⟩,
     ⟨some 35, .call (.func F.laws_toCardS) [(.tmp 34)] [], none⟩,
     ⟨some 8, .mv (.tmp 35), none⟩] [1, 2, 6, 7, 8] []) <|
  .seq (.region [⟨some 37, .load true 7 (.tmp 2), none⟩,
     ⟨some 38, .call (.func F.laws_toSpec) [(.tmp 37)] [], none⟩,
     ⟨some 39, .mv (.tmp 8), none⟩,
     ⟨some 40, .call (.func F.impl_CardsFor) [(.tmp 38), (.tmp 39)] [], none⟩,
     ⟨some 36, .mv (.tmp 40), none⟩,
     ⟨some 41, .extract (.tmp 36) 0, none⟩,
     ⟨some 42, .extract (.tmp 36) 1, none⟩,
     ⟨some 9, .mv (.tmp 41), none⟩,
     ⟨some 10, .mv (.tmp 42), none⟩] [1, 2, 6, 7, 8, 9, 10] []) <|
  .seq (.seq (.region [⟨some 43, .mv (.tmp 9), none⟩,
      ⟨some 44, .mv (.tmp 6), none⟩,
      ⟨some 45, .call (.func F.laws_eqCardS) [(.tmp 43), (.tmp 44)] [], none⟩,
      ⟨some 46, .un .not (.tmp 45), none⟩,
      ⟨some 47, .mv (.tmp 46), none⟩,
      ⟨some 48, .mv (.tmp 10), some (47, false)⟩,
      ⟨some 49, .mv (.tmp 7), some (47, false)⟩,
      ⟨some 50, .bin .neq (.tmp 48) (.tmp 49), some (47, false)⟩,
      ⟨some 51, .pick (.tmp 47) (.const (.bool true)) (.tmp 50), none⟩] [1, 2, 6, 7, 8, 9, 10, 51] []) <|
   .cond (.tmp 51)
     (.seq (.region [⟨some 4, .mv (.const (.bool false)), none⟩] [4] []) <|
     .ret)
     (.skip)) <|
  .seq (.seq (.region [⟨some 52, .mv (.tmp 8), none⟩,
      ⟨some 53, .mv (.tmp 1), none⟩,
      ⟨some 54, .call (.func F.laws_toCardS) [(.tmp 53)] [], none⟩,
      ⟨some 55, .call (.func F.laws_eqCardS) [(.tmp 52), (.tmp 54)] [], none⟩,
      ⟨some 56, .un .not (.tmp 55), none⟩] [1, 2, 6, 7, 8, 9, 10, 56] []) <|
   .cond (.tmp 56)
     (.seq (.region [⟨some 4, .mv (.const (.bool false)), none⟩] [4] []) <|
     .ret)
     (.skip)) <|
  .seq (.region [⟨some 11, .mv (.const (.int .i64 (1))), none⟩] [1, 2, 6, 7, 8, 9, 10, 11] []) <|
  .seq (.region [⟨some 57, .mv (.tmp 8), none⟩,
     ⟨some 58, .mv (.tmp 11), none⟩,
     ⟨some 59, .call (.func F.laws_markCardS) [(.tmp 57), (.tmp 58)] [0], none⟩,
     ⟨some 11, .mv (.tmp 59), none⟩] [1, 2, 6, 7, 9, 10, 11] []) <|
  .seq (.seq (.region [⟨some 60, .mv (.tmp 11), none⟩,
      ⟨some 61, .bin .lss (.tmp 60) (.const (.int .i64 (0))), none⟩,
      ⟨some 62, .mv (.tmp 61), none⟩,
      ⟨some 63, .mv (.tmp 9), some (62, false)⟩,
      ⟨some 64, .mv (.tmp 6), some (62, false)⟩,
      ⟨some 65, .call (.func F.laws_eqCardS) [(.tmp 63), (.tmp 64)] [], some (62, false)⟩,
      ⟨some 66, .un .not (.tmp 65), some (62, false)⟩,
      ⟨some 67, .pick (.tmp 62) (.const (.bool true)) (.tmp 66), none⟩,
      ⟨some 68, .mv (.tmp 67), none⟩,
      ⟨some 69, .mv (.tmp 10), some (68, false)⟩,
      ⟨some 70, .mv (.tmp 7), some (68, false)⟩,
      ⟨some 71, .bin .neq (.tmp 69) (.tmp 70), some (68, false)⟩,
      ⟨some 72, .pick (.tmp 68) (.const (.bool true)) (.tmp 71), none⟩] [1, 2, 6, 7, 9, 72] []) <|
   .cond (.tmp 72)
     (.seq (.region [⟨some 4, .mv (.const (.bool false)), none⟩] [4] []) <|
     .ret)
     (.skip)) <|
  .seq (.region [⟨some 12, .mv (.const (.int .i64 (1))), none⟩] [1, 2, 6, 7, 9, 12] []) <|
  .seq (.region [⟨some 73, .mv (.tmp 9), none⟩,
     ⟨some 74, .mv (.tmp 12), none⟩,
     ⟨some 75, .call (.func F.laws_markCardS) [(.tmp 73), (.tmp 74)] [0], none⟩,
     ⟨some 12, .mv (.tmp 75), none⟩] [1, 2, 6, 7, 9, 12] []) <|
  .seq (.region [⟨some 13, .mv (.const (.int .i64 (1))), none⟩] [1, 2, 6, 7, 9, 12, 13] []) <|
  .seq (.region [⟨some 76, .mv (.tmp 9), none⟩,
     ⟨some 77, .mv (.tmp 13), none⟩,
     ⟨some 78, .call (.func F.laws_heldCardS) [(.tmp 76), (.tmp 77)] [], none⟩,
     ⟨some 13, .mv (.tmp 78), none⟩] [1, 2, 6, 7, 9, 12, 13] []) <|
  .seq (.seq (.region [⟨some 79, .mv (.tmp 13), none⟩,
      ⟨some 80, .bin .lss (.tmp 79) (.const (.int .i64 (0))), none⟩] [1, 2, 6, 7, 9, 12, 13, 80] []) <|
   .cond (.tmp 80)
     (.seq (.region [⟨some 4, .mv (.const (.bool false)), none⟩] [4] []) <|
     .ret)
     (.skip)) <|
  .seq (.seq (.region [⟨some 81, .mv (.tmp 13), none⟩,
      ⟨some 82, .mv (.tmp 12), none⟩,
      ⟨some 83, .bin .neq (.tmp 81) (.tmp 82), none⟩] [1, 2, 6, 7, 9, 12, 83] []) <|
   .cond (.tmp 83)
     (.seq (.region [⟨some 4, .mv (.const (.bool false)), none⟩] [4] []) <|
     .ret)
     (.skip)) <|
  .seq (.region [⟨some 85, .load true 7 (.tmp 2), none⟩,
     ⟨some 86, .call (.func F.laws_toSpec) [(.tmp 85)] [], none⟩,
     ⟨some 87, .mv (.tmp 1), none⟩,
     ⟨some 88, .call (.func F.laws_toCardS) [(.tmp 87)] [], none⟩,
     ⟨some 89, .call (.func F.impl_CardsFor) [(.tmp 86), (.tmp 88)] [], none⟩,
     ⟨some 84, .mv (.tmp 89), none⟩,
     ⟨some 90, .extract (.tmp 84) 0, none⟩,
     ⟨some 91, .extract (.tmp 84) 1, none⟩,
     ⟨some 14, .mv (.tmp 90), none⟩,
     ⟨some 15, .mv (.tmp 91), none⟩] [6, 7, 9, 12, 14, 15] []) <|
  .seq (.seq (.region [⟨some 92, .mv (.tmp 14), none⟩,
      ⟨some 93, .mv (.tmp 6), none⟩,
      ⟨some 94, .call (.func F.laws_eqCardS) [(.tmp 92), (.tmp 93)] [], none⟩,
      ⟨some 95, .un .not (.tmp 94), none⟩,
      ⟨some 96, .mv (.tmp 95), none⟩,
      ⟨some 97, .mv (.tmp 15), some (96, false)⟩,
      ⟨some 98, .mv (.tmp 7), some (96, false)⟩,
      ⟨some 99, .bin .neq (.tmp 97) (.tmp 98), some (96, false)⟩,
      ⟨some 100, .pick (.tmp 96) (.const (.bool true)) (.tmp 99), none⟩] [9, 12, 100] []) <|
   .cond (.tmp 100)
     (.seq (.region [⟨some 4, .mv (.const (.bool false)), none⟩] [4] []) <|
     .ret)
     (.skip)) <|
  .seq (.region [⟨some 13, .mv (.const (.int .i64 (1))), none⟩] [9, 12, 13] []) <|
  .seq (.region [⟨some 101, .mv (.tmp 9), none⟩,
     ⟨some 102, .mv (.tmp 13), none⟩,
     ⟨some 103, .call (.func F.laws_heldCardS) [(.tmp 101), (.tmp 102)] [], none⟩,
     ⟨some 13, .mv (.tmp 103), none⟩] [12, 13] []) <|
  .seq (.seq (.region [⟨some 104, .mv (.tmp 13), none⟩,
      ⟨some 105, .bin .lss (.tmp 104) (.const (.int .i64 (0))), none⟩] [12, 13, 105] []) <|
   .cond (.tmp 105)
     (.seq (.region [⟨some 4, .mv (.const (.bool false)), none⟩] [4] []) <|
     .ret)
     (.skip)) <|
  .seq (.seq (.region [⟨some 106, .mv (.tmp 13), none⟩,
      ⟨some 107, .mv (.tmp 12), none⟩,
      ⟨some 108, .bin .neq (.tmp 106) (.tmp 107), none⟩] [108] []) <|
   .cond (.tmp 108)
     (.seq (.region [⟨some 4, .mv (.const (.bool false)), none⟩] [4] []) <|
     .ret)
     (.skip)) <|
  .seq (.region [⟨some 4, .mv (.const (.bool true)), none⟩] [4] []) <|
  .ret
theorem Cd.laws_FnExactCardsFor_rs : Try.f5.results.toList = [.tmp 4] := rfl
theorem Cd.laws_FnExactCardsFor_nt : Try.f5.ntmps = 109 := rfl
theorem Cd.laws_FnExactCardsFor_ok : CodeIsR Try.prog 5 Try.f5 Cd.laws_FnExactCardsFor := ⟨Try.func5, by kernel_rfl, by decide +kernel⟩
/-- loop.example/g01012/laws.szCardS -/
def Cd.laws_szCardS : ACode :=
  .seq (.region [⟨some 4, .mv (.const (.int .i64 (0))), none⟩] [0, 1] []) <|
  .seq (.region [⟨some 6, .mv (.tmp 1), none⟩,
     ⟨some 7, .mv (.tmp 0), none⟩,
     ⟨some 8, .len (.tmp 7), none⟩,
     ⟨some 9, .bin .sub (.tmp 6) (.tmp 8), none⟩,
     ⟨some 1, .mv (.tmp 9), none⟩] [0, 1] []) <|
  .seq (.seq (.region [⟨some 10, .mv (.tmp 1), none⟩,
      ⟨some 11, .bin .lss (.tmp 10) (.const (.int .i64 (0))), none⟩] [0, 1, 11] []) <|
   .cond (.tmp 11)
     (.seq (.region [⟨some 4, .mv (.const (.int .i64 (-1))), none⟩] [4] []) <|
     .ret)
     (.skip)) <|
  .seq (.seq (.region [⟨some 5, .mv (.const (.int .i64 (0))), none⟩] [0, 1, 5] []) <|
   .block 0 (
     .loop (
       .seq (.seq (.region [⟨some 12, .mv (.tmp 5), none⟩,
           ⟨some 13, .mv (.tmp 0), none⟩,
           ⟨some 14, .len (.tmp 13), none⟩,
           ⟨some 15, .bin .lss (.tmp 12) (.tmp 14), none⟩] [0, 1, 5, 15] []) <|
        .cond (.tmp 15)
          (.skip)
          (.exit 0)) <|
       .seq (.block 1 (
          .seq (.region [⟨some 18, .mv (.tmp 0), none⟩,
             ⟨some 19, .mv (.tmp 5), none⟩,
             ⟨some 20, .idxSl 1 (.tmp 18) (.tmp 19), none⟩,
             ⟨some 21, .load true 1 (.tmp 20), none⟩,
             ⟨some 22, .mv (.tmp 1), none⟩,
             ⟨some 23, .call (.func F.laws_szCard) [(.tmp 21), (.tmp 22)] [], none⟩,
             ⟨some 1, .mv (.tmp 23), none⟩] [0, 1, 5] []) <|
          .seq (.region [⟨some 24, .mv (.tmp 1), none⟩,
             ⟨some 25, .bin .lss (.tmp 24) (.const (.int .i64 (0))), none⟩] [0, 1, 5, 25] []) <|
          .cond (.tmp 25)
            (.seq (.region [⟨some 4, .mv (.const (.int .i64 (-1))), none⟩] [4] []) <|
            .ret)
            (.skip))) <|
       .region [⟨some 16, .mv (.tmp 5), none⟩,
         ⟨some 17, .bin .add (.tmp 16) (.const (.int .i64 (1))), none⟩,
         ⟨some 5, .mv (.tmp 17), none⟩] [0, 1, 5] []))) <|
  .seq (.region [⟨some 26, .mv (.tmp 1), none⟩,
     ⟨some 4, .mv (.tmp 26), none⟩] [4] []) <|
  .ret
theorem Cd.laws_szCardS_rs : Try.f6.results.toList = [.tmp 4] := rfl
theorem Cd.laws_szCardS_nt : Try.f6.ntmps = 27 := rfl
theorem Cd.laws_szCardS_ok : CodeIsR Try.prog 6 Try.f6 Cd.laws_szCardS := ⟨Try.func6, by kernel_rfl, by decide +kernel⟩
/-- loop.example/g01012/laws.toCardS -/
def Cd.laws_toCardS : ACode :=
  .seq (.region [⟨some 2, .mv (.const (.slice none 0 0)), none⟩] [0] []) <|
  .seq (.region [⟨some 5, .mv (.tmp 0), none⟩,
     ⟨some 6, .len (.tmp 5), none⟩,
     ⟨some 7, .mk 1 24 [.v (.slice none 0 0)] (.tmp 6), none⟩,
     ⟨some 3, .mv (.tmp 7), none⟩] [0, 3] []) <|
  .seq (.seq (.region [⟨some 4, .mv (.const (.int .i64 (0))), none⟩] [0, 3, 4] []) <|
   .block 0 (
     .loop (
       .seq (.seq (.region [⟨some 8, .mv (.tmp 4), none⟩,
           ⟨some 9, .mv (.tmp 0), none⟩,
           ⟨some 10, .len (.tmp 9), none⟩,
           ⟨some 11, .bin .lss (.tmp 8) (.tmp 10), none⟩] [0, 3, 4, 11] []) <|
        .cond (.tmp 11)
          (.skip)
          (.exit 0)) <|
       .seq (.block 1 (
          .region [⟨some 14, .mv (.tmp 3), none⟩,
            ⟨some 15, .mv (.tmp 4), none⟩,
            ⟨some 16, .mv (.tmp 0), none⟩,
            ⟨some 17, .mv (.tmp 4), none⟩,
            ⟨some 18, .idxSl 1 (.tmp 16) (.tmp 17), none⟩,
            ⟨some 19, .load true 1 (.tmp 18), none⟩,
            ⟨some 20, .call (.func F.laws_toCard) [(.tmp 19)] [], none⟩,
            ⟨some 21, .idxSl 1 (.tmp 14) (.tmp 15), none⟩,
            ⟨none, .store 1 (.tmp 21) (.tmp 20), none⟩] [0, 3, 4] [])) <|
       .region [⟨some 12, .mv (.tmp 4), none⟩,
         ⟨some 13, .bin .add (.tmp 12) (.const (.int .i64 (1))), none⟩,
         ⟨some 4, .mv (.tmp 13), none⟩] [0, 3, 4] []))) <|
  .seq (.region [⟨some 22, .mv (.tmp 3), none⟩,
     ⟨some 2, .mv (.tmp 22), none⟩] [2] []) <|
  .ret
theorem Cd.laws_toCardS_rs : Try.f8.results.toList = [.tmp 2] := rfl
theorem Cd.laws_toCardS_nt : Try.f8.ntmps = 23 := rfl
theorem Cd.laws_toCardS_ok : CodeIsR Try.prog 8 Try.f8 Cd.laws_toCardS := ⟨Try.func8, by kernel_rfl, by decide +kernel⟩
/-- loop.example/g01012/laws.eqCardS DRAWS -/
def Cd.laws_eqCardS : ACode :=
  .seq (.region [⟨some 4, .mv (.const (.bool false)), none⟩] [0, 1] []) <|
  .seq (.seq (.region [⟨some 6, .mv (.tmp 0), none⟩,
      ⟨some 7, .len (.tmp 6), none⟩,
      ⟨some 8, .mv (.tmp 1), none⟩,
      ⟨some 9, .len (.tmp 8), none⟩,
      ⟨some 10, .bin .neq (.tmp 7) (.tmp 9), none⟩] [0, 1, 10] []) <|
   .cond (.tmp 10)
     (.seq (.region [⟨some 4, .mv (.const (.bool false)), none⟩] [4] []) <|
     .ret)
     (.skip)) <|
  .seq (.seq (.region [⟨some 5, .mv (.const (.int .i64 (0))), none⟩] [0, 1, 5] []) <|
   .block 0 (
     .loop (
       .seq (.seq (.region [⟨some 11, .mv (.tmp 5), none⟩,
           ⟨some 12, .mv (.tmp 0), none⟩,
           ⟨some 13, .len (.tmp 12), none⟩,
           ⟨some 14, .bin .lss (.tmp 11) (.tmp 13), none⟩] [0, 1, 5, 14] []) <|
        .cond (.tmp 14)
          (.skip)
          (.exit 0)) <|
       .seq (.block 1 (
          .seq (.region [⟨some 17, .mv (.tmp 0), none⟩,
             ⟨some 18, .mv (.tmp 5), none⟩,
             ⟨some 19, .idxSl 1 (.tmp 17) (.tmp 18), none⟩,
             ⟨some 20, .load true 1 (.tmp 19), none⟩,
             ⟨some 21, .mv (.tmp 1), none⟩,
             ⟨some 22, .mv (.tmp 5), none⟩,
             ⟨some 23, .idxSl 1 (.tmp 21) (.tmp 22), none⟩,
             ⟨some 24, .load true 1 (.tmp 23), none⟩,
             ⟨some 25, .call (.func F.laws_eqCard) [(.tmp 20), (.tmp 24)] [], none⟩,
             ⟨some 26, .un .not (.tmp 25), none⟩] [0, 1, 5, 26] [17, 18, 20, 21, 19, 22, 23, 24, 25, 26]) <|
          .cond (.tmp 26)
            (.seq (.region [⟨some 4, .mv (.const (.bool false)), none⟩] [4] []) <|
            .ret)
            (.skip))) <|
       .region [⟨some 15, .mv (.tmp 5), none⟩,
         ⟨some 16, .bin .add (.tmp 15) (.const (.int .i64 (1))), none⟩,
         ⟨some 5, .mv (.tmp 16), none⟩] [0, 1, 5] []))) <|
  .seq (.region [⟨some 4, .mv (.const (.bool true)), none⟩] [4] []) <|
  .ret
theorem Cd.laws_eqCardS_rs : Try.f10.results.toList = [.tmp 4] := rfl
theorem Cd.laws_eqCardS_nt : Try.f10.ntmps = 27 := rfl
theorem Cd.laws_eqCardS_ok : CodeIsR Try.prog 10 Try.f10 Cd.laws_eqCardS := ⟨Try.func10, by kernel_rfl, by decide +kernel⟩
/-- loop.example/g01012/laws.markCardS -/
def Cd.laws_markCardS : ACode :=
  .seq (.region [⟨some 4, .mv (.const (.int .i64 (0))), none⟩] [0, 1] []) <|
  .seq (.seq (.region [⟨some 5, .mv (.const (.int .i64 (0))), none⟩] [0, 1, 5] []) <|
   .block 0 (
     .loop (
       .seq (.seq (.region [⟨some 6, .mv (.tmp 5), none⟩,
           ⟨some 7, .mv (.tmp 0), none⟩,
           ⟨some 8, .len (.tmp 7), none⟩,
           ⟨some 9, .bin .lss (.tmp 6) (.tmp 8), none⟩] [0, 1, 5, 9] []) <|
        .cond (.tmp 9)
          (.skip)
          (.exit 0)) <|
       .seq (.block 1 (
          .region [⟨some 12, .mv (.tmp 0), none⟩,
            ⟨some 13, .mv (.tmp 5), none⟩,
            ⟨some 14, .idxSl 1 (.tmp 12) (.tmp 13), none⟩,
            ⟨some 15, .fieldAddr 0 (.tmp 14), none⟩,
            ⟨some 16, .load false 1 (.tmp 15), none⟩,
            ⟨some 17, .mv (.tmp 1), none⟩,
            ⟨some 18, .call (.func F.laws_markInt64S) [(.tmp 16), (.tmp 17)] [0], none⟩,
            ⟨some 1, .mv (.tmp 18), none⟩] [0, 1, 5] [])) <|
       .region [⟨some 10, .mv (.tmp 5), none⟩,
         ⟨some 11, .bin .add (.tmp 10) (.const (.int .i64 (1))), none⟩,
         ⟨some 5, .mv (.tmp 11), none⟩] [0, 1, 5] []))) <|
  .seq (.region [⟨some 19, .mv (.tmp 1), none⟩,
     ⟨some 4, .mv (.tmp 19), none⟩] [4] []) <|
  .ret
theorem Cd.laws_markCardS_rs : Try.f11.results.toList = [.tmp 4] := rfl
theorem Cd.laws_markCardS_nt : Try.f11.ntmps = 20 := rfl
theorem Cd.laws_markCardS_ok : CodeIsR Try.prog 11 Try.f11 Cd.laws_markCardS := ⟨Try.func11, by kernel_rfl, by decide +kernel⟩
/-- loop.example/g01012/laws.heldCardS -/
def Cd.laws_heldCardS : ACode :=
  .seq (.region [⟨some 4, .mv (.const (.int .i64 (0))), none⟩] [0, 1] []) <|
  .seq (.seq (.region [⟨some 5, .mv (.const (.int .i64 (0))), none⟩] [0, 1, 5] []) <|
   .block 0 (
     .loop (
       .seq (.seq (.region [⟨some 6, .mv (.tmp 5), none⟩,
           ⟨some 7, .mv (.tmp 0), none⟩,
           ⟨some 8, .len (.tmp 7), none⟩,
           ⟨some 9, .bin .lss (.tmp 6) (.tmp 8), none⟩] [0, 1, 5, 9] []) <|
        .cond (.tmp 9)
          (.skip)
          (.exit 0)) <|
       .seq (.block 1 (
          .seq (.region [⟨some 12, .mv (.tmp 0), none⟩,
             ⟨some 13, .mv (.tmp 5), none⟩,
             ⟨some 14, .idxSl 1 (.tmp 12) (.tmp 13), none⟩,
             ⟨some 15, .fieldAddr 0 (.tmp 14), none⟩,
             ⟨some 16, .load false 1 (.tmp 15), none⟩,
             ⟨some 17, .mv (.tmp 1), none⟩,
             ⟨some 18, .call (.func F.laws_heldInt64S) [(.tmp 16), (.tmp 17)] [], none⟩,
             ⟨some 1, .mv (.tmp 18), none⟩] [0, 1, 5] []) <|
          .seq (.region [⟨some 19, .mv (.tmp 1), none⟩,
             ⟨some 20, .bin .lss (.tmp 19) (.const (.int .i64 (0))), none⟩] [0, 1, 5, 20] []) <|
          .cond (.tmp 20)
            (.seq (.region [⟨some 4, .mv (.const (.int .i64 (-1))), none⟩] [4] []) <|
            .ret)
            (.skip))) <|
       .region [⟨some 10, .mv (.tmp 5), none⟩,
         ⟨some 11, .bin .add (.tmp 10) (.const (.int .i64 (1))), none⟩,
         ⟨some 5, .mv (.tmp 11), none⟩] [0, 1, 5] []))) <|
  .seq (.region [⟨some 21, .mv (.tmp 1), none⟩,
     ⟨some 4, .mv (.tmp 21), none⟩] [4] []) <|
  .ret
theorem Cd.laws_heldCardS_rs : Try.f12.results.toList = [.tmp 4] := rfl
theorem Cd.laws_heldCardS_nt : Try.f12.ntmps = 22 := rfl
theorem Cd.laws_heldCardS_ok : CodeIsR Try.prog 12 Try.f12 Cd.laws_heldCardS := ⟨Try.func12, by kernel_rfl, by decide +kernel⟩
/-- loop.example/g01012/laws.szSpec -/
def Cd.laws_szSpec : ACode :=
  .seq (.region [⟨some 2, .box (.tmp 0), none⟩,
     ⟨some 4, .mv (.const (.int .i64 (0))), none⟩] [1, 2] []) <|
  .seq (.region [⟨some 5, .mv (.tmp 1), none⟩,
     ⟨some 6, .fieldAddr 2 (.tmp 2), none⟩,
     ⟨some 7, .load false 1 (.tmp 6), none⟩,
     ⟨some 8, .lenS (.tmp 7), none⟩,
     ⟨some 9, .bin .sub (.tmp 5) (.tmp 8), none⟩,
     ⟨some 1, .mv (.tmp 9), none⟩] [1] []) <|
  .seq (.seq (.region [⟨some 10, .mv (.tmp 1), none⟩,
      ⟨some 11, .bin .lss (.tmp 10) (.const (.int .i64 (0))), none⟩] [1, 11] []) <|
   .cond (.tmp 11)
     (.seq (.region [⟨some 4, .mv (.const (.int .i64 (-1))), none⟩] [4] []) <|
     .ret)
     (.skip)) <|
  .seq (.region [⟨some 12, .mv (.tmp 1), none⟩,
     ⟨some 4, .mv (.tmp 12), none⟩] [4] []) <|
  .ret
theorem Cd.laws_szSpec_rs : Try.f18.results.toList = [.tmp 4] := rfl
theorem Cd.laws_szSpec_nt : Try.f18.ntmps = 13 := rfl
theorem Cd.laws_szSpec_ok : CodeIsR Try.prog 18 Try.f18 Cd.laws_szSpec := ⟨Try.func18, by kernel_rfl, by decide +kernel⟩
/-- loop.example/g01012/spec.CardsFor -/
def Cd.spec_CardsFor : ACode :=
  .seq (.region [⟨some 2, .box (.tmp 0), none⟩,
     ⟨some 4, .mv (.const (.slice none 0 0)), none⟩,
     ⟨some 5, .mv (.const (.int .i64 (0))), none⟩] [1, 2] []) <|
  .seq (.region [⟨some 6, .mv (.tmp 1), none⟩,
     ⟨some 7, .call (.func F.spec_l16Cards) [(.tmp 2), (.tmp 6)] [], none⟩,
     ⟨some 8, .extract (.tmp 7) 0, none⟩,
     ⟨some 9, .extract (.tmp 7) 1, none⟩,
     ⟨some 4, .mv (.tmp 8), none⟩,
     ⟨some 5, .mv (.tmp 9), none⟩] [4, 5] []) <|
  .ret
theorem Cd.spec_CardsFor_rs : Try.f19.results.toList = [.tmp 4, .tmp 5] := rfl
theorem Cd.spec_CardsFor_nt : Try.f19.ntmps = 10 := rfl
theorem Cd.spec_CardsFor_ok : CodeIsR Try.prog 19 Try.f19 Cd.spec_CardsFor := ⟨Try.func19, by kernel_rfl, by decide +kernel⟩
/-- loop.example/g01012/laws.toSpec -/
def Cd.laws_toSpec : ACode :=
  .seq (.region [⟨some 1, .box (.tmp 0), none⟩,
     ⟨some 2, .alloc [.v (.int .i64 (0)), .v (.int .i64 (0)), .v (.string ⟨#[]⟩), .v (.int .i64 (0)), .v (.int .i64 (0)), .v (.int .i64 (0)), .v (.int .i64 (0))], none⟩] [1, 2] []) <|
  .seq (.region [⟨some 3, .alloc [.v (.int .i64 (0)), .v (.int .i64 (0)), .v (.string ⟨#[]⟩), .v (.int .i64 (0)), .v (.int .i64 (0)), .v (.int .i64 (0)), .v (.int .i64 (0))], none⟩] [1, 2, 3] []) <|
  .seq (.region [⟨some 4, .fieldAddr 0 (.tmp 1), none⟩,
     ⟨some 5, .load true 2 (.tmp 4), none⟩,
     ⟨some 6, .call (.func F.laws_toField) [(.tmp 5)] [], none⟩,
     ⟨some 7, .fieldAddr 0 (.tmp 3), none⟩,
     ⟨none, .store 2 (.tmp 7) (.tmp 6), none⟩] [1, 2, 3] []) <|
  .seq (.region [⟨some 8, .fieldAddr 2 (.tmp 1), none⟩,
     ⟨some 9, .load false 1 (.tmp 8), none⟩,
     ⟨some 10, .fieldAddr 2 (.tmp 3), none⟩,
     ⟨none, .store 1 (.tmp 10) (.tmp 9), none⟩] [1, 2, 3] []) <|
  .seq (.region [⟨some 11, .fieldAddr 3 (.tmp 1), none⟩,
     ⟨some 12, .load true 2 (.tmp 11), none⟩,
     ⟨some 13, .call (.func F.laws_toField) [(.tmp 12)] [], none⟩,
     ⟨some 14, .fieldAddr 3 (.tmp 3), none⟩,
     ⟨none, .store 2 (.tmp 14) (.tmp 13), none⟩] [1, 2, 3] []) <|
  .seq (.region [⟨some 15, .fieldAddr 5 (.tmp 1), none⟩,
     ⟨some 16, .load true 2 (.tmp 15), none⟩,
     ⟨some 17, .call (.func F.laws_toField) [(.tmp 16)] [], none⟩,
     ⟨some 18, .fieldAddr 5 (.tmp 3), none⟩,
     ⟨none, .store 2 (.tmp 18) (.tmp 17), none⟩] [2, 3] []) <|
  .seq (.region [⟨some 19, .load true 7 (.tmp 3), none⟩,
     ⟨none, .store 7 (.tmp 2) (.tmp 19), none⟩] [2] []) <|
  .ret
theorem Cd.laws_toSpec_rs : Try.f20.results.toList = [.cell 2 48] := rfl
theorem Cd.laws_toSpec_nt : Try.f20.ntmps = 20 := rfl
theorem Cd.laws_toSpec_ok : CodeIsR Try.prog 20 Try.f20 Cd.laws_toSpec := ⟨Try.func20, by kernel_rfl, by decide +kernel⟩
/-- loop.example/g01012/impl.CardsFor -/
def Cd.impl_CardsFor : ACode :=
  .seq (.region [⟨some 2, .box (.tmp 0), none⟩,
     ⟨some 4, .mv (.const (.slice none 0 0)), none⟩,
     ⟨some 5, .mv (.const (.int .i64 (0))), none⟩] [1, 2] []) <|
  .seq (.region [⟨some 6, .load true 7 (.tmp 2), none⟩,
     ⟨some 7, .mv (.tmp 1), none⟩,
     ⟨some 8, .call (.func F.impl_cardsFor) [(.tmp 6), (.tmp 7)] [], none⟩,
     ⟨some 9, .extract (.tmp 8) 0, none⟩,
     ⟨some 10, .extract (.tmp 8) 1, none⟩,
     ⟨some 4, .mv (.tmp 9), none⟩,
     ⟨some 5, .mv (.tmp 10), none⟩] [4, 5] []) <|
  .ret
theorem Cd.impl_CardsFor_rs : Try.f21.results.toList = [.tmp 4, .tmp 5] := rfl
theorem Cd.impl_CardsFor_nt : Try.f21.ntmps = 11 := rfl
theorem Cd.impl_CardsFor_ok : CodeIsR Try.prog 21 Try.f21 Cd.impl_CardsFor := ⟨Try.func21, by kernel_rfl, by decide +kernel⟩
/-- loop.example/g01012/laws.szCard -/
def Cd.laws_szCard : ACode :=
  .seq (.region [⟨some 2, .box (.tmp 0), none⟩,
     ⟨some 4, .mv (.const (.int .i64 (0))), none⟩] [1, 2] []) <|
  .seq (.region [⟨some 5, .fieldAddr 0 (.tmp 2), none⟩,
     ⟨some 6, .load false 1 (.tmp 5), none⟩,
     ⟨some 7, .mv (.tmp 1), none⟩,
     ⟨some 8, .call (.func F.laws_szInt64S) [(.tmp 6), (.tmp 7)] [], none⟩,
     ⟨some 1, .mv (.tmp 8), none⟩] [1] []) <|
  .seq (.seq (.region [⟨some 9, .mv (.tmp 1), none⟩,
      ⟨some 10, .bin .lss (.tmp 9) (.const (.int .i64 (0))), none⟩] [1, 10] []) <|
   .cond (.tmp 10)
     (.seq (.region [⟨some 4, .mv (.const (.int .i64 (-1))), none⟩] [4] []) <|
     .ret)
     (.skip)) <|
  .seq (.region [⟨some 11, .mv (.tmp 1), none⟩,
     ⟨some 4, .mv (.tmp 11), none⟩] [4] []) <|
  .ret
theorem Cd.laws_szCard_rs : Try.f22.results.toList = [.tmp 4] := rfl
theorem Cd.laws_szCard_nt : Try.f22.ntmps = 12 := rfl
theorem Cd.laws_szCard_ok : CodeIsR Try.prog 22 Try.f22 Cd.laws_szCard := ⟨Try.func22, by kernel_rfl, by decide +kernel⟩
/-- loop.example/g01012/spec.l00In -/
def Cd.spec_l00In : ACode :=
  .seq (.region [⟨some 6, .mv (.const (.bool false)), none⟩] [0, 1, 2] []) <|
  .seq (.region [⟨some 7, .mv (.tmp 0), none⟩,
     ⟨some 8, .mv (.tmp 1), none⟩,
     ⟨some 9, .bin .geq (.tmp 7) (.tmp 8), none⟩,
     ⟨some 10, .mv (.tmp 9), none⟩,
     ⟨some 11, .mv (.tmp 0), some (10, true)⟩,
     ⟨some 12, .mv (.tmp 2), some (10, true)⟩,
     ⟨some 13, .bin .leq (.tmp 11) (.tmp 12), some (10, true)⟩,
     ⟨some 14, .pick (.tmp 10) (.tmp 13) (.const (.bool false)), none⟩,
     ⟨some 6, .mv (.tmp 14), none⟩] [6] []) <|
  .ret
theorem Cd.spec_l00In_rs : Try.f24.results.toList = [.tmp 6] := rfl
theorem Cd.spec_l00In_nt : Try.f24.ntmps = 15 := rfl
theorem Cd.spec_l00In_ok : CodeIsR Try.prog 24 Try.f24 Cd.spec_l00In := ⟨Try.func24, by kernel_rfl, by decide +kernel⟩
/-- loop.example/g01012/laws.toCard -/
def Cd.laws_toCard : ACode :=
  .seq (.region [⟨some 1, .box (.tmp 0), none⟩,
     ⟨some 2, .alloc [.v (.slice none 0 0)], none⟩] [1, 2] []) <|
  .seq (.region [⟨some 3, .alloc [.v (.slice none 0 0)], none⟩] [1, 2, 3] []) <|
  .seq (.region [⟨some 4, .fieldAddr 0 (.tmp 1), none⟩,
     ⟨some 5, .load false 1 (.tmp 4), none⟩,
     ⟨some 6, .call (.func F.laws_toInt64S) [(.tmp 5)] [], none⟩,
     ⟨some 7, .fieldAddr 0 (.tmp 3), none⟩,
     ⟨none, .store 1 (.tmp 7) (.tmp 6), none⟩] [2, 3] []) <|
  .seq (.region [⟨some 8, .load true 1 (.tmp 3), none⟩,
     ⟨none, .store 1 (.tmp 2) (.tmp 8), none⟩] [2] []) <|
  .ret
theorem Cd.laws_toCard_rs : Try.f27.results.toList = [.cell 2 59] := rfl
theorem Cd.laws_toCard_nt : Try.f27.ntmps = 9 := rfl
theorem Cd.laws_toCard_ok : CodeIsR Try.prog 27 Try.f27 Cd.laws_toCard := ⟨Try.func27, by kernel_rfl, by decide +kernel⟩
/-- loop.example/g01012/impl.inside -/
def Cd.impl_inside : ACode :=
  .seq (.region [⟨some 6, .mv (.const (.bool false)), none⟩] [0, 1, 2] []) <|
  .seq (.region [⟨some 7, .mv (.tmp 0), none⟩,
     ⟨some 8, .mv (.tmp 1), none⟩,
     ⟨some 9, .bin .geq (.tmp 7) (.tmp 8), none⟩,
     ⟨some 10, .mv (.tmp 9), none⟩,
     ⟨some 11, .mv (.tmp 0), some (10, true)⟩,
     ⟨some 12, .mv (.tmp 2), some (10, true)⟩,
     ⟨some 13, .bin .leq (.tmp 11) (.tmp 12), some (10, true)⟩,
     ⟨some 14, .pick (.tmp 10) (.tmp 13) (.const (.bool false)), none⟩,
     ⟨some 6, .mv (.tmp 14), none⟩] [6] []) <|
  .ret
theorem Cd.impl_inside_rs : Try.f30.results.toList = [.tmp 6] := rfl
theorem Cd.impl_inside_nt : Try.f30.ntmps = 15 := rfl
theorem Cd.impl_inside_ok : CodeIsR Try.prog 30 Try.f30 Cd.impl_inside := ⟨Try.func30, by kernel_rfl, by decide +kernel⟩
/-- loop.example/g01012/laws.eqCard -/
def Cd.laws_eqCard : ACode :=
  .seq (.region [⟨some 2, .box (.tmp 0), none⟩,
     ⟨some 3, .box (.tmp 1), none⟩,
     ⟨some 4, .mv (.const (.bool false)), none⟩] [2, 3] []) <|
  .seq (.seq (.region [⟨some 5, .fieldAddr 0 (.tmp 2), none⟩,
      ⟨some 6, .load false 1 (.tmp 5), none⟩,
      ⟨some 7, .fieldAddr 0 (.tmp 3), none⟩,
      ⟨some 8, .load false 1 (.tmp 7), none⟩,
      ⟨some 9, .call (.func F.laws_eqInt64S) [(.tmp 6), (.tmp 8)] [], none⟩,
      ⟨some 10, .un .not (.tmp 9), none⟩] [10] []) <|
   .cond (.tmp 10)
     (.seq (.region [⟨some 4, .mv (.const (.bool false)), none⟩] [4] []) <|
     .ret)
     (.skip)) <|
  .seq (.region [⟨some 4, .mv (.const (.bool true)), none⟩] [4] []) <|
  .ret
theorem Cd.laws_eqCard_rs : Try.f32.results.toList = [.tmp 4] := rfl
theorem Cd.laws_eqCard_nt : Try.f32.ntmps = 11 := rfl
theorem Cd.laws_eqCard_ok : CodeIsR Try.prog 32 Try.f32 Cd.laws_eqCard := ⟨Try.func32, by kernel_rfl, by decide +kernel⟩
/-- loop.example/g01012/laws.markInt64S -/
def Cd.laws_markInt64S : ACode :=
  .seq (.region [⟨some 4, .mv (.const (.int .i64 (0))), none⟩] [0, 1] []) <|
  .seq (.seq (.region [⟨some 5, .mv (.const (.int .i64 (0))), none⟩] [0, 1, 5] []) <|
   .block 0 (
     .loop (
       .seq (.seq (.region [⟨some 6, .mv (.tmp 5), none⟩,
           ⟨some 7, .mv (.tmp 0), none⟩,
           ⟨some 8, .len (.tmp 7), none⟩,
           ⟨some 9, .bin .lss (.tmp 6) (.tmp 8), none⟩] [0, 1, 5, 9] []) <|
        .cond (.tmp 9)
          (.skip)
          (.exit 0)) <|
       .seq (.block 1 (
          .seq (.region [⟨some 12, .mv (.tmp 0), none⟩,
             ⟨some 13, .mv (.tmp 5), none⟩,
             ⟨some 14, .mv (.tmp 1), none⟩,
             ⟨some 15, .idxSl 1 (.tmp 12) (.tmp 13), none⟩,
             ⟨none, .store 1 (.tmp 15) (.tmp 14), none⟩] [0, 1, 5] []) <|
          .region [⟨some 16, .mv (.tmp 1), none⟩,
            ⟨some 17, .bin .add (.tmp 16) (.const (.int .i64 (1))), none⟩,
            ⟨some 1, .mv (.tmp 17), none⟩] [0, 1, 5] [])) <|
       .region [⟨some 10, .mv (.tmp 5), none⟩,
         ⟨some 11, .bin .add (.tmp 10) (.const (.int .i64 (1))), none⟩,
         ⟨some 5, .mv (.tmp 11), none⟩] [0, 1, 5] []))) <|
  .seq (.region [⟨some 18, .mv (.tmp 1), none⟩,
     ⟨some 4, .mv (.tmp 18), none⟩] [4] []) <|
  .ret
theorem Cd.laws_markInt64S_rs : Try.f33.results.toList = [.tmp 4] := rfl
theorem Cd.laws_markInt64S_nt : Try.f33.ntmps = 19 := rfl
theorem Cd.laws_markInt64S_ok : CodeIsR Try.prog 33 Try.f33 Cd.laws_markInt64S := ⟨Try.func33, by kernel_rfl, by decide +kernel⟩
/-- loop.example/g01012/laws.heldInt64S -/
def Cd.laws_heldInt64S : ACode :=
  .seq (.region [⟨some 4, .mv (.const (.int .i64 (0))), none⟩] [0, 1] []) <|
  .seq (.seq (.region [⟨some 5, .mv (.const (.int .i64 (0))), none⟩] [0, 1, 5] []) <|
   .block 0 (
     .loop (
       .seq (.seq (.region [⟨some 6, .mv (.tmp 5), none⟩,
           ⟨some 7, .mv (.tmp 0), none⟩,
           ⟨some 8, .len (.tmp 7), none⟩,
           ⟨some 9, .bin .lss (.tmp 6) (.tmp 8), none⟩] [0, 1, 5, 9] []) <|
        .cond (.tmp 9)
          (.skip)
          (.exit 0)) <|
       .seq (.block 1 (
          .seq (.seq (.region [⟨some 12, .mv (.tmp 0), none⟩,
              ⟨some 13, .mv (.tmp 5), none⟩,
              ⟨some 14, .idxSl 1 (.tmp 12) (.tmp 13), none⟩,
              ⟨some 15, .load false 1 (.tmp 14), none⟩,
              ⟨some 16, .mv (.tmp 1), none⟩,
              ⟨some 17, .bin .neq (.tmp 15) (.tmp 16), none⟩] [0, 1, 5, 17] []) <|
           .cond (.tmp 17)
             (.seq (.region [⟨some 4, .mv (.const (.int .i64 (-1))), none⟩] [4] []) <|
             .ret)
             (.skip)) <|
          .region [⟨some 18, .mv (.tmp 1), none⟩,
            ⟨some 19, .bin .add (.tmp 18) (.const (.int .i64 (1))), none⟩,
            ⟨some 1, .mv (.tmp 19), none⟩] [0, 1, 5] [])) <|
       .region [⟨some 10, .mv (.tmp 5), none⟩,
         ⟨some 11, .bin .add (.tmp 10) (.const (.int .i64 (1))), none⟩,
         ⟨some 5, .mv (.tmp 11), none⟩] [0, 1, 5] []))) <|
  .seq (.region [⟨some 20, .mv (.tmp 1), none⟩,
     ⟨some 4, .mv (.tmp 20), none⟩] [4] []) <|
  .ret
theorem Cd.laws_heldInt64S_rs : Try.f34.results.toList = [.tmp 4] := rfl
theorem Cd.laws_heldInt64S_nt : Try.f34.ntmps = 21 := rfl
theorem Cd.laws_heldInt64S_ok : CodeIsR Try.prog 34 Try.f34 Cd.laws_heldInt64S := ⟨Try.func34, by kernel_rfl, by decide +kernel⟩
/-- loop.example/g01012/spec.l02Deck DRAWS -/
def Cd.spec_l02Deck : ACode :=
  .seq (.region [⟨some 2, .mv (.const (.bool false)), none⟩] [0] []) <|
  .seq (.seq (.region [⟨some 3, .mv (.const (.int .i64 (0))), none⟩] [0, 3] []) <|
   .block 0 (
     .loop (
       .seq (.seq (.region [⟨some 4, .mv (.tmp 3), none⟩,
           ⟨some 5, .mv (.tmp 0), none⟩,
           ⟨some 6, .len (.tmp 5), none⟩,
           ⟨some 7, .bin .lss (.tmp 4) (.tmp 6), none⟩] [0, 3, 7] []) <|
        .cond (.tmp 7)
          (.skip)
          (.exit 0)) <|
       .seq (.block 1 (
          .seq (.region [⟨some 10, .mv (.tmp 0), none⟩,
             ⟨some 11, .mv (.tmp 3), none⟩,
             ⟨some 12, .idxSl 1 (.tmp 10) (.tmp 11), none⟩,
             ⟨some 13, .call (.func F.spec_l02Ok) [(.tmp 12)] [], none⟩,
             ⟨some 14, .un .not (.tmp 13), none⟩,
             ⟨some 15, .mv (.tmp 14), none⟩,
             ⟨some 16, .mv (.tmp 0), some (15, false)⟩,
             ⟨some 17, .mv (.tmp 3), some (15, false)⟩,
             ⟨some 18, .idxSl 1 (.tmp 16) (.tmp 17), some (15, false)⟩,
             ⟨some 19, .fieldAddr 0 (.tmp 18), some (15, false)⟩,
             ⟨some 20, .load false 1 (.tmp 19), some (15, false)⟩,
             ⟨some 21, .len (.tmp 20), some (15, false)⟩,
             ⟨some 22, .mv (.tmp 0), some (15, false)⟩,
             ⟨some 23, .idxSl 1 (.tmp 22) (.const (.int .i64 (0))), some (15, false)⟩,
             ⟨some 24, .fieldAddr 0 (.tmp 23), some (15, false)⟩,
             ⟨some 25, .load false 1 (.tmp 24), some (15, false)⟩,
             ⟨some 26, .len (.tmp 25), some (15, false)⟩,
             ⟨some 27, .bin .neq (.tmp 21) (.tmp 26), some (15, false)⟩,
             ⟨some 28, .pick (.tmp 15) (.const (.bool true)) (.tmp 27), none⟩] [0, 3, 28] [10, 11, 13, 14, 12, 15, 16, 17, 18, 19, 20, 21, 22, 23, 24, 25, 26, 27, 28]) <|
          .cond (.tmp 28)
            (.seq (.region [⟨some 2, .mv (.const (.bool false)), none⟩] [2] []) <|
            .ret)
            (.skip))) <|
       .region [⟨some 8, .mv (.tmp 3), none⟩,
         ⟨some 9, .bin .add (.tmp 8) (.const (.int .i64 (1))), none⟩,
         ⟨some 3, .mv (.tmp 9), none⟩] [0, 3] []))) <|
  .seq (.region [⟨some 29, .mv (.tmp 0), none⟩,
     ⟨some 30, .len (.tmp 29), none⟩,
     ⟨some 31, .bin .leq (.tmp 30) (.const (.int .i64 (40))), none⟩,
     ⟨some 2, .mv (.tmp 31), none⟩] [2] []) <|
  .ret
theorem Cd.spec_l02Deck_rs : Try.f35.results.toList = [.tmp 2] := rfl
theorem Cd.spec_l02Deck_nt : Try.f35.ntmps = 32 := rfl
theorem Cd.spec_l02Deck_ok : CodeIsR Try.prog 35 Try.f35 Cd.spec_l02Deck := ⟨Try.func35, by kernel_rfl, by decide +kernel⟩
/-- loop.example/g01012/impl.ValidDeck DRAWS -/
def Cd.impl_ValidDeck : ACode :=
  .seq (.region [⟨some 2, .mv (.const (.bool false)), none⟩] [0] []) <|
  .seq (.seq (.region [⟨some 5, .mv (.tmp 0), none⟩,
      ⟨some 6, .len (.tmp 5), none⟩,
      ⟨some 7, .mv (.const (.int .i64 (0))), none⟩] [0, 5, 6, 7] []) <|
   .block 0 (
     .loop (
       .seq (.region [⟨some 8, .bin .lss (.tmp 7) (.tmp 6), none⟩] [0, 5, 6, 7, 8] []) <|
       .seq (.cond (.tmp 8)
          (.skip)
          (.exit 0)) <|
       .seq (.block 1 (
          .seq (.region [⟨some 9, .idxSl 1 (.tmp 5) (.tmp 7), none⟩,
             ⟨some 10, .load true 1 (.tmp 9), none⟩,
             ⟨some 4, .alloc [.v (.slice none 0 0)], none⟩,
             ⟨none, .store 1 (.tmp 4) (.tmp 10), none⟩] [0, 4, 5, 6, 7] []) <|
          .seq (.region [⟨some 11, .load true 1 (.tmp 4), none⟩,
             ⟨some 12, .call (.func F.impl_ValidCard) [(.tmp 11)] [], none⟩,
             ⟨some 13, .un .not (.tmp 12), none⟩,
             ⟨some 14, .mv (.tmp 13), none⟩,
             ⟨some 15, .load true 1 (.tmp 4), some (14, false)⟩,
             ⟨some 16, .call (.func F._impl_Card__columns) [(.tmp 15)] [], some (14, false)⟩,
             ⟨some 17, .mv (.tmp 0), some (14, false)⟩,
             ⟨some 18, .idxSl 1 (.tmp 17) (.const (.int .i64 (0))), some (14, false)⟩,
             ⟨some 19, .load true 1 (.tmp 18), some (14, false)⟩,
             ⟨some 20, .call (.func F._impl_Card__columns) [(.tmp 19)] [], some (14, false)⟩,
             ⟨some 21, .bin .neq (.tmp 16) (.tmp 20), some (14, false)⟩,
             ⟨some 22, .pick (.tmp 14) (.const (.bool true)) (.tmp 21), none⟩] [0, 5, 6, 7, 22] [11, 13, 14, 15, 12, 16, 17, 18, 19, 20, 21, 22]) <|
          .cond (.tmp 22)
            (.seq (.region [⟨some 2, .mv (.const (.bool false)), none⟩] [2] []) <|
            .ret)
            (.skip))) <|
       .region [⟨some 23, .bin .add (.tmp 7) (.const (.int .i64 (1))), none⟩,
         ⟨some 7, .mv (.tmp 23), none⟩] [0, 5, 6, 7] []))) <|
  .seq (.region [⟨some 24, .mv (.tmp 0), none⟩,
     ⟨some 25, .len (.tmp 24), none⟩,
     ⟨some 26, .bin .leq (.tmp 25) (.const (.int .i64 (40))), none⟩,
     ⟨some 2, .mv (.tmp 26), none⟩] [2] []) <|
  .ret
theorem Cd.impl_ValidDeck_rs : Try.f37.results.toList = [.tmp 2] := rfl
theorem Cd.impl_ValidDeck_nt : Try.f37.ntmps = 27 := rfl
theorem Cd.impl_ValidDeck_ok : CodeIsR Try.prog 37 Try.f37 Cd.impl_ValidDeck := ⟨Try.func37, by kernel_rfl, by decide +kernel⟩
/-- loop.example/g01012/impl.newDeck -/
def Cd.impl_newDeck : ACode :=
  .seq (.region [⟨some 2, .mv (.const (.slice none 0 0)), none⟩] [0] []) <|
  .seq (.naming 3 (
     .region [⟨some 6, .bslice 1 0 [.v (.slice none 0 0)] [], none⟩,
       ⟨some 3, .mv (.tmp 6), none⟩] [0, 3] [])) <|
  .seq (.seq (.region [⟨some 7, .mv (.tmp 0), none⟩,
      ⟨some 8, .len (.tmp 7), none⟩,
      ⟨some 9, .mv (.const (.int .i64 (0))), none⟩] [3, 7, 8, 9] []) <|
   .block 0 (
     .loop (
       .seq (.region [⟨some 10, .bin .lss (.tmp 9) (.tmp 8), none⟩] [3, 7, 8, 9, 10] []) <|
       .seq (.cond (.tmp 10)
          (.skip)
          (.exit 0)) <|
       .seq (.block 1 (
          .seq (.region [⟨some 11, .idxSl 1 (.tmp 7) (.tmp 9), none⟩,
             ⟨some 12, .load true 1 (.tmp 11), none⟩,
             ⟨some 5, .alloc [.v (.slice none 0 0)], none⟩,
             ⟨none, .store 1 (.tmp 5) (.tmp 12), none⟩] [3, 5, 7, 8, 9] []) <|
          .naming 3 (
            .region [⟨some 13, .mv (.tmp 3), none⟩,
              ⟨some 14, .load true 1 (.tmp 5), none⟩,
              ⟨some 15, .call (.func F.impl_newCard) [(.tmp 14)] [], none⟩,
              ⟨some 16, .bslice 1 1 [.v (.slice none 0 0)] [(0, (.tmp 15))], none⟩,
              ⟨some 17, .append 1 24 (.tmp 13) (.tmp 16), none⟩,
              ⟨some 3, .mv (.tmp 17), none⟩] [3, 7, 8, 9] []))) <|
       .region [⟨some 18, .bin .add (.tmp 9) (.const (.int .i64 (1))), none⟩,
         ⟨some 9, .mv (.tmp 18), none⟩] [3, 7, 8, 9] []))) <|
  .seq (.region [⟨some 19, .mv (.tmp 3), none⟩,
     ⟨some 2, .mv (.tmp 19), none⟩] [2] []) <|
  .ret
theorem Cd.impl_newDeck_rs : Try.f38.results.toList = [.tmp 2] := rfl
theorem Cd.impl_newDeck_nt : Try.f38.ntmps = 20 := rfl
theorem Cd.impl_newDeck_ok : CodeIsR Try.prog 38 Try.f38 Cd.impl_newDeck := ⟨Try.func38, by kernel_rfl, by decide +kernel⟩
/-- loop.example/g01012/spec.l16Cards DRAWS -/
def Cd.spec_l16Cards : ACode :=
  .seq (.region [⟨some 4, .mv (.const (.slice none 0 0)), none⟩,
     ⟨some 5, .mv (.const (.int .i64 (0))), none⟩] [0, 1] []) <|
  .seq (.region [⟨some 7, .mv (.tmp 0), none⟩,
     ⟨some 8, .mv (.tmp 1), none⟩,
     ⟨some 9, .call (.func F.spec_l16Code) [(.tmp 7), (.tmp 8)] [], none⟩,
     ⟨some 6, .mv (.tmp 9), none⟩] [0, 1, 6] []) <|
  .seq (.seq (.region [⟨some 10, .mv (.tmp 6), none⟩,
      ⟨some 11, .bin .neq (.tmp 10) (.const (.int .i64 (0))), none⟩] [0, 1, 6, 11] []) <|
   .cond (.tmp 11)
     (.seq (.region [⟨some 12, .mv (.tmp 6), none⟩,
        ⟨some 4, .mv (.const (.slice none 0 0)), none⟩,
        ⟨some 5, .mv (.tmp 12), none⟩] [4, 5] []) <|
     .ret)
     (.skip)) <|
  .seq (.seq (.region [⟨some 13, .mv (.tmp 0), none⟩,
      ⟨some 14, .nilc (.tmp 13), none⟩,
      ⟨some 15, .fieldAddr 2 (.tmp 14), none⟩,
      ⟨some 16, .load false 1 (.tmp 15), none⟩,
      ⟨some 17, .binS .eql (.tmp 16) (.const (.string ⟨#[]⟩)), none⟩] [0, 1, 17] []) <|
   .cond (.tmp 17)
     (.seq (.region [⟨some 18, .mv (.tmp 1), none⟩,
        ⟨some 19, .call (.func F.spec_l02Copy) [(.tmp 18)] [], none⟩,
        ⟨some 4, .mv (.tmp 19), none⟩,
        ⟨some 5, .mv (.const (.int .i64 (0))), none⟩] [4, 5] []) <|
     .ret)
     (.skip)) <|
  .seq (.region [⟨some 20, .mv (.tmp 1), none⟩,
     ⟨some 21, .mv (.tmp 0), none⟩,
     ⟨some 22, .nilc (.tmp 21), none⟩,
     ⟨some 23, .fieldAddr 0 (.tmp 22), none⟩,
     ⟨some 24, .load true 2 (.tmp 23), none⟩,
     ⟨some 25, .mv (.tmp 0), none⟩,
     ⟨some 26, .nilc (.tmp 25), none⟩,
     ⟨some 27, .fieldAddr 2 (.tmp 26), none⟩,
     ⟨some 28, .load false 1 (.tmp 27), none⟩,
     ⟨some 29, .call (.func F.spec_SelectEqual) [(.tmp 20), (.tmp 24), (.tmp 28)] [], none⟩,
     ⟨some 30, .extract (.tmp 29) 0, none⟩,
     ⟨some 31, .extract (.tmp 29) 1, none⟩,
     ⟨some 4, .mv (.tmp 30), none⟩,
     ⟨some 5, .mv (.tmp 31), none⟩] [4, 5] [20, 21, 22, 23, 24, 25, 26, 27, 28, 29, 30, 31]) <|
  .ret
theorem Cd.spec_l16Cards_rs : Try.f45.results.toList = [.tmp 4, .tmp 5] := rfl
theorem Cd.spec_l16Cards_nt : Try.f45.ntmps = 32 := rfl
theorem Cd.spec_l16Cards_ok : CodeIsR Try.prog 45 Try.f45 Cd.spec_l16Cards := ⟨Try.func45, by kernel_rfl, by decide +kernel⟩
/-- loop.example/g01012/laws.toField -/
def Cd.laws_toField : ACode :=
  .seq (.region [⟨some 1, .box (.tmp 0), none⟩,
     ⟨some 2, .alloc [.v (.int .i64 (0)), .v (.int .i64 (0))], none⟩] [1, 2] []) <|
  .seq (.region [⟨some 3, .alloc [.v (.int .i64 (0)), .v (.int .i64 (0))], none⟩] [1, 2, 3] []) <|
  .seq (.region [⟨some 4, .fieldAddr 0 (.tmp 1), none⟩,
     ⟨some 5, .load false 1 (.tmp 4), none⟩,
     ⟨some 6, .fieldAddr 0 (.tmp 3), none⟩,
     ⟨none, .store 1 (.tmp 6) (.tmp 5), none⟩] [1, 2, 3] []) <|
  .seq (.region [⟨some 7, .fieldAddr 1 (.tmp 1), none⟩,
     ⟨some 8, .load false 1 (.tmp 7), none⟩,
     ⟨some 9, .fieldAddr 1 (.tmp 3), none⟩,
     ⟨none, .store 1 (.tmp 9) (.tmp 8), none⟩] [2, 3] []) <|
  .seq (.region [⟨some 10, .load true 2 (.tmp 3), none⟩,
     ⟨none, .store 2 (.tmp 2) (.tmp 10), none⟩] [2] []) <|
  .ret
theorem Cd.laws_toField_rs : Try.f46.results.toList = [.cell 2 46] := rfl
theorem Cd.laws_toField_nt : Try.f46.ntmps = 11 := rfl
theorem Cd.laws_toField_ok : CodeIsR Try.prog 46 Try.f46 Cd.laws_toField := ⟨Try.func46, by kernel_rfl, by decide +kernel⟩
/-- loop.example/g01012/impl.cardsFor DRAWS -/
def Cd.impl_cardsFor : ACode :=
  .seq (.region [⟨some 2, .box (.tmp 0), none⟩,
     ⟨some 4, .mv (.const (.slice none 0 0)), none⟩,
     ⟨some 5, .mv (.const (.int .i64 (0))), none⟩] [1, 2] []) <|
  .seq (.block 0 (
     .seq (.region [⟨some 7, .mv (.tmp 1), none⟩,
        ⟨some 8, .call (.func F.impl_ValidDeck) [(.tmp 7)] [], none⟩,
        ⟨some 9, .un .not (.tmp 8), none⟩,
        ⟨some 6, .mv (.tmp 9), none⟩] [1, 2, 6] []) <|
     .cond (.tmp 6)
       (.seq (.region [⟨some 4, .mv (.const (.slice none 0 0)), none⟩,
          ⟨some 5, .mv (.const (.int .i64 (1))), none⟩] [4, 5] []) <|
       .ret)
       (.seq (.region [⟨some 11, .load true 7 (.tmp 2), none⟩,
          ⟨some 12, .mv (.tmp 1), none⟩,
          ⟨some 13, .call (.func F.impl_deckColumns) [(.tmp 12)] [], none⟩,
          ⟨some 14, .call (.func F.impl_ValidSpec) [(.tmp 11), (.tmp 13)] [], none⟩,
          ⟨some 15, .un .not (.tmp 14), none⟩,
          ⟨some 10, .mv (.tmp 15), none⟩] [1, 2, 10] [11, 12, 13, 14, 15, 10]) <|
       .cond (.tmp 10)
         (.seq (.region [⟨some 4, .mv (.const (.slice none 0 0)), none⟩,
            ⟨some 5, .mv (.const (.int .i64 (2))), none⟩] [4, 5] []) <|
         .ret)
         (.seq (.region [⟨some 17, .fieldAddr 2 (.tmp 2), none⟩,
            ⟨some 18, .load false 1 (.tmp 17), none⟩,
            ⟨some 19, .binS .eql (.tmp 18) (.const (.string ⟨#[]⟩)), none⟩,
            ⟨some 16, .mv (.tmp 19), none⟩] [1, 2, 16] []) <|
         .cond (.tmp 16)
           (.seq (.region [⟨some 20, .mv (.tmp 1), none⟩,
              ⟨some 21, .call (.func F.impl_newDeck) [(.tmp 20)] [], none⟩,
              ⟨some 4, .mv (.tmp 21), none⟩,
              ⟨some 5, .mv (.const (.int .i64 (0))), none⟩] [4, 5] []) <|
           .ret)
           (.skip))))) <|
  .seq (.region [⟨some 22, .mv (.tmp 1), none⟩,
     ⟨some 23, .fieldAddr 0 (.tmp 2), none⟩,
     ⟨some 24, .load true 2 (.tmp 23), none⟩,
     ⟨some 25, .fieldAddr 2 (.tmp 2), none⟩,
     ⟨some 26, .load false 1 (.tmp 25), none⟩,
     ⟨some 27, .call (.func F.impl_SelectEqual) [(.tmp 22), (.tmp 24), (.tmp 26)] [], none⟩,
     ⟨some 28, .extract (.tmp 27) 0, none⟩,
     ⟨some 29, .extract (.tmp 27) 1, none⟩,
     ⟨some 4, .mv (.tmp 28), none⟩,
     ⟨some 5, .mv (.tmp 29), none⟩] [4, 5] []) <|
  .ret
theorem Cd.impl_cardsFor_rs : Try.f47.results.toList = [.tmp 4, .tmp 5] := rfl
theorem Cd.impl_cardsFor_nt : Try.f47.ntmps = 30 := rfl
theorem Cd.impl_cardsFor_ok : CodeIsR Try.prog 47 Try.f47 Cd.impl_cardsFor := ⟨Try.func47, by kernel_rfl, by decide +kernel⟩
/-- loop.example/g01012/laws.szInt64S -/
def Cd.laws_szInt64S : ACode :=
  .seq (.region [⟨some 4, .mv (.const (.int .i64 (0))), none⟩] [0, 1] []) <|
  .seq (.region [⟨some 5, .mv (.tmp 1), none⟩,
     ⟨some 6, .mv (.tmp 0), none⟩,
     ⟨some 7, .len (.tmp 6), none⟩,
     ⟨some 8, .bin .sub (.tmp 5) (.tmp 7), none⟩,
     ⟨some 1, .mv (.tmp 8), none⟩] [1] []) <|
  .seq (.seq (.region [⟨some 9, .mv (.tmp 1), none⟩,
      ⟨some 10, .bin .lss (.tmp 9) (.const (.int .i64 (0))), none⟩] [1, 10] []) <|
   .cond (.tmp 10)
     (.seq (.region [⟨some 4, .mv (.const (.int .i64 (-1))), none⟩] [4] []) <|
     .ret)
     (.skip)) <|
  .seq (.region [⟨some 11, .mv (.tmp 1), none⟩,
     ⟨some 4, .mv (.tmp 11), none⟩] [4] []) <|
  .ret
theorem Cd.laws_szInt64S_rs : Try.f48.results.toList = [.tmp 4] := rfl
theorem Cd.laws_szInt64S_nt : Try.f48.ntmps = 12 := rfl
theorem Cd.laws_szInt64S_ok : CodeIsR Try.prog 48 Try.f48 Cd.laws_szInt64S := ⟨Try.func48, by kernel_rfl, by decide +kernel⟩
/-- loop.example/g01012/spec.l02Own -/
def Cd.spec_l02Own : ACode :=
  .seq (.region [⟨some 2, .alloc [.v (.slice none 0 0)], none⟩] [0, 2] []) <|
  .seq (.region [⟨some 3, .mv (.tmp 0), none⟩,
     ⟨some 4, .nilc (.tmp 3), none⟩,
     ⟨some 5, .fieldAddr 0 (.tmp 4), none⟩,
     ⟨some 6, .load false 1 (.tmp 5), none⟩,
     ⟨some 7, .call (.func F.spec_l00Own) [(.tmp 6)] [], none⟩,
     ⟨some 8, .build [.v (.slice none 0 0)] [(0, 1, (.tmp 7))], none⟩,
     ⟨none, .store 1 (.tmp 2) (.tmp 8), none⟩] [2] []) <|
  .ret
theorem Cd.spec_l02Own_rs : Try.f50.results.toList = [.cell 2 59] := rfl
theorem Cd.spec_l02Own_nt : Try.f50.ntmps = 9 := rfl
theorem Cd.spec_l02Own_ok : CodeIsR Try.prog 50 Try.f50 Cd.spec_l02Own := ⟨Try.func50, by kernel_rfl, by decide +kernel⟩
/-- loop.example/g01012/laws.toInt64S -/
def Cd.laws_toInt64S : ACode :=
  .seq (.region [⟨some 2, .mv (.const (.slice none 0 0)), none⟩] [0] []) <|
  .seq (.region [⟨some 5, .mv (.tmp 0), none⟩,
     ⟨some 6, .len (.tmp 5), none⟩,
     ⟨some 7, .mk 1 8 [.v (.int .i64 (0))] (.tmp 6), none⟩,
     ⟨some 3, .mv (.tmp 7), none⟩] [0, 3] []) <|
  .seq (.seq (.region [⟨some 4, .mv (.const (.int .i64 (0))), none⟩] [0, 3, 4] []) <|
   .block 0 (
     .loop (
       .seq (.seq (.region [⟨some 8, .mv (.tmp 4), none⟩,
           ⟨some 9, .mv (.tmp 0), none⟩,
           ⟨some 10, .len (.tmp 9), none⟩,
           ⟨some 11, .bin .lss (.tmp 8) (.tmp 10), none⟩] [0, 3, 4, 11] []) <|
        .cond (.tmp 11)
          (.skip)
          (.exit 0)) <|
       .seq (.block 1 (
          .region [⟨some 14, .mv (.tmp 3), none⟩,
            ⟨some 15, .mv (.tmp 4), none⟩,
            ⟨some 16, .mv (.tmp 0), none⟩,
            ⟨some 17, .mv (.tmp 4), none⟩,
            ⟨some 18, .idxSl 1 (.tmp 16) (.tmp 17), none⟩,
            ⟨some 19, .load false 1 (.tmp 18), none⟩,
            ⟨some 20, .idxSl 1 (.tmp 14) (.tmp 15), none⟩,
            ⟨none, .store 1 (.tmp 20) (.tmp 19), none⟩] [0, 3, 4] [])) <|
       .region [⟨some 12, .mv (.tmp 4), none⟩,
         ⟨some 13, .bin .add (.tmp 12) (.const (.int .i64 (1))), none⟩,
         ⟨some 4, .mv (.tmp 13), none⟩] [0, 3, 4] []))) <|
  .seq (.region [⟨some 21, .mv (.tmp 3), none⟩,
     ⟨some 2, .mv (.tmp 21), none⟩] [2] []) <|
  .ret
theorem Cd.laws_toInt64S_rs : Try.f51.results.toList = [.tmp 2] := rfl
theorem Cd.laws_toInt64S_nt : Try.f51.ntmps = 22 := rfl
theorem Cd.laws_toInt64S_ok : CodeIsR Try.prog 51 Try.f51 Cd.laws_toInt64S := ⟨Try.func51, by kernel_rfl, by decide +kernel⟩
/-- loop.example/g01012/impl.newCard -/
def Cd.impl_newCard : ACode :=
  .seq (.region [⟨some 1, .box (.tmp 0), none⟩,
     ⟨some 2, .alloc [.v (.slice none 0 0)], none⟩] [1, 2] []) <|
  .seq (.region [⟨some 3, .fieldAddr 0 (.tmp 1), none⟩,
     ⟨some 4, .load false 1 (.tmp 3), none⟩,
     ⟨some 5, .call (.func F.impl_copyInts) [(.tmp 4)] [], none⟩,
     ⟨some 6, .build [.v (.slice none 0 0)] [(0, 1, (.tmp 5))], none⟩,
     ⟨none, .store 1 (.tmp 2) (.tmp 6), none⟩] [2] []) <|
  .ret
theorem Cd.impl_newCard_rs : Try.f53.results.toList = [.cell 2 59] := rfl
theorem Cd.impl_newCard_nt : Try.f53.ntmps = 7 := rfl
theorem Cd.impl_newCard_ok : CodeIsR Try.prog 53 Try.f53 Cd.impl_newCard := ⟨Try.func53, by kernel_rfl, by decide +kernel⟩
/-- loop.example/g01012/laws.eqInt64S DRAWS -/
def Cd.laws_eqInt64S : ACode :=
  .seq (.region [⟨some 4, .mv (.const (.bool false)), none⟩] [0, 1] []) <|
  .seq (.seq (.region [⟨some 6, .mv (.tmp 0), none⟩,
      ⟨some 7, .len (.tmp 6), none⟩,
      ⟨some 8, .mv (.tmp 1), none⟩,
      ⟨some 9, .len (.tmp 8), none⟩,
      ⟨some 10, .bin .neq (.tmp 7) (.tmp 9), none⟩] [0, 1, 10] []) <|
   .cond (.tmp 10)
     (.seq (.region [⟨some 4, .mv (.const (.bool false)), none⟩] [4] []) <|
     .ret)
     (.skip)) <|
  .seq (.seq (.region [⟨some 5, .mv (.const (.int .i64 (0))), none⟩] [0, 1, 5] []) <|
   .block 0 (
     .loop (
       .seq (.seq (.region [⟨some 11, .mv (.tmp 5), none⟩,
           ⟨some 12, .mv (.tmp 0), none⟩,
           ⟨some 13, .len (.tmp 12), none⟩,
           ⟨some 14, .bin .lss (.tmp 11) (.tmp 13), none⟩] [0, 1, 5, 14] []) <|
        .cond (.tmp 14)
          (.skip)
          (.exit 0)) <|
       .seq (.block 1 (
          .seq (.region [⟨some 17, .mv (.tmp 0), none⟩,
             ⟨some 18, .mv (.tmp 5), none⟩,
             ⟨some 19, .idxSl 1 (.tmp 17) (.tmp 18), none⟩,
             ⟨some 20, .load false 1 (.tmp 19), none⟩,
             ⟨some 21, .mv (.tmp 1), none⟩,
             ⟨some 22, .mv (.tmp 5), none⟩,
             ⟨some 23, .idxSl 1 (.tmp 21) (.tmp 22), none⟩,
             ⟨some 24, .load false 1 (.tmp 23), none⟩,
             ⟨some 25, .bin .neq (.tmp 20) (.tmp 24), none⟩] [0, 1, 5, 25] [17, 18, 20, 21, 19, 22, 23, 24, 25]) <|
          .cond (.tmp 25)
            (.seq (.region [⟨some 4, .mv (.const (.bool false)), none⟩] [4] []) <|
            .ret)
            (.skip))) <|
       .region [⟨some 15, .mv (.tmp 5), none⟩,
         ⟨some 16, .bin .add (.tmp 15) (.const (.int .i64 (1))), none⟩,
         ⟨some 5, .mv (.tmp 16), none⟩] [0, 1, 5] []))) <|
  .seq (.region [⟨some 4, .mv (.const (.bool true)), none⟩] [4] []) <|
  .ret
theorem Cd.laws_eqInt64S_rs : Try.f54.results.toList = [.tmp 4] := rfl
theorem Cd.laws_eqInt64S_nt : Try.f54.ntmps = 26 := rfl
theorem Cd.laws_eqInt64S_ok : CodeIsR Try.prog 54 Try.f54 Cd.laws_eqInt64S := ⟨Try.func54, by kernel_rfl, by decide +kernel⟩
/-- loop.example/g01012/spec.l02Ok -/
def Cd.spec_l02Ok : ACode :=
  .seq (.region [⟨some 2, .mv (.const (.bool false)), none⟩] [0] []) <|
  .seq (.seq (.region [⟨some 3, .mv (.const (.int .i64 (0))), none⟩] [0, 3] []) <|
   .block 0 (
     .loop (
       .seq (.seq (.region [⟨some 4, .mv (.tmp 3), none⟩,
           ⟨some 5, .mv (.tmp 0), none⟩,
           ⟨some 6, .nilc (.tmp 5), none⟩,
           ⟨some 7, .fieldAddr 0 (.tmp 6), none⟩,
           ⟨some 8, .load false 1 (.tmp 7), none⟩,
           ⟨some 9, .len (.tmp 8), none⟩,
           ⟨some 10, .bin .lss (.tmp 4) (.tmp 9), none⟩] [0, 3, 10] []) <|
        .cond (.tmp 10)
          (.skip)
          (.exit 0)) <|
       .seq (.block 1 (
          .seq (.region [⟨some 13, .mv (.tmp 0), none⟩,
             ⟨some 14, .nilc (.tmp 13), none⟩,
             ⟨some 15, .fieldAddr 0 (.tmp 14), none⟩,
             ⟨some 16, .load false 1 (.tmp 15), none⟩,
             ⟨some 17, .mv (.tmp 3), none⟩,
             ⟨some 18, .idxSl 1 (.tmp 16) (.tmp 17), none⟩,
             ⟨some 19, .load false 1 (.tmp 18), none⟩,
             ⟨some 20, .call (.func F.spec_l00In) [(.tmp 19), (.const (.int .i64 (0))), (.const (.int .i64 (4095)))] [], none⟩,
             ⟨some 21, .un .not (.tmp 20), none⟩] [0, 3, 21] []) <|
          .cond (.tmp 21)
            (.seq (.region [⟨some 2, .mv (.const (.bool false)), none⟩] [2] []) <|
            .ret)
            (.skip))) <|
       .region [⟨some 11, .mv (.tmp 3), none⟩,
         ⟨some 12, .bin .add (.tmp 11) (.const (.int .i64 (1))), none⟩,
         ⟨some 3, .mv (.tmp 12), none⟩] [0, 3] []))) <|
  .seq (.region [⟨some 22, .mv (.tmp 0), none⟩,
     ⟨some 23, .nilc (.tmp 22), none⟩,
     ⟨some 24, .fieldAddr 0 (.tmp 23), none⟩,
     ⟨some 25, .load false 1 (.tmp 24), none⟩,
     ⟨some 26, .len (.tmp 25), none⟩,
     ⟨some 27, .call (.func F.spec_l00In) [(.tmp 26), (.const (.int .i64 (1))), (.const (.int .i64 (20)))] [], none⟩,
     ⟨some 2, .mv (.tmp 27), none⟩] [2] []) <|
  .ret
theorem Cd.spec_l02Ok_rs : Try.f55.results.toList = [.tmp 2] := rfl
theorem Cd.spec_l02Ok_nt : Try.f55.ntmps = 28 := rfl
theorem Cd.spec_l02Ok_ok : CodeIsR Try.prog 55 Try.f55 Cd.spec_l02Ok := ⟨Try.func55, by kernel_rfl, by decide +kernel⟩
/-- loop.example/g01012/spec.l02Copy -/
def Cd.spec_l02Copy : ACode :=
  .seq (.region [⟨some 2, .mv (.const (.slice none 0 0)), none⟩] [0] []) <|
  .seq (.naming 3 (
     .region [⟨some 5, .bslice 1 0 [.v (.slice none 0 0)] [], none⟩,
       ⟨some 3, .mv (.tmp 5), none⟩] [0, 3] [])) <|
  .seq (.seq (.region [⟨some 4, .mv (.const (.int .i64 (0))), none⟩] [0, 3, 4] []) <|
   .block 0 (
     .loop (
       .seq (.seq (.region [⟨some 6, .mv (.tmp 4), none⟩,
           ⟨some 7, .mv (.tmp 0), none⟩,
           ⟨some 8, .len (.tmp 7), none⟩,
           ⟨some 9, .bin .lss (.tmp 6) (.tmp 8), none⟩] [0, 3, 4, 9] []) <|
        .cond (.tmp 9)
          (.skip)
          (.exit 0)) <|
       .seq (.block 1 (
          .naming 3 (
            .region [⟨some 12, .mv (.tmp 3), none⟩,
              ⟨some 13, .mv (.tmp 0), none⟩,
              ⟨some 14, .mv (.tmp 4), none⟩,
              ⟨some 15, .idxSl 1 (.tmp 13) (.tmp 14), none⟩,
              ⟨some 16, .call (.func F.spec_l02Own) [(.tmp 15)] [], none⟩,
              ⟨some 17, .bslice 1 1 [.v (.slice none 0 0)] [(0, (.tmp 16))], none⟩,
              ⟨some 18, .append 1 24 (.tmp 12) (.tmp 17), none⟩,
              ⟨some 3, .mv (.tmp 18), none⟩] [0, 3, 4] []))) <|
       .region [⟨some 10, .mv (.tmp 4), none⟩,
         ⟨some 11, .bin .add (.tmp 10) (.const (.int .i64 (1))), none⟩,
         ⟨some 4, .mv (.tmp 11), none⟩] [0, 3, 4] []))) <|
  .seq (.region [⟨some 19, .mv (.tmp 3), none⟩,
     ⟨some 2, .mv (.tmp 19), none⟩] [2] []) <|
  .ret
theorem Cd.spec_l02Copy_rs : Try.f56.results.toList = [.tmp 2] := rfl
theorem Cd.spec_l02Copy_nt : Try.f56.ntmps = 20 := rfl
theorem Cd.spec_l02Copy_ok : CodeIsR Try.prog 56 Try.f56 Cd.spec_l02Copy := ⟨Try.func56, by kernel_rfl, by decide +kernel⟩
/-- loop.example/g01012/impl.ValidCard -/
def Cd.impl_ValidCard : ACode :=
  .seq (.region [⟨some 1, .box (.tmp 0), none⟩,
     ⟨some 2, .mv (.const (.bool false)), none⟩] [1] []) <|
  .seq (.region [⟨some 3, .load true 1 (.tmp 1), none⟩,
     ⟨some 4, .call (.func F._impl_Card__columns) [(.tmp 3)] [], none⟩,
     ⟨some 5, .call (.func F.impl_inside) [(.tmp 4), (.const (.int .i64 (1))), (.const (.int .i64 (20)))] [], none⟩,
     ⟨some 6, .mv (.tmp 5), none⟩,
     ⟨some 7, .fieldAddr 0 (.tmp 1), some (6, true)⟩,
     ⟨some 8, .load false 1 (.tmp 7), some (6, true)⟩,
     ⟨some 9, .call (.func F.slices_ContainsFunc___int64_int64_) [(.tmp 8), (.func F.impl_ValidCard_1)] [], some (6, true)⟩,
     ⟨some 10, .un .not (.tmp 9), some (6, true)⟩,
     ⟨some 11, .pick (.tmp 6) (.tmp 10) (.const (.bool false)), none⟩,
     ⟨some 2, .mv (.tmp 11), none⟩] [2] []) <|
  .ret
theorem Cd.impl_ValidCard_rs : Try.f57.results.toList = [.tmp 2] := rfl
theorem Cd.impl_ValidCard_nt : Try.f57.ntmps = 12 := rfl
theorem Cd.impl_ValidCard_ok : CodeIsR Try.prog 57 Try.f57 Cd.impl_ValidCard := ⟨Try.func57, by kernel_rfl, by decide +kernel⟩
/-- (loop.example/g01012/impl.Card).columns -/
def Cd._impl_Card__columns : ACode :=
  .seq (.region [⟨some 1, .box (.tmp 0), none⟩,
     ⟨some 2, .mv (.const (.int .i64 (0))), none⟩] [1] []) <|
  .seq (.region [⟨some 3, .fieldAddr 0 (.tmp 1), none⟩,
     ⟨some 4, .load false 1 (.tmp 3), none⟩,
     ⟨some 5, .call (.func F.impl_size_int64_) [(.tmp 4)] [], none⟩,
     ⟨some 2, .mv (.tmp 5), none⟩] [2] []) <|
  .ret
theorem Cd._impl_Card__columns_rs : Try.f58.results.toList = [.tmp 2] := rfl
theorem Cd._impl_Card__columns_nt : Try.f58.ntmps = 6 := rfl
theorem Cd._impl_Card__columns_ok : CodeIsR Try.prog 58 Try.f58 Cd._impl_Card__columns := ⟨Try.func58, by kernel_rfl, by decide +kernel⟩
/-- loop.example/g01012/spec.l16Code -/
def Cd.spec_l16Code : ACode :=
  .seq (.region [⟨some 4, .mv (.const (.int .i64 (0))), none⟩] [0, 1] []) <|
  .seq (.seq (.region [⟨some 5, .mv (.tmp 1), none⟩,
      ⟨some 6, .call (.func F.spec_l02Deck) [(.tmp 5)] [], none⟩,
      ⟨some 7, .un .not (.tmp 6), none⟩] [0, 1, 7] []) <|
   .cond (.tmp 7)
     (.seq (.region [⟨some 4, .mv (.const (.int .i64 (1))), none⟩] [4] []) <|
     .ret)
     (.skip)) <|
  .seq (.seq (.region [⟨some 8, .mv (.tmp 0), none⟩,
      ⟨some 9, .mv (.tmp 1), none⟩,
      ⟨some 10, .call (.func F.spec_l07Width) [(.tmp 9)] [], none⟩,
      ⟨some 11, .call (.func F.spec_l16Ok) [(.tmp 8), (.tmp 10)] [], none⟩,
      ⟨some 12, .un .not (.tmp 11), none⟩] [12] []) <|
   .cond (.tmp 12)
     (.seq (.region [⟨some 4, .mv (.const (.int .i64 (2))), none⟩] [4] []) <|
     .ret)
     (.skip)) <|
  .seq (.region [⟨some 4, .mv (.const (.int .i64 (0))), none⟩] [4] []) <|
  .ret
theorem Cd.spec_l16Code_rs : Try.f62.results.toList = [.tmp 4] := rfl
theorem Cd.spec_l16Code_nt : Try.f62.ntmps = 13 := rfl
theorem Cd.spec_l16Code_ok : CodeIsR Try.prog 62 Try.f62 Cd.spec_l16Code := ⟨Try.func62, by kernel_rfl, by decide +kernel⟩
/-- loop.example/g01012/spec.SelectEqual -/
def Cd.spec_SelectEqual : ACode :=
  .seq (.region [⟨some 4, .box (.tmp 1), none⟩,
     ⟨some 6, .mv (.const (.slice none 0 0)), none⟩,
     ⟨some 7, .mv (.const (.int .i64 (0))), none⟩] [0, 2, 4] []) <|
  .seq (.region [⟨some 13, .mv (.tmp 0), none⟩,
     ⟨some 14, .load true 2 (.tmp 4), none⟩,
     ⟨some 15, .mv (.tmp 2), none⟩,
     ⟨some 16, .bslice 1 1 [.v (.string ⟨#[]⟩)] [(0, (.tmp 15))], none⟩,
     ⟨some 17, .call (.func F.spec_l09Ask) [(.tmp 13), (.tmp 14), (.tmp 16)] [], none⟩,
     ⟨some 12, .mv (.tmp 17), none⟩,
     ⟨some 18, .extract (.tmp 12) 0, none⟩,
     ⟨some 19, .extract (.tmp 12) 1, none⟩,
     ⟨some 8, .mv (.tmp 18), none⟩,
     ⟨some 9, .mv (.tmp 19), none⟩] [0, 2, 8, 9] []) <|
  .seq (.seq (.region [⟨some 20, .mv (.tmp 9), none⟩,
      ⟨some 21, .bin .neq (.tmp 20) (.const (.int .i64 (0))), none⟩] [0, 2, 8, 9, 21] []) <|
   .cond (.tmp 21)
     (.seq (.region [⟨some 22, .mv (.tmp 9), none⟩,
        ⟨some 6, .mv (.const (.slice none 0 0)), none⟩,
        ⟨some 7, .mv (.tmp 22), none⟩] [6, 7] []) <|
     .ret)
     (.skip)) <|
  .seq (.naming 10 (
     .region [⟨some 23, .bslice 1 0 [.v (.slice none 0 0)] [], none⟩,
       ⟨some 10, .mv (.tmp 23), none⟩] [0, 2, 8, 10] [])) <|
  .seq (.seq (.region [⟨some 11, .mv (.const (.int .i64 (0))), none⟩] [0, 2, 8, 10, 11] []) <|
   .block 0 (
     .loop (
       .seq (.seq (.region [⟨some 24, .mv (.tmp 11), none⟩,
           ⟨some 25, .mv (.tmp 8), none⟩,
           ⟨some 26, .len (.tmp 25), none⟩,
           ⟨some 27, .bin .lss (.tmp 24) (.tmp 26), none⟩] [0, 2, 8, 10, 11, 27] []) <|
        .cond (.tmp 27)
          (.skip)
          (.exit 0)) <|
       .seq (.block 1 (
          .seq (.region [⟨some 30, .mv (.tmp 8), none⟩,
             ⟨some 31, .mv (.tmp 11), none⟩,
             ⟨some 32, .idxSl 1 (.tmp 30) (.tmp 31), none⟩,
             ⟨some 33, .load false 1 (.tmp 32), none⟩,
             ⟨some 34, .mv (.tmp 2), none⟩,
             ⟨some 35, .binS .eql (.tmp 33) (.tmp 34), none⟩] [0, 2, 8, 10, 11, 35] []) <|
          .cond (.tmp 35)
            (.naming 10 (
              .region [⟨some 36, .mv (.tmp 10), none⟩,
                ⟨some 37, .mv (.tmp 0), none⟩,
                ⟨some 38, .mv (.tmp 11), none⟩,
                ⟨some 39, .idxSl 1 (.tmp 37) (.tmp 38), none⟩,
                ⟨some 40, .call (.func F.spec_l02Own) [(.tmp 39)] [], none⟩,
                ⟨some 41, .bslice 1 1 [.v (.slice none 0 0)] [(0, (.tmp 40))], none⟩,
                ⟨some 42, .append 1 24 (.tmp 36) (.tmp 41), none⟩,
                ⟨some 10, .mv (.tmp 42), none⟩] [0, 2, 8, 10, 11] []))
            (.skip))) <|
       .region [⟨some 28, .mv (.tmp 11), none⟩,
         ⟨some 29, .bin .add (.tmp 28) (.const (.int .i64 (1))), none⟩,
         ⟨some 11, .mv (.tmp 29), none⟩] [0, 2, 8, 10, 11] []))) <|
  .seq (.region [⟨some 43, .mv (.tmp 10), none⟩,
     ⟨some 6, .mv (.tmp 43), none⟩,
     ⟨some 7, .mv (.const (.int .i64 (0))), none⟩] [6, 7] []) <|
  .ret
theorem Cd.spec_SelectEqual_rs : Try.f63.results.toList = [.tmp 6, .tmp 7] := rfl
theorem Cd.spec_SelectEqual_nt : Try.f63.ntmps = 44 := rfl
theorem Cd.spec_SelectEqual_ok : CodeIsR Try.prog 63 Try.f63 Cd.spec_SelectEqual := ⟨Try.func63, by kernel_rfl, by decide +kernel⟩
/-- loop.example/g01012/impl.ValidSpec -/
def Cd.impl_ValidSpec : ACode :=
  .seq (.region [⟨some 2, .box (.tmp 0), none⟩,
     ⟨some 4, .mv (.const (.bool false)), none⟩] [1, 2] []) <|
  .seq (.seq (.region [⟨some 5, .mv (.tmp 1), none⟩,
      ⟨some 6, .call (.func F.impl_inside) [(.tmp 5), (.const (.int .i64 (1))), (.const (.int .i64 (20)))] [], none⟩,
      ⟨some 7, .un .not (.tmp 6), none⟩,
      ⟨some 8, .mv (.tmp 7), none⟩,
      ⟨some 9, .fieldAddr 3 (.tmp 2), some (8, false)⟩,
      ⟨some 10, .load true 2 (.tmp 9), some (8, false)⟩,
      ⟨some 11, .mv (.tmp 1), some (8, false)⟩,
      ⟨some 12, .call (.func F.impl_isField) [(.tmp 10), (.tmp 11)] [], some (8, false)⟩,
      ⟨some 13, .un .not (.tmp 12), some (8, false)⟩,
      ⟨some 14, .pick (.tmp 8) (.const (.bool true)) (.tmp 13), none⟩,
      ⟨some 15, .mv (.tmp 14), none⟩,
      ⟨some 16, .fieldAddr 5 (.tmp 2), some (15, false)⟩,
      ⟨some 17, .load true 2 (.tmp 16), some (15, false)⟩,
      ⟨some 18, .mv (.tmp 1), some (15, false)⟩,
      ⟨some 19, .call (.func F.impl_isNumberField) [(.tmp 17), (.tmp 18)] [], some (15, false)⟩,
      ⟨some 20, .un .not (.tmp 19), some (15, false)⟩,
      ⟨some 21, .pick (.tmp 15) (.const (.bool true)) (.tmp 20), none⟩] [1, 2, 21] []) <|
   .cond (.tmp 21)
     (.seq (.region [⟨some 4, .mv (.const (.bool false)), none⟩] [4] []) <|
     .ret)
     (.skip)) <|
  .seq (.seq (.region [⟨some 22, .fieldAddr 2 (.tmp 2), none⟩,
      ⟨some 23, .load false 1 (.tmp 22), none⟩,
      ⟨some 24, .binS .eql (.tmp 23) (.const (.string ⟨#[]⟩)), none⟩] [1, 2, 24] []) <|
   .cond (.tmp 24)
     (.seq (.region [⟨some 25, .fieldAddr 0 (.tmp 2), none⟩,
        ⟨some 26, .load true 2 (.tmp 25), none⟩,
        ⟨some 27, .build [.v (.int .i64 (0)), .v (.int .i64 (0))] [], none⟩,
        ⟨some 28, .eqA false [0, 0] (.tmp 26) (.tmp 27), none⟩,
        ⟨some 4, .mv (.tmp 28), none⟩] [4] []) <|
     .ret)
     (.skip)) <|
  .seq (.region [⟨some 29, .fieldAddr 0 (.tmp 2), none⟩,
     ⟨some 30, .load true 2 (.tmp 29), none⟩,
     ⟨some 31, .mv (.tmp 1), none⟩,
     ⟨some 32, .call (.func F.impl_isField) [(.tmp 30), (.tmp 31)] [], none⟩,
     ⟨some 33, .mv (.tmp 32), none⟩,
     ⟨some 34, .fieldAddr 2 (.tmp 2), some (33, true)⟩,
     ⟨some 35, .load false 1 (.tmp 34), some (33, true)⟩,
     ⟨some 36, .call (.func F.impl_areCharacters) [(.tmp 35)] [], some (33, true)⟩,
     ⟨some 37, .pick (.tmp 33) (.tmp 36) (.const (.bool false)), none⟩,
     ⟨some 38, .mv (.tmp 37), none⟩,
     ⟨some 39, .fieldAddr 2 (.tmp 2), some (38, true)⟩,
     ⟨some 40, .load false 1 (.tmp 39), some (38, true)⟩,
     ⟨some 41, .lenS (.tmp 40), some (38, true)⟩,
     ⟨some 42, .fieldAddr 0 (.tmp 2), some (38, true)⟩,
     ⟨some 43, .fieldAddr 1 (.tmp 42), some (38, true)⟩,
     ⟨some 44, .load false 1 (.tmp 43), some (38, true)⟩,
     ⟨some 45, .fieldAddr 0 (.tmp 2), some (38, true)⟩,
     ⟨some 46, .fieldAddr 0 (.tmp 45), some (38, true)⟩,
     ⟨some 47, .load false 1 (.tmp 46), some (38, true)⟩,
     ⟨some 48, .bin .sub (.tmp 44) (.tmp 47), some (38, true)⟩,
     ⟨some 49, .bin .eql (.tmp 41) (.tmp 48), some (38, true)⟩,
     ⟨some 50, .pick (.tmp 38) (.tmp 49) (.const (.bool false)), none⟩,
     ⟨some 4, .mv (.tmp 50), none⟩] [4] []) <|
  .ret
theorem Cd.impl_ValidSpec_rs : Try.f64.results.toList = [.tmp 4] := rfl
theorem Cd.impl_ValidSpec_nt : Try.f64.ntmps = 51 := rfl
theorem Cd.impl_ValidSpec_ok : CodeIsR Try.prog 64 Try.f64 Cd.impl_ValidSpec := ⟨Try.func64, by kernel_rfl, by decide +kernel⟩
/-- loop.example/g01012/impl.deckColumns -/
def Cd.impl_deckColumns : ACode :=
  .seq (.region [⟨some 2, .mv (.const (.int .i64 (0))), none⟩] [0] []) <|
  .seq (.seq (.region [⟨some 3, .mv (.tmp 0), none⟩,
      ⟨some 4, .len (.tmp 3), none⟩,
      ⟨some 5, .bin .eql (.tmp 4) (.const (.int .i64 (0))), none⟩] [0, 5] []) <|
   .cond (.tmp 5)
     (.seq (.region [⟨some 2, .mv (.const (.int .i64 (20))), none⟩] [2] []) <|
     .ret)
     (.skip)) <|
  .seq (.region [⟨some 6, .mv (.tmp 0), none⟩,
     ⟨some 7, .idxSl 1 (.tmp 6) (.const (.int .i64 (0))), none⟩,
     ⟨some 8, .load true 1 (.tmp 7), none⟩,
     ⟨some 9, .call (.func F._impl_Card__columns) [(.tmp 8)] [], none⟩,
     ⟨some 2, .mv (.tmp 9), none⟩] [2] []) <|
  .ret
theorem Cd.impl_deckColumns_rs : Try.f65.results.toList = [.tmp 2] := rfl
theorem Cd.impl_deckColumns_nt : Try.f65.ntmps = 10 := rfl
theorem Cd.impl_deckColumns_ok : CodeIsR Try.prog 65 Try.f65 Cd.impl_deckColumns := ⟨Try.func65, by kernel_rfl, by decide +kernel⟩
/-- loop.example/g01012/impl.SelectEqual -/
def Cd.impl_SelectEqual : ACode :=
  .seq (.region [⟨some 4, .box (.tmp 1), none⟩,
     ⟨some 6, .mv (.const (.slice none 0 0)), none⟩,
     ⟨some 7, .mv (.const (.int .i64 (0))), none⟩] [0, 2, 4] []) <|
  .seq (.region [⟨some 8, .mv (.tmp 0), none⟩,
     ⟨some 9, .load true 2 (.tmp 4), none⟩,
     ⟨some 10, .mv (.tmp 2), none⟩,
     ⟨some 11, .mv (.tmp 2), none⟩,
     ⟨some 12, .call (.func F.impl_SelectBetween) [(.tmp 8), (.tmp 9), (.tmp 10), (.tmp 11)] [], none⟩,
     ⟨some 13, .extract (.tmp 12) 0, none⟩,
     ⟨some 14, .extract (.tmp 12) 1, none⟩,
     ⟨some 6, .mv (.tmp 13), none⟩,
     ⟨some 7, .mv (.tmp 14), none⟩] [6, 7] []) <|
  .ret
theorem Cd.impl_SelectEqual_rs : Try.f66.results.toList = [.tmp 6, .tmp 7] := rfl
theorem Cd.impl_SelectEqual_nt : Try.f66.ntmps = 15 := rfl
theorem Cd.impl_SelectEqual_ok : CodeIsR Try.prog 66 Try.f66 Cd.impl_SelectEqual := ⟨Try.func66, by kernel_rfl, by decide +kernel⟩
/-- loop.example/g01012/spec.l00Own -/
def Cd.spec_l00Own : ACode :=
  .seq (.region [⟨some 2, .mv (.const (.slice none 0 0)), none⟩] [0] []) <|
  .seq (.region [⟨some 3, .bslice 1 0 [.v (.int .i64 (0))] [], none⟩,
     ⟨some 4, .mv (.tmp 0), none⟩,
     ⟨some 5, .append 1 8 (.tmp 3) (.tmp 4), none⟩,
     ⟨some 2, .mv (.tmp 5), none⟩] [2] []) <|
  .ret
theorem Cd.spec_l00Own_rs : Try.f67.results.toList = [.tmp 2] := rfl
theorem Cd.spec_l00Own_nt : Try.f67.ntmps = 6 := rfl
theorem Cd.spec_l00Own_ok : CodeIsR Try.prog 67 Try.f67 Cd.spec_l00Own := ⟨Try.func67, by kernel_rfl, by decide +kernel⟩
/-- loop.example/g01012/impl.copyInts -/
def Cd.impl_copyInts : ACode :=
  .seq (.region [⟨some 2, .mv (.const (.slice none 0 0)), none⟩] [0] []) <|
  .seq (.region [⟨some 3, .bslice 1 0 [.v (.int .i64 (0))] [], none⟩,
     ⟨some 4, .mv (.tmp 0), none⟩,
     ⟨some 5, .append 1 8 (.tmp 3) (.tmp 4), none⟩,
     ⟨some 2, .mv (.tmp 5), none⟩] [2] []) <|
  .ret
theorem Cd.impl_copyInts_rs : Try.f68.results.toList = [.tmp 2] := rfl
theorem Cd.impl_copyInts_nt : Try.f68.ntmps = 6 := rfl
theorem Cd.impl_copyInts_ok : CodeIsR Try.prog 68 Try.f68 Cd.impl_copyInts := ⟨Try.func68, by kernel_rfl, by decide +kernel⟩
/-- slices.ContainsFunc[[]int64,int64] -/
def Cd.slices_ContainsFunc___int64_int64_ : ACode :=
  .seq (.region [⟨some 4, .mv (.const (.bool false)), none⟩] [0, 1] []) <|
  .seq (.region [⟨some 5, .mv (.tmp 0), none⟩,
     ⟨some 6, .mv (.tmp 1), none⟩,
     ⟨some 7, .call (.func F.slices_IndexFunc___int64_int64_) [(.tmp 5), (.tmp 6)] [], none⟩,
     ⟨some 8, .bin .geq (.tmp 7) (.const (.int .i64 (0))), none⟩,
     ⟨some 4, .mv (.tmp 8), none⟩] [4] []) <|
  .ret
theorem Cd.slices_ContainsFunc___int64_int64__rs : Try.f69.results.toList = [.tmp 4] := rfl
theorem Cd.slices_ContainsFunc___int64_int64__nt : Try.f69.ntmps = 9 := rfl
theorem Cd.slices_ContainsFunc___int64_int64__ok : CodeIsR Try.prog 69 Try.f69 Cd.slices_ContainsFunc___int64_int64_ := ⟨Try.func69, by kernel_rfl, by decide +kernel⟩
/-- loop.example/g01012/impl.ValidCard$1 -/
def Cd.impl_ValidCard_1 : ACode :=
  .seq (.region [⟨some 2, .mv (.const (.bool false)), none⟩] [0] []) <|
  .seq (.region [⟨some 3, .mv (.tmp 0), none⟩,
     ⟨some 4, .call (.func F.impl_inside) [(.tmp 3), (.const (.int .i64 (0))), (.const (.int .i64 (4095)))] [], none⟩,
     ⟨some 5, .un .not (.tmp 4), none⟩,
     ⟨some 2, .mv (.tmp 5), none⟩] [2] []) <|
  .ret
theorem Cd.impl_ValidCard_1_rs : Try.f70.results.toList = [.tmp 2] := rfl
theorem Cd.impl_ValidCard_1_nt : Try.f70.ntmps = 6 := rfl
theorem Cd.impl_ValidCard_1_ok : CodeIsR Try.prog 70 Try.f70 Cd.impl_ValidCard_1 := ⟨Try.func70, by kernel_rfl, by decide +kernel⟩
/-- loop.example/g01012/impl.size[int64] -/
def Cd.impl_size_int64_ : ACode :=
  .seq (.region [⟨some 2, .mv (.const (.int .i64 (0))), none⟩] [0] []) <|
  .seq (.region [⟨some 3, .mv (.tmp 0), none⟩,
     ⟨some 4, .len (.tmp 3), none⟩,
     ⟨some 2, .mv (.tmp 4), none⟩] [2] []) <|
  .ret
theorem Cd.impl_size_int64__rs : Try.f71.results.toList = [.tmp 2] := rfl
theorem Cd.impl_size_int64__nt : Try.f71.ntmps = 5 := rfl
theorem Cd.impl_size_int64__ok : CodeIsR Try.prog 71 Try.f71 Cd.impl_size_int64_ := ⟨Try.func71, by kernel_rfl, by decide +kernel⟩
/-- loop.example/g01012/spec.l16Ok DRAWS -/
def Cd.spec_l16Ok : ACode :=
  .seq (.region [⟨some 4, .mv (.const (.bool false)), none⟩] [0, 1] []) <|
  .seq (.seq (.region [⟨some 5, .mv (.tmp 0), none⟩,
      ⟨some 6, .nilc (.tmp 5), none⟩,
      ⟨some 7, .fieldAddr 3 (.tmp 6), none⟩,
      ⟨some 8, .load true 2 (.tmp 7), none⟩,
      ⟨some 9, .mv (.tmp 1), none⟩,
      ⟨some 10, .call (.func F.spec_l02Field) [(.tmp 8), (.tmp 9)] [], none⟩,
      ⟨some 11, .un .not (.tmp 10), none⟩,
      ⟨some 12, .mv (.tmp 11), none⟩,
      ⟨some 13, .mv (.tmp 0), some (12, false)⟩,
      ⟨some 14, .nilc (.tmp 13), some (12, false)⟩,
      ⟨some 15, .fieldAddr 5 (.tmp 14), some (12, false)⟩,
      ⟨some 16, .load true 2 (.tmp 15), some (12, false)⟩,
      ⟨some 17, .mv (.tmp 1), some (12, false)⟩,
      ⟨some 18, .call (.func F.spec_l02Field) [(.tmp 16), (.tmp 17)] [], some (12, false)⟩,
      ⟨some 19, .un .not (.tmp 18), some (12, false)⟩,
      ⟨some 20, .pick (.tmp 12) (.const (.bool true)) (.tmp 19), none⟩,
      ⟨some 21, .mv (.tmp 20), none⟩,
      ⟨some 22, .mv (.tmp 0), some (21, false)⟩,
      ⟨some 23, .nilc (.tmp 22), some (21, false)⟩,
      ⟨some 24, .fieldAddr 5 (.tmp 23), some (21, false)⟩,
      ⟨some 25, .fieldAddr 1 (.tmp 24), some (21, false)⟩,
      ⟨some 26, .load false 1 (.tmp 25), some (21, false)⟩,
      ⟨some 27, .mv (.tmp 0), some (21, false)⟩,
      ⟨some 28, .nilc (.tmp 27), some (21, false)⟩,
      ⟨some 29, .fieldAddr 5 (.tmp 28), some (21, false)⟩,
      ⟨some 30, .fieldAddr 0 (.tmp 29), some (21, false)⟩,
      ⟨some 31, .load false 1 (.tmp 30), some (21, false)⟩,
      ⟨some 32, .bin .sub (.tmp 26) (.tmp 31), some (21, false)⟩,
      ⟨some 33, .bin .gtr (.tmp 32) (.const (.int .i64 (12))), some (21, false)⟩,
      ⟨some 34, .pick (.tmp 21) (.const (.bool true)) (.tmp 33), none⟩] [0, 1, 34] [5, 7, 8, 6, 9, 10, 11, 12, 13, 14, 15, 16, 17, 18, 19, 20, 21, 22, 23, 24, 25, 26, 27, 28, 29, 30, 31, 32, 33, 34]) <|
   .cond (.tmp 34)
     (.seq (.region [⟨some 4, .mv (.const (.bool false)), none⟩] [4] []) <|
     .ret)
     (.skip)) <|
  .seq (.seq (.region [⟨some 35, .mv (.tmp 0), none⟩,
      ⟨some 36, .nilc (.tmp 35), none⟩,
      ⟨some 37, .fieldAddr 2 (.tmp 36), none⟩,
      ⟨some 38, .load false 1 (.tmp 37), none⟩,
      ⟨some 39, .binS .eql (.tmp 38) (.const (.string ⟨#[]⟩)), none⟩] [0, 1, 39] []) <|
   .cond (.tmp 39)
     (.seq (.region [⟨some 40, .mv (.tmp 0), none⟩,
        ⟨some 41, .nilc (.tmp 40), none⟩,
        ⟨some 42, .fieldAddr 0 (.tmp 41), none⟩,
        ⟨some 43, .load true 2 (.tmp 42), none⟩,
        ⟨some 44, .build [.v (.int .i64 (0)), .v (.int .i64 (0))] [], none⟩,
        ⟨some 45, .eqA false [0, 0] (.tmp 43) (.tmp 44), none⟩,
        ⟨some 4, .mv (.tmp 45), none⟩] [4] []) <|
     .ret)
     (.skip)) <|
  .seq (.region [⟨some 46, .mv (.tmp 0), none⟩,
     ⟨some 47, .nilc (.tmp 46), none⟩,
     ⟨some 48, .fieldAddr 0 (.tmp 47), none⟩,
     ⟨some 49, .load true 2 (.tmp 48), none⟩,
     ⟨some 50, .mv (.tmp 1), none⟩,
     ⟨some 51, .call (.func F.spec_l02Field) [(.tmp 49), (.tmp 50)] [], none⟩,
     ⟨some 52, .mv (.tmp 51), none⟩,
     ⟨some 53, .mv (.tmp 0), some (52, true)⟩,
     ⟨some 54, .nilc (.tmp 53), some (52, true)⟩,
     ⟨some 55, .fieldAddr 2 (.tmp 54), some (52, true)⟩,
     ⟨some 56, .load false 1 (.tmp 55), some (52, true)⟩,
     ⟨some 57, .mv (.tmp 0), some (52, true)⟩,
     ⟨some 58, .nilc (.tmp 57), some (52, true)⟩,
     ⟨some 59, .fieldAddr 0 (.tmp 58), some (52, true)⟩,
     ⟨some 60, .load true 2 (.tmp 59), some (52, true)⟩,
     ⟨some 61, .call (.func F.spec_l09Text) [(.tmp 56), (.tmp 60)] [], some (52, true)⟩,
     ⟨some 62, .bin .eql (.tmp 61) (.const (.int .i64 (0))), some (52, true)⟩,
     ⟨some 63, .pick (.tmp 52) (.tmp 62) (.const (.bool false)), none⟩,
     ⟨some 4, .mv (.tmp 63), none⟩] [4] [46, 48, 49, 47, 50, 51, 52, 53, 54, 55, 56, 57, 58, 59, 60, 61, 62, 63]) <|
  .ret
theorem Cd.spec_l16Ok_rs : Try.f74.results.toList = [.tmp 4] := rfl
theorem Cd.spec_l16Ok_nt : Try.f74.ntmps = 64 := rfl
theorem Cd.spec_l16Ok_ok : CodeIsR Try.prog 74 Try.f74 Cd.spec_l16Ok := ⟨Try.func74, by kernel_rfl, by decide +kernel⟩
/-- loop.example/g01012/spec.l07Width -/
def Cd.spec_l07Width : ACode :=
  .seq (.region [⟨some 2, .mv (.const (.int .i64 (0))), none⟩] [0] []) <|
  .seq (.seq (.region [⟨some 3, .mv (.tmp 0), none⟩,
      ⟨some 4, .len (.tmp 3), none⟩,
      ⟨some 5, .bin .eql (.tmp 4) (.const (.int .i64 (0))), none⟩] [0, 5] []) <|
   .cond (.tmp 5)
     (.seq (.region [⟨some 2, .mv (.const (.int .i64 (20))), none⟩] [2] []) <|
     .ret)
     (.skip)) <|
  .seq (.region [⟨some 6, .mv (.tmp 0), none⟩,
     ⟨some 7, .idxSl 1 (.tmp 6) (.const (.int .i64 (0))), none⟩,
     ⟨some 8, .fieldAddr 0 (.tmp 7), none⟩,
     ⟨some 9, .load false 1 (.tmp 8), none⟩,
     ⟨some 10, .len (.tmp 9), none⟩,
     ⟨some 2, .mv (.tmp 10), none⟩] [2] []) <|
  .ret
theorem Cd.spec_l07Width_rs : Try.f75.results.toList = [.tmp 2] := rfl
theorem Cd.spec_l07Width_nt : Try.f75.ntmps = 11 := rfl
theorem Cd.spec_l07Width_ok : CodeIsR Try.prog 75 Try.f75 Cd.spec_l07Width := ⟨Try.func75, by kernel_rfl, by decide +kernel⟩
/-- loop.example/g01012/spec.l09Ask DRAWS -/
def Cd.spec_l09Ask : ACode :=
  .seq (.region [⟨some 4, .box (.tmp 1), none⟩,
     ⟨some 6, .mv (.const (.slice none 0 0)), none⟩,
     ⟨some 7, .mv (.const (.int .i64 (0))), none⟩] [0, 2, 4] []) <|
  .seq (.region [⟨some 14, .mv (.tmp 0), none⟩,
     ⟨some 15, .load true 2 (.tmp 4), none⟩,
     ⟨some 16, .call (.func F.spec_l07Keys) [(.tmp 14), (.tmp 15)] [], none⟩,
     ⟨some 13, .mv (.tmp 16), none⟩,
     ⟨some 17, .extract (.tmp 13) 0, none⟩,
     ⟨some 18, .extract (.tmp 13) 1, none⟩,
     ⟨some 8, .mv (.tmp 17), none⟩,
     ⟨some 9, .mv (.tmp 18), none⟩] [2, 4, 8, 9] []) <|
  .seq (.seq (.region [⟨some 19, .mv (.tmp 9), none⟩,
      ⟨some 20, .bin .neq (.tmp 19) (.const (.int .i64 (0))), none⟩,
      ⟨some 21, .mv (.tmp 20), none⟩,
      ⟨some 22, .mv (.tmp 9), some (21, true)⟩,
      ⟨some 23, .bin .neq (.tmp 22) (.const (.int .i64 (8))), some (21, true)⟩,
      ⟨some 24, .pick (.tmp 21) (.tmp 23) (.const (.bool false)), none⟩] [2, 4, 8, 9, 24] []) <|
   .cond (.tmp 24)
     (.seq (.region [⟨some 25, .mv (.tmp 9), none⟩,
        ⟨some 6, .mv (.const (.slice none 0 0)), none⟩,
        ⟨some 7, .mv (.tmp 25), none⟩] [6, 7] []) <|
     .ret)
     (.skip)) <|
  .seq (.region [⟨some 10, .mv (.const (.int .i64 (0))), none⟩] [2, 4, 8, 9, 10] []) <|
  .seq (.seq (.region [⟨some 11, .mv (.const (.int .i64 (0))), none⟩] [2, 4, 8, 9, 10, 11] []) <|
   .block 0 (
     .loop (
       .seq (.seq (.region [⟨some 26, .mv (.tmp 11), none⟩,
           ⟨some 27, .mv (.tmp 2), none⟩,
           ⟨some 28, .len (.tmp 27), none⟩,
           ⟨some 29, .bin .lss (.tmp 26) (.tmp 28), none⟩] [2, 4, 8, 9, 10, 11, 29] []) <|
        .cond (.tmp 29)
          (.skip)
          (.exit 0)) <|
       .seq (.block 1 (
          .seq (.region [⟨some 32, .mv (.tmp 2), none⟩,
             ⟨some 33, .mv (.tmp 11), none⟩,
             ⟨some 34, .idxSl 1 (.tmp 32) (.tmp 33), none⟩,
             ⟨some 35, .load false 1 (.tmp 34), none⟩,
             ⟨some 36, .load true 2 (.tmp 4), none⟩,
             ⟨some 37, .call (.func F.spec_l09Text) [(.tmp 35), (.tmp 36)] [], none⟩,
             ⟨some 12, .mv (.tmp 37), none⟩] [2, 4, 8, 9, 10, 11, 12] [32, 33, 35, 36, 34, 37]) <|
          .seq (.seq (.region [⟨some 38, .mv (.tmp 12), none⟩,
              ⟨some 39, .bin .eql (.tmp 38) (.const (.int .i64 (2))), none⟩,
              ⟨some 40, .mv (.tmp 39), none⟩,
              ⟨some 41, .mv (.tmp 10), some (40, false)⟩,
              ⟨some 42, .bin .eql (.tmp 41) (.const (.int .i64 (0))), some (40, false)⟩,
              ⟨some 43, .pick (.tmp 40) (.const (.bool true)) (.tmp 42), none⟩] [2, 4, 8, 9, 10, 11, 12, 43] []) <|
           .cond (.tmp 43)
             (.region [⟨some 44, .mv (.tmp 12), none⟩,
               ⟨some 10, .mv (.tmp 44), none⟩] [2, 4, 8, 9, 10, 11] [])
             (.skip)) <|
          .seq (.region [⟨some 45, .mv (.tmp 10), none⟩,
             ⟨some 46, .bin .eql (.tmp 45) (.const (.int .i64 (2))), none⟩] [2, 4, 8, 9, 10, 11, 46] []) <|
          .cond (.tmp 46)
            (.exit 0)
            (.skip))) <|
       .region [⟨some 30, .mv (.tmp 11), none⟩,
         ⟨some 31, .bin .add (.tmp 30) (.const (.int .i64 (1))), none⟩,
         ⟨some 11, .mv (.tmp 31), none⟩] [2, 4, 8, 9, 10, 11] []))) <|
  .seq (.seq (.region [⟨some 47, .mv (.tmp 10), none⟩,
      ⟨some 48, .bin .neq (.tmp 47) (.const (.int .i64 (0))), none⟩] [8, 9, 10, 48] []) <|
   .cond (.tmp 48)
     (.seq (.region [⟨some 49, .mv (.tmp 10), none⟩,
        ⟨some 6, .mv (.const (.slice none 0 0)), none⟩,
        ⟨some 7, .mv (.tmp 49), none⟩] [6, 7] []) <|
     .ret)
     (.skip)) <|
  .seq (.region [⟨some 50, .mv (.tmp 8), none⟩,
     ⟨some 51, .mv (.tmp 9), none⟩,
     ⟨some 6, .mv (.tmp 50), none⟩,
     ⟨some 7, .mv (.tmp 51), none⟩] [6, 7] []) <|
  .ret
theorem Cd.spec_l09Ask_rs : Try.f76.results.toList = [.tmp 6, .tmp 7] := rfl
theorem Cd.spec_l09Ask_nt : Try.f76.ntmps = 52 := rfl
theorem Cd.spec_l09Ask_ok : CodeIsR Try.prog 76 Try.f76 Cd.spec_l09Ask := ⟨Try.func76, by kernel_rfl, by decide +kernel⟩
/-- loop.example/g01012/impl.isField -/
def Cd.impl_isField : ACode :=
  .seq (.region [⟨some 2, .box (.tmp 0), none⟩,
     ⟨some 4, .mv (.const (.bool false)), none⟩] [1, 2] []) <|
  .seq (.region [⟨some 5, .fieldAddr 0 (.tmp 2), none⟩,
     ⟨some 6, .load false 1 (.tmp 5), none⟩,
     ⟨some 7, .bin .leq (.const (.int .i64 (0))) (.tmp 6), none⟩,
     ⟨some 8, .mv (.tmp 7), none⟩,
     ⟨some 9, .fieldAddr 0 (.tmp 2), some (8, true)⟩,
     ⟨some 10, .load false 1 (.tmp 9), some (8, true)⟩,
     ⟨some 11, .fieldAddr 1 (.tmp 2), some (8, true)⟩,
     ⟨some 12, .load false 1 (.tmp 11), some (8, true)⟩,
     ⟨some 13, .bin .lss (.tmp 10) (.tmp 12), some (8, true)⟩,
     ⟨some 14, .pick (.tmp 8) (.tmp 13) (.const (.bool false)), none⟩,
     ⟨some 15, .mv (.tmp 14), none⟩,
     ⟨some 16, .fieldAddr 1 (.tmp 2), some (15, true)⟩,
     ⟨some 17, .load false 1 (.tmp 16), some (15, true)⟩,
     ⟨some 18, .mv (.tmp 1), some (15, true)⟩,
     ⟨some 19, .bin .leq (.tmp 17) (.tmp 18), some (15, true)⟩,
     ⟨some 20, .pick (.tmp 15) (.tmp 19) (.const (.bool false)), none⟩,
     ⟨some 4, .mv (.tmp 20), none⟩] [4] []) <|
  .ret
theorem Cd.impl_isField_rs : Try.f77.results.toList = [.tmp 4] := rfl
theorem Cd.impl_isField_nt : Try.f77.ntmps = 21 := rfl
theorem Cd.impl_isField_ok : CodeIsR Try.prog 77 Try.f77 Cd.impl_isField := ⟨Try.func77, by kernel_rfl, by decide +kernel⟩
/-- loop.example/g01012/impl.isNumberField -/
def Cd.impl_isNumberField : ACode :=
  .seq (.region [⟨some 2, .box (.tmp 0), none⟩,
     ⟨some 4, .mv (.const (.bool false)), none⟩] [1, 2] []) <|
  .seq (.region [⟨some 5, .load true 2 (.tmp 2), none⟩,
     ⟨some 6, .mv (.tmp 1), none⟩,
     ⟨some 7, .call (.func F.impl_isField) [(.tmp 5), (.tmp 6)] [], none⟩,
     ⟨some 8, .mv (.tmp 7), none⟩,
     ⟨some 9, .fieldAddr 1 (.tmp 2), some (8, true)⟩,
     ⟨some 10, .load false 1 (.tmp 9), some (8, true)⟩,
     ⟨some 11, .fieldAddr 0 (.tmp 2), some (8, true)⟩,
     ⟨some 12, .load false 1 (.tmp 11), some (8, true)⟩,
     ⟨some 13, .bin .sub (.tmp 10) (.tmp 12), some (8, true)⟩,
     ⟨some 14, .bin .leq (.tmp 13) (.const (.int .i64 (12))), some (8, true)⟩,
     ⟨some 15, .pick (.tmp 8) (.tmp 14) (.const (.bool false)), none⟩,
     ⟨some 4, .mv (.tmp 15), none⟩] [4] []) <|
  .ret
theorem Cd.impl_isNumberField_rs : Try.f78.results.toList = [.tmp 4] := rfl
theorem Cd.impl_isNumberField_nt : Try.f78.ntmps = 16 := rfl
theorem Cd.impl_isNumberField_ok : CodeIsR Try.prog 78 Try.f78 Cd.impl_isNumberField := ⟨Try.func78, by kernel_rfl, by decide +kernel⟩
/-- loop.example/g01012/impl.areCharacters -/
def Cd.impl_areCharacters : ACode :=
  .seq (.region [⟨some 2, .mv (.const (.bool false)), none⟩] [0] []) <|
  .seq (.seq (.region [⟨some 3, .mv (.const (.int .i64 (0))), none⟩] [0, 3] []) <|
   .block 0 (
     .loop (
       .seq (.seq (.region [⟨some 4, .mv (.tmp 3), none⟩,
           ⟨some 5, .mv (.tmp 0), none⟩,
           ⟨some 6, .lenS (.tmp 5), none⟩,
           ⟨some 7, .bin .lss (.tmp 4) (.tmp 6), none⟩] [0, 3, 7] []) <|
        .cond (.tmp 7)
          (.skip)
          (.exit 0)) <|
       .seq (.block 1 (
          .seq (.region [⟨some 10, .mv (.tmp 0), none⟩,
             ⟨some 11, .mv (.tmp 3), none⟩,
             ⟨some 12, .idxStr (.tmp 10) (.tmp 11), none⟩,
             ⟨some 13, .call (.func F.impl_isCharacter) [(.tmp 12)] [], none⟩,
             ⟨some 14, .un .not (.tmp 13), none⟩] [0, 3, 14] []) <|
          .cond (.tmp 14)
            (.seq (.region [⟨some 2, .mv (.const (.bool false)), none⟩] [2] []) <|
            .ret)
            (.skip))) <|
       .region [⟨some 8, .mv (.tmp 3), none⟩,
         ⟨some 9, .bin .add (.tmp 8) (.const (.int .i64 (1))), none⟩,
         ⟨some 3, .mv (.tmp 9), none⟩] [0, 3] []))) <|
  .seq (.region [⟨some 2, .mv (.const (.bool true)), none⟩] [2] []) <|
  .ret
theorem Cd.impl_areCharacters_rs : Try.f79.results.toList = [.tmp 2] := rfl
theorem Cd.impl_areCharacters_nt : Try.f79.ntmps = 15 := rfl
theorem Cd.impl_areCharacters_ok : CodeIsR Try.prog 79 Try.f79 Cd.impl_areCharacters := ⟨Try.func79, by kernel_rfl, by decide +kernel⟩
/-- loop.example/g01012/impl.SelectBetween -/
def Cd.impl_SelectBetween : ACode :=
  .seq (.region [⟨some 5, .box (.tmp 1), none⟩,
     ⟨some 6, .box (.tmp 2), none⟩,
     ⟨some 7, .box (.tmp 3), none⟩,
     ⟨some 8, .mv (.const (.slice none 0 0)), none⟩,
     ⟨some 9, .mv (.const (.int .i64 (0))), none⟩] [0, 5, 6, 7] []) <|
  .seq (.seq (.region [⟨some 11, .load true 2 (.tmp 5), none⟩,
      ⟨some 12, .load false 1 (.tmp 6), none⟩,
      ⟨some 13, .load false 1 (.tmp 7), none⟩,
      ⟨some 14, .bslice 1 2 [.v (.string ⟨#[]⟩)] [(0, (.tmp 12)), (1, (.tmp 13))], none⟩,
      ⟨some 15, .mv (.tmp 0), none⟩,
      ⟨some 16, .bslice 1 1 [.v (.slice none 0 0)] [(0, (.tmp 15))], none⟩,
      ⟨some 17, .call (.func F.impl_collateCode) [(.tmp 11), (.const (.bool true)), (.tmp 14), (.tmp 16)] [], none⟩,
      ⟨some 10, .mv (.tmp 17), none⟩] [0, 5, 6, 7, 10] []) <|
   .seq (.region [⟨some 18, .mv (.tmp 10), none⟩,
      ⟨some 19, .bin .neq (.tmp 18) (.const (.int .i64 (0))), none⟩] [0, 5, 6, 7, 10, 19] []) <|
   .cond (.tmp 19)
     (.seq (.region [⟨some 20, .mv (.tmp 10), none⟩,
        ⟨some 8, .mv (.const (.slice none 0 0)), none⟩,
        ⟨some 9, .mv (.tmp 20), none⟩] [8, 9] []) <|
     .ret)
     (.skip)) <|
  .seq (.region [⟨some 21, .mv (.tmp 0), none⟩,
     ⟨some 22, .call (.func F.impl_newDeck) [(.tmp 21)] [], none⟩,
     ⟨some 23, .mkfn F.impl_SelectBetween_1 [(.tmp 5), (.tmp 6), (.tmp 7)], none⟩,
     ⟨some 24, .call (.func F.slices_DeleteFunc___impl_Card_impl_Card_) [(.tmp 22), (.tmp 23)] [0], none⟩,
     ⟨some 8, .mv (.tmp 24), none⟩,
     ⟨some 9, .mv (.const (.int .i64 (0))), none⟩] [8, 9] []) <|
  .ret
theorem Cd.impl_SelectBetween_rs : Try.f80.results.toList = [.tmp 8, .tmp 9] := rfl
theorem Cd.impl_SelectBetween_nt : Try.f80.ntmps = 25 := rfl
theorem Cd.impl_SelectBetween_ok : CodeIsR Try.prog 80 Try.f80 Cd.impl_SelectBetween := ⟨Try.func80, by kernel_rfl, by decide +kernel⟩
/-- slices.IndexFunc[[]int64,int64] -/
def Cd.slices_IndexFunc___int64_int64_ : ACode :=
  .seq (.region [⟨some 4, .mv (.const (.int .i64 (0))), none⟩] [0, 1] []) <|
  .seq (.seq (.region [⟨some 6, .mv (.tmp 0), none⟩,
      ⟨some 7, .len (.tmp 6), none⟩,
      ⟨some 8, .mv (.const (.int .i64 (0))), none⟩] [0, 1, 7, 8] []) <|
   .block 0 (
     .loop (
       .seq (.region [⟨some 9, .bin .lss (.tmp 8) (.tmp 7), none⟩] [0, 1, 7, 8, 9] []) <|
       .seq (.cond (.tmp 9)
          (.skip)
          (.exit 0)) <|
       .seq (.block 1 (
          .seq (.region [⟨some 10, .mv (.tmp 8), none⟩,
             ⟨some 5, .mv (.tmp 10), none⟩] [0, 1, 5, 7, 8] []) <|
          .seq (.region [⟨some 11, .mv (.tmp 1), none⟩,
             ⟨some 12, .mv (.tmp 0), none⟩,
             ⟨some 13, .mv (.tmp 5), none⟩,
             ⟨some 14, .idxSl 1 (.tmp 12) (.tmp 13), none⟩,
             ⟨some 15, .load false 1 (.tmp 14), none⟩,
             ⟨some 16, .call (.tmp 11) [(.tmp 15)] [], none⟩] [0, 1, 5, 7, 8, 16] []) <|
          .cond (.tmp 16)
            (.seq (.region [⟨some 17, .mv (.tmp 5), none⟩,
               ⟨some 4, .mv (.tmp 17), none⟩] [4] []) <|
            .ret)
            (.skip))) <|
       .region [⟨some 18, .bin .add (.tmp 8) (.const (.int .i64 (1))), none⟩,
         ⟨some 8, .mv (.tmp 18), none⟩] [0, 1, 7, 8] []))) <|
  .seq (.region [⟨some 4, .mv (.const (.int .i64 (-1))), none⟩] [4] []) <|
  .ret
theorem Cd.slices_IndexFunc___int64_int64__rs : Try.f81.results.toList = [.tmp 4] := rfl
theorem Cd.slices_IndexFunc___int64_int64__nt : Try.f81.ntmps = 19 := rfl
theorem Cd.slices_IndexFunc___int64_int64__ok : CodeIsR Try.prog 81 Try.f81 Cd.slices_IndexFunc___int64_int64_ := ⟨Try.func81, by kernel_rfl, by decide +kernel⟩
/-- loop.example/g01012/spec.l02Field -/
def Cd.spec_l02Field : ACode :=
  .seq (.region [⟨some 2, .box (.tmp 0), none⟩,
     ⟨some 4, .mv (.const (.bool false)), none⟩] [1, 2] []) <|
  .seq (.region [⟨some 5, .fieldAddr 0 (.tmp 2), none⟩,
     ⟨some 6, .load false 1 (.tmp 5), none⟩,
     ⟨some 7, .bin .geq (.tmp 6) (.const (.int .i64 (0))), none⟩,
     ⟨some 8, .mv (.tmp 7), none⟩,
     ⟨some 9, .fieldAddr 0 (.tmp 2), some (8, true)⟩,
     ⟨some 10, .load false 1 (.tmp 9), some (8, true)⟩,
     ⟨some 11, .fieldAddr 1 (.tmp 2), some (8, true)⟩,
     ⟨some 12, .load false 1 (.tmp 11), some (8, true)⟩,
     ⟨some 13, .bin .lss (.tmp 10) (.tmp 12), some (8, true)⟩,
     ⟨some 14, .pick (.tmp 8) (.tmp 13) (.const (.bool false)), none⟩,
     ⟨some 15, .mv (.tmp 14), none⟩,
     ⟨some 16, .fieldAddr 1 (.tmp 2), some (15, true)⟩,
     ⟨some 17, .load false 1 (.tmp 16), some (15, true)⟩,
     ⟨some 18, .mv (.tmp 1), some (15, true)⟩,
     ⟨some 19, .bin .leq (.tmp 17) (.tmp 18), some (15, true)⟩,
     ⟨some 20, .pick (.tmp 15) (.tmp 19) (.const (.bool false)), none⟩,
     ⟨some 4, .mv (.tmp 20), none⟩] [4] []) <|
  .ret
theorem Cd.spec_l02Field_rs : Try.f82.results.toList = [.tmp 4] := rfl
theorem Cd.spec_l02Field_nt : Try.f82.ntmps = 21 := rfl
theorem Cd.spec_l02Field_ok : CodeIsR Try.prog 82 Try.f82 Cd.spec_l02Field := ⟨Try.func82, by kernel_rfl, by decide +kernel⟩
/-- loop.example/g01012/spec.l09Text -/
def Cd.spec_l09Text : ACode :=
  .seq (.region [⟨some 3, .box (.tmp 1), none⟩,
     ⟨some 4, .mv (.const (.int .i64 (0))), none⟩] [0, 3] []) <|
  .seq (.seq (.region [⟨some 6, .mv (.tmp 0), none⟩,
      ⟨some 7, .lenS (.tmp 6), none⟩,
      ⟨some 8, .fieldAddr 1 (.tmp 3), none⟩,
      ⟨some 9, .load false 1 (.tmp 8), none⟩,
      ⟨some 10, .fieldAddr 0 (.tmp 3), none⟩,
      ⟨some 11, .load false 1 (.tmp 10), none⟩,
      ⟨some 12, .bin .sub (.tmp 9) (.tmp 11), none⟩,
      ⟨some 13, .bin .neq (.tmp 7) (.tmp 12), none⟩] [0, 13] []) <|
   .cond (.tmp 13)
     (.seq (.region [⟨some 4, .mv (.const (.int .i64 (2))), none⟩] [4] []) <|
     .ret)
     (.skip)) <|
  .seq (.seq (.region [⟨some 5, .mv (.const (.int .i64 (0))), none⟩] [0, 5] []) <|
   .block 0 (
     .loop (
       .seq (.seq (.region [⟨some 14, .mv (.tmp 5), none⟩,
           ⟨some 15, .mv (.tmp 0), none⟩,
           ⟨some 16, .lenS (.tmp 15), none⟩,
           ⟨some 17, .bin .lss (.tmp 14) (.tmp 16), none⟩] [0, 5, 17] []) <|
        .cond (.tmp 17)
          (.skip)
          (.exit 0)) <|
       .seq (.block 1 (
          .seq (.region [⟨some 20, .mv (.tmp 0), none⟩,
             ⟨some 21, .mv (.tmp 5), none⟩,
             ⟨some 22, .idxStr (.tmp 20) (.tmp 21), none⟩,
             ⟨some 23, .call (.func F.spec_l03Code) [(.tmp 22)] [], none⟩,
             ⟨some 24, .bin .lss (.tmp 23) (.const (.int .i64 (0))), none⟩] [0, 5, 24] []) <|
          .cond (.tmp 24)
            (.seq (.region [⟨some 4, .mv (.const (.int .i64 (7))), none⟩] [4] []) <|
            .ret)
            (.skip))) <|
       .region [⟨some 18, .mv (.tmp 5), none⟩,
         ⟨some 19, .bin .add (.tmp 18) (.const (.int .i64 (1))), none⟩,
         ⟨some 5, .mv (.tmp 19), none⟩] [0, 5] []))) <|
  .seq (.region [⟨some 4, .mv (.const (.int .i64 (0))), none⟩] [4] []) <|
  .ret
theorem Cd.spec_l09Text_rs : Try.f83.results.toList = [.tmp 4] := rfl
theorem Cd.spec_l09Text_nt : Try.f83.ntmps = 25 := rfl
theorem Cd.spec_l09Text_ok : CodeIsR Try.prog 83 Try.f83 Cd.spec_l09Text := ⟨Try.func83, by kernel_rfl, by decide +kernel⟩
/-- loop.example/g01012/spec.l07Keys DRAWS -/
def Cd.spec_l07Keys : ACode :=
  .seq (.region [⟨some 3, .box (.tmp 1), none⟩,
     ⟨some 4, .mv (.const (.slice none 0 0)), none⟩,
     ⟨some 5, .mv (.const (.int .i64 (0))), none⟩] [0, 3] []) <|
  .seq (.seq (.region [⟨some 10, .mv (.tmp 0), none⟩,
      ⟨some 11, .call (.func F.spec_l02Deck) [(.tmp 10)] [], none⟩,
      ⟨some 12, .un .not (.tmp 11), none⟩] [0, 3, 12] []) <|
   .cond (.tmp 12)
     (.seq (.region [⟨some 4, .mv (.const (.slice none 0 0)), none⟩,
        ⟨some 5, .mv (.const (.int .i64 (1))), none⟩] [4, 5] []) <|
     .ret)
     (.skip)) <|
  .seq (.seq (.region [⟨some 13, .load true 2 (.tmp 3), none⟩,
      ⟨some 14, .mv (.tmp 0), none⟩,
      ⟨some 15, .call (.func F.spec_l07Width) [(.tmp 14)] [], none⟩,
      ⟨some 16, .call (.func F.spec_l02Field) [(.tmp 13), (.tmp 15)] [], none⟩,
      ⟨some 17, .un .not (.tmp 16), none⟩] [0, 3, 17] [13, 14, 15, 16, 17]) <|
   .cond (.tmp 17)
     (.seq (.region [⟨some 4, .mv (.const (.slice none 0 0)), none⟩,
        ⟨some 5, .mv (.const (.int .i64 (2))), none⟩] [4, 5] []) <|
     .ret)
     (.skip)) <|
  .seq (.naming 6 (
     .region [⟨some 18, .bslice 1 0 [.v (.string ⟨#[]⟩)] [], none⟩,
       ⟨some 6, .mv (.tmp 18), none⟩] [0, 3, 6] [])) <|
  .seq (.seq (.region [⟨some 7, .mv (.const (.int .i64 (0))), none⟩] [0, 3, 6, 7] []) <|
   .block 0 (
     .loop (
       .seq (.seq (.region [⟨some 19, .mv (.tmp 7), none⟩,
           ⟨some 20, .mv (.tmp 0), none⟩,
           ⟨some 21, .len (.tmp 20), none⟩,
           ⟨some 22, .bin .lss (.tmp 19) (.tmp 21), none⟩] [0, 3, 6, 7, 22] []) <|
        .cond (.tmp 22)
          (.skip)
          (.exit 0)) <|
       .seq (.block 1 (
          .seq (.region [⟨some 26, .mv (.tmp 0), none⟩,
             ⟨some 27, .mv (.tmp 7), none⟩,
             ⟨some 28, .idxSl 1 (.tmp 26) (.tmp 27), none⟩,
             ⟨some 29, .load true 2 (.tmp 3), none⟩,
             ⟨some 30, .call (.func F.spec_l03Key) [(.tmp 28), (.tmp 29)] [], none⟩,
             ⟨some 25, .mv (.tmp 30), none⟩,
             ⟨some 31, .extract (.tmp 25) 0, none⟩,
             ⟨some 32, .extract (.tmp 25) 1, none⟩,
             ⟨some 8, .mv (.tmp 31), none⟩,
             ⟨some 9, .mv (.tmp 32), none⟩] [0, 3, 6, 7, 8, 9] [26, 27, 29, 28, 30, 25, 31, 32, 8]) <|
          .seq (.seq (.region [⟨some 33, .mv (.tmp 9), none⟩,
              ⟨some 34, .un .not (.tmp 33), none⟩] [0, 3, 6, 7, 8, 34] []) <|
           .cond (.tmp 34)
             (.seq (.region [⟨some 4, .mv (.const (.slice none 0 0)), none⟩,
                ⟨some 5, .mv (.const (.int .i64 (8))), none⟩] [4, 5] []) <|
             .ret)
             (.skip)) <|
          .naming 6 (
            .region [⟨some 35, .mv (.tmp 6), none⟩,
              ⟨some 36, .mv (.tmp 8), none⟩,
              ⟨some 37, .bslice 1 1 [.v (.string ⟨#[]⟩)] [(0, (.tmp 36))], none⟩,
              ⟨some 38, .append 1 16 (.tmp 35) (.tmp 37), none⟩,
              ⟨some 6, .mv (.tmp 38), none⟩] [0, 3, 6, 7] []))) <|
       .region [⟨some 23, .mv (.tmp 7), none⟩,
         ⟨some 24, .bin .add (.tmp 23) (.const (.int .i64 (1))), none⟩,
         ⟨some 7, .mv (.tmp 24), none⟩] [0, 3, 6, 7] []))) <|
  .seq (.region [⟨some 39, .mv (.tmp 6), none⟩,
     ⟨some 4, .mv (.tmp 39), none⟩,
     ⟨some 5, .mv (.const (.int .i64 (0))), none⟩] [4, 5] []) <|
  .ret
theorem Cd.spec_l07Keys_rs : Try.f84.results.toList = [.tmp 4, .tmp 5] := rfl
theorem Cd.spec_l07Keys_nt : Try.f84.ntmps = 40 := rfl
theorem Cd.spec_l07Keys_ok : CodeIsR Try.prog 84 Try.f84 Cd.spec_l07Keys := ⟨Try.func84, by kernel_rfl, by decide +kernel⟩
/-- loop.example/g01012/impl.isCharacter -/
def Cd.impl_isCharacter : ACode :=
  .seq (.region [⟨some 2, .mv (.const (.bool false)), none⟩] [0] []) <|
  .seq (.region [⟨some 3, .mv (.tmp 0), none⟩,
     ⟨some 4, .call (.func F.strings_IndexByte) [(.const (.string ⟨#[32, 38, 65, 66, 67, 68, 69, 70, 71, 72, 73, 45, 74, 75, 76, 77, 78, 79, 80, 81, 82, 47, 83, 84, 85, 86, 87, 88, 89, 90, 48, 49, 50, 51, 52, 53, 54, 55, 56, 57]⟩)), (.tmp 3)] [], none⟩,
     ⟨some 5, .bin .geq (.tmp 4) (.const (.int .i64 (0))), none⟩,
     ⟨some 2, .mv (.tmp 5), none⟩] [2] []) <|
  .ret
theorem Cd.impl_isCharacter_rs : Try.f85.results.toList = [.tmp 2] := rfl
theorem Cd.impl_isCharacter_nt : Try.f85.ntmps = 6 := rfl
theorem Cd.impl_isCharacter_ok : CodeIsR Try.prog 85 Try.f85 Cd.impl_isCharacter := ⟨Try.func85, by kernel_rfl, by decide +kernel⟩
/-- loop.example/g01012/impl.collateCode DRAWS -/
def Cd.impl_collateCode : ACode :=
  .seq (.region [⟨some 4, .box (.tmp 0), none⟩,
     ⟨some 8, .mv (.const (.int .i64 (0))), none⟩] [1, 2, 3, 4] []) <|
  .seq (.seq (.region [⟨some 19, .mv (.tmp 3), none⟩,
      ⟨some 20, .len (.tmp 19), none⟩,
      ⟨some 21, .mv (.const (.int .i64 (0))), none⟩] [1, 2, 3, 4, 19, 20, 21] []) <|
   .block 0 (
     .loop (
       .seq (.region [⟨some 22, .bin .lss (.tmp 21) (.tmp 20), none⟩] [1, 2, 3, 4, 19, 20, 21, 22] []) <|
       .seq (.cond (.tmp 22)
          (.skip)
          (.exit 0)) <|
       .seq (.block 1 (
          .seq (.region [⟨some 23, .idxSl 1 (.tmp 19) (.tmp 21), none⟩,
             ⟨some 24, .load false 1 (.tmp 23), none⟩,
             ⟨some 10, .mv (.tmp 24), none⟩] [1, 2, 3, 4, 10, 19, 20, 21] []) <|
          .seq (.region [⟨some 25, .mv (.tmp 10), none⟩,
             ⟨some 26, .call (.func F.impl_ValidDeck) [(.tmp 25)] [], none⟩,
             ⟨some 27, .un .not (.tmp 26), none⟩] [1, 2, 3, 4, 19, 20, 21, 27] []) <|
          .cond (.tmp 27)
            (.seq (.region [⟨some 8, .mv (.const (.int .i64 (1))), none⟩] [8] []) <|
            .ret)
            (.skip))) <|
       .region [⟨some 28, .bin .add (.tmp 21) (.const (.int .i64 (1))), none⟩,
         ⟨some 21, .mv (.tmp 28), none⟩] [1, 2, 3, 4, 19, 20, 21] []))) <|
  .seq (.seq (.region [⟨some 29, .mv (.tmp 1), none⟩,
      ⟨some 30, .un .not (.tmp 29), none⟩] [2, 3, 4, 30] []) <|
   .cond (.tmp 30)
     (.seq (.region [⟨some 8, .mv (.const (.int .i64 (1))), none⟩] [8] []) <|
     .ret)
     (.skip)) <|
  .seq (.seq (.region [⟨some 31, .mv (.tmp 3), none⟩,
      ⟨some 32, .len (.tmp 31), none⟩,
      ⟨some 33, .mv (.const (.int .i64 (0))), none⟩] [2, 3, 4, 31, 32, 33] []) <|
   .block 2 (
     .loop (
       .seq (.region [⟨some 34, .bin .lss (.tmp 33) (.tmp 32), none⟩] [2, 3, 4, 31, 32, 33, 34] []) <|
       .seq (.cond (.tmp 34)
          (.skip)
          (.exit 2)) <|
       .seq (.block 3 (
          .seq (.region [⟨some 35, .idxSl 1 (.tmp 31) (.tmp 33), none⟩,
             ⟨some 36, .load false 1 (.tmp 35), none⟩,
             ⟨some 12, .mv (.tmp 36), none⟩] [2, 3, 4, 12, 31, 32, 33] []) <|
          .seq (.region [⟨some 37, .load true 2 (.tmp 4), none⟩,
             ⟨some 38, .mv (.tmp 12), none⟩,
             ⟨some 39, .call (.func F.impl_deckColumns) [(.tmp 38)] [], none⟩,
             ⟨some 40, .call (.func F.impl_isField) [(.tmp 37), (.tmp 39)] [], none⟩,
             ⟨some 41, .un .not (.tmp 40), none⟩] [2, 3, 4, 31, 32, 33, 41] [37, 38, 39, 40, 41]) <|
          .cond (.tmp 41)
            (.seq (.region [⟨some 8, .mv (.const (.int .i64 (2))), none⟩] [8] []) <|
            .ret)
            (.skip))) <|
       .region [⟨some 42, .bin .add (.tmp 33) (.const (.int .i64 (1))), none⟩,
         ⟨some 33, .mv (.tmp 42), none⟩] [2, 3, 4, 31, 32, 33] []))) <|
  .seq (.seq (.region [⟨some 43, .mv (.tmp 2), none⟩,
      ⟨some 44, .len (.tmp 43), none⟩,
      ⟨some 45, .mv (.const (.int .i64 (0))), none⟩] [2, 3, 4, 43, 44, 45] []) <|
   .block 4 (
     .loop (
       .seq (.region [⟨some 46, .bin .lss (.tmp 45) (.tmp 44), none⟩] [2, 3, 4, 43, 44, 45, 46] []) <|
       .seq (.cond (.tmp 46)
          (.skip)
          (.exit 4)) <|
       .seq (.block 5 (
          .seq (.region [⟨some 47, .idxSl 1 (.tmp 43) (.tmp 45), none⟩,
             ⟨some 48, .load false 1 (.tmp 47), none⟩,
             ⟨some 14, .mv (.tmp 48), none⟩] [2, 3, 4, 14, 43, 44, 45] []) <|
          .seq (.region [⟨some 49, .mv (.tmp 14), none⟩,
             ⟨some 50, .lenS (.tmp 49), none⟩,
             ⟨some 51, .fieldAddr 1 (.tmp 4), none⟩,
             ⟨some 52, .load false 1 (.tmp 51), none⟩,
             ⟨some 53, .fieldAddr 0 (.tmp 4), none⟩,
             ⟨some 54, .load false 1 (.tmp 53), none⟩,
             ⟨some 55, .bin .sub (.tmp 52) (.tmp 54), none⟩,
             ⟨some 56, .bin .neq (.tmp 50) (.tmp 55), none⟩] [2, 3, 4, 43, 44, 45, 56] []) <|
          .cond (.tmp 56)
            (.seq (.region [⟨some 8, .mv (.const (.int .i64 (2))), none⟩] [8] []) <|
            .ret)
            (.skip))) <|
       .region [⟨some 57, .bin .add (.tmp 45) (.const (.int .i64 (1))), none⟩,
         ⟨some 45, .mv (.tmp 57), none⟩] [2, 3, 4, 43, 44, 45] []))) <|
  .seq (.seq (.region [⟨some 58, .mv (.tmp 2), none⟩,
      ⟨some 59, .len (.tmp 58), none⟩,
      ⟨some 60, .mv (.const (.int .i64 (0))), none⟩] [3, 4, 58, 59, 60] []) <|
   .block 6 (
     .loop (
       .seq (.region [⟨some 61, .bin .lss (.tmp 60) (.tmp 59), none⟩] [3, 4, 58, 59, 60, 61] []) <|
       .seq (.cond (.tmp 61)
          (.skip)
          (.exit 6)) <|
       .seq (.block 7 (
          .seq (.region [⟨some 62, .idxSl 1 (.tmp 58) (.tmp 60), none⟩,
             ⟨some 63, .load false 1 (.tmp 62), none⟩,
             ⟨some 16, .mv (.tmp 63), none⟩] [3, 4, 16, 58, 59, 60] []) <|
          .seq (.region [⟨some 64, .mv (.tmp 16), none⟩,
             ⟨some 65, .call (.func F.impl_areCharacters) [(.tmp 64)] [], none⟩,
             ⟨some 66, .un .not (.tmp 65), none⟩] [3, 4, 58, 59, 60, 66] []) <|
          .cond (.tmp 66)
            (.seq (.region [⟨some 8, .mv (.const (.int .i64 (7))), none⟩] [8] []) <|
            .ret)
            (.skip))) <|
       .region [⟨some 67, .bin .add (.tmp 60) (.const (.int .i64 (1))), none⟩,
         ⟨some 60, .mv (.tmp 67), none⟩] [3, 4, 58, 59, 60] []))) <|
  .seq (.seq (.region [⟨some 68, .mv (.tmp 3), none⟩,
      ⟨some 69, .len (.tmp 68), none⟩,
      ⟨some 70, .mv (.const (.int .i64 (0))), none⟩] [4, 68, 69, 70] []) <|
   .block 8 (
     .loop (
       .seq (.region [⟨some 71, .bin .lss (.tmp 70) (.tmp 69), none⟩] [4, 68, 69, 70, 71] []) <|
       .seq (.cond (.tmp 71)
          (.skip)
          (.exit 8)) <|
       .seq (.block 9 (
          .seq (.region [⟨some 72, .idxSl 1 (.tmp 68) (.tmp 70), none⟩,
             ⟨some 73, .load false 1 (.tmp 72), none⟩,
             ⟨some 18, .mv (.tmp 73), none⟩] [4, 18, 68, 69, 70] []) <|
          .seq (.region [⟨some 74, .mv (.tmp 18), none⟩,
             ⟨some 75, .load true 2 (.tmp 4), none⟩,
             ⟨some 76, .call (.func F.impl_haveField) [(.tmp 74), (.tmp 75)] [], none⟩,
             ⟨some 77, .un .not (.tmp 76), none⟩] [4, 68, 69, 70, 77] []) <|
          .cond (.tmp 77)
            (.seq (.region [⟨some 8, .mv (.const (.int .i64 (8))), none⟩] [8] []) <|
            .ret)
            (.skip))) <|
       .region [⟨some 78, .bin .add (.tmp 70) (.const (.int .i64 (1))), none⟩,
         ⟨some 70, .mv (.tmp 78), none⟩] [4, 68, 69, 70] []))) <|
  .seq (.region [⟨some 8, .mv (.const (.int .i64 (0))), none⟩] [8] []) <|
  .ret
theorem Cd.impl_collateCode_rs : Try.f86.results.toList = [.tmp 8] := rfl
theorem Cd.impl_collateCode_nt : Try.f86.ntmps = 79 := rfl
theorem Cd.impl_collateCode_ok : CodeIsR Try.prog 86 Try.f86 Cd.impl_collateCode := ⟨Try.func86, by kernel_rfl, by decide +kernel⟩
/-- slices.DeleteFunc[[]loop.example/g01012/impl.Card,loop.example/g01012/impl.Card] -/
def Cd.slices_DeleteFunc___impl_Card_impl_Card_ : ACode :=
  .seq (.region [⟨some 4, .mv (.const (.slice none 0 0)), none⟩] [0, 1] []) <|
  .seq (.region [⟨some 8, .mv (.tmp 0), none⟩,
     ⟨some 9, .mv (.tmp 1), none⟩,
     ⟨some 10, .call (.func F.slices_IndexFunc___impl_Card_impl_Card_) [(.tmp 8), (.tmp 9)] [], none⟩,
     ⟨some 5, .mv (.tmp 10), none⟩] [0, 1, 5] []) <|
  .seq (.seq (.region [⟨some 11, .mv (.tmp 5), none⟩,
      ⟨some 12, .bin .eql (.tmp 11) (.const (.int .i64 (-1))), none⟩] [0, 1, 5, 12] []) <|
   .cond (.tmp 12)
     (.seq (.region [⟨some 13, .mv (.tmp 0), none⟩,
        ⟨some 4, .mv (.tmp 13), none⟩] [4] []) <|
     .ret)
     (.skip)) <|
  .seq (.seq (.region [⟨some 14, .mv (.tmp 5), none⟩,
      ⟨some 15, .bin .add (.tmp 14) (.const (.int .i64 (1))), none⟩,
      ⟨some 6, .mv (.tmp 15), none⟩] [0, 1, 5, 6] []) <|
   .block 0 (
     .loop (
       .seq (.seq (.region [⟨some 16, .mv (.tmp 6), none⟩,
           ⟨some 17, .mv (.tmp 0), none⟩,
           ⟨some 18, .len (.tmp 17), none⟩,
           ⟨some 19, .bin .lss (.tmp 16) (.tmp 18), none⟩] [0, 1, 5, 6, 19] []) <|
        .cond (.tmp 19)
          (.skip)
          (.exit 0)) <|
       .seq (.block 1 (
          .seq (.region [⟨some 22, .mv (.tmp 0), none⟩,
             ⟨some 23, .mv (.tmp 6), none⟩,
             ⟨some 24, .idxSl 1 (.tmp 22) (.tmp 23), none⟩,
             ⟨some 25, .load true 1 (.tmp 24), none⟩,
             ⟨some 7, .alloc [.v (.slice none 0 0)], none⟩,
             ⟨none, .store 1 (.tmp 7) (.tmp 25), none⟩] [0, 1, 5, 6, 7] []) <|
          .seq (.region [⟨some 26, .mv (.tmp 1), none⟩,
             ⟨some 27, .load true 1 (.tmp 7), none⟩,
             ⟨some 28, .call (.tmp 26) [(.tmp 27)] [], none⟩,
             ⟨some 29, .un .not (.tmp 28), none⟩] [0, 1, 5, 6, 7, 29] []) <|
          .cond (.tmp 29)
            (.seq (.region [⟨some 30, .mv (.tmp 0), none⟩,
               ⟨some 31, .mv (.tmp 5), none⟩,
               ⟨some 32, .load true 1 (.tmp 7), none⟩,
               ⟨some 33, .idxSl 1 (.tmp 30) (.tmp 31), none⟩,
               ⟨none, .store 1 (.tmp 33) (.tmp 32), none⟩] [0, 1, 5, 6] []) <|
            .region [⟨some 34, .mv (.tmp 5), none⟩,
              ⟨some 35, .bin .add (.tmp 34) (.const (.int .i64 (1))), none⟩,
              ⟨some 5, .mv (.tmp 35), none⟩] [0, 1, 5, 6] [])
            (.skip))) <|
       .region [⟨some 20, .mv (.tmp 6), none⟩,
         ⟨some 21, .bin .add (.tmp 20) (.const (.int .i64 (1))), none⟩,
         ⟨some 6, .mv (.tmp 21), none⟩] [0, 1, 5, 6] []))) <|
  .seq (.region [⟨some 36, .mv (.tmp 0), none⟩,
     ⟨some 37, .mv (.tmp 5), none⟩,
     ⟨some 38, .slc 1 (.tmp 36) (some (.tmp 37)) none, none⟩,
     ⟨none, .clr 1 [.v (.slice none 0 0)] (.tmp 38), none⟩] [0, 5] []) <|
  .seq (.region [⟨some 39, .mv (.tmp 0), none⟩,
     ⟨some 40, .mv (.tmp 5), none⟩,
     ⟨some 41, .slc 1 (.tmp 39) none (some (.tmp 40)), none⟩,
     ⟨some 4, .mv (.tmp 41), none⟩] [4] []) <|
  .ret
theorem Cd.slices_DeleteFunc___impl_Card_impl_Card__rs : Try.f87.results.toList = [.tmp 4] := rfl
theorem Cd.slices_DeleteFunc___impl_Card_impl_Card__nt : Try.f87.ntmps = 42 := rfl
theorem Cd.slices_DeleteFunc___impl_Card_impl_Card__ok : CodeIsR Try.prog 87 Try.f87 Cd.slices_DeleteFunc___impl_Card_impl_Card_ := ⟨Try.func87, by kernel_rfl, by decide +kernel⟩
/-- loop.example/g01012/impl.SelectBetween$1 -/
def Cd.impl_SelectBetween_1 : ACode :=
  .seq (.region [⟨some 4, .box (.tmp 0), none⟩,
     ⟨some 5, .mv (.const (.bool false)), none⟩] [1, 2, 3, 4] []) <|
  .seq (.region [⟨some 6, .load true 1 (.tmp 4), none⟩,
     ⟨some 7, .load true 2 (.tmp 1), none⟩,
     ⟨some 8, .load false 1 (.tmp 2), none⟩,
     ⟨some 9, .call (.func F.impl_compareText) [(.tmp 6), (.tmp 7), (.tmp 8)] [], none⟩,
     ⟨some 10, .bin .lss (.tmp 9) (.const (.int .i64 (0))), none⟩,
     ⟨some 11, .mv (.tmp 10), none⟩,
     ⟨some 12, .load true 1 (.tmp 4), some (11, false)⟩,
     ⟨some 13, .load true 2 (.tmp 1), some (11, false)⟩,
     ⟨some 14, .load false 1 (.tmp 3), some (11, false)⟩,
     ⟨some 15, .call (.func F.impl_compareText) [(.tmp 12), (.tmp 13), (.tmp 14)] [], some (11, false)⟩,
     ⟨some 16, .bin .gtr (.tmp 15) (.const (.int .i64 (0))), some (11, false)⟩,
     ⟨some 17, .pick (.tmp 11) (.const (.bool true)) (.tmp 16), none⟩,
     ⟨some 5, .mv (.tmp 17), none⟩] [5] []) <|
  .ret
theorem Cd.impl_SelectBetween_1_rs : Try.f88.results.toList = [.tmp 5] := rfl
theorem Cd.impl_SelectBetween_1_nt : Try.f88.ntmps = 18 := rfl
theorem Cd.impl_SelectBetween_1_ok : CodeIsR Try.prog 88 Try.f88 Cd.impl_SelectBetween_1 := ⟨Try.func88, by kernel_rfl, by decide +kernel⟩
/-- loop.example/g01012/impl.compareText DRAWS -/
def Cd.impl_compareText : ACode :=
  .seq (.region [⟨some 3, .box (.tmp 0), none⟩,
     ⟨some 4, .box (.tmp 1), none⟩,
     ⟨some 6, .mv (.const (.int .i64 (0))), none⟩] [2, 3, 4] []) <|
  .seq (.region [⟨some 7, .fieldAddr 0 (.tmp 3), none⟩,
     ⟨some 8, .load false 1 (.tmp 7), none⟩,
     ⟨some 9, .fieldAddr 0 (.tmp 4), none⟩,
     ⟨some 10, .load false 1 (.tmp 9), none⟩,
     ⟨some 11, .fieldAddr 1 (.tmp 4), none⟩,
     ⟨some 12, .load false 1 (.tmp 11), none⟩,
     ⟨some 13, .slc 1 (.tmp 8) (some (.tmp 10)) (some (.tmp 12)), none⟩,
     ⟨some 14, .mv (.tmp 2), none⟩,
     ⟨some 15, .fieldAddr 1 (.tmp 4), none⟩,
     ⟨some 16, .load false 1 (.tmp 15), none⟩,
     ⟨some 17, .fieldAddr 0 (.tmp 4), none⟩,
     ⟨some 18, .load false 1 (.tmp 17), none⟩,
     ⟨some 19, .bin .sub (.tmp 16) (.tmp 18), none⟩,
     ⟨some 20, .call (.func F.impl_punchText) [(.tmp 14), (.tmp 19)] [], none⟩,
     ⟨some 21, .field false 0 1 (.tmp 20), none⟩,
     ⟨some 22, .call (.func F.impl_compareHoles) [(.tmp 13), (.tmp 21)] [], none⟩,
     ⟨some 6, .mv (.tmp 22), none⟩] [6] [7, 9, 8, 10, 11, 12, 13, 14, 15, 16, 17, 18, 19, 20, 21, 22]) <|
  .ret
theorem Cd.impl_compareText_rs : Try.f89.results.toList = [.tmp 6] := rfl
theorem Cd.impl_compareText_nt : Try.f89.ntmps = 23 := rfl
theorem Cd.impl_compareText_ok : CodeIsR Try.prog 89 Try.f89 Cd.impl_compareText := ⟨Try.func89, by kernel_rfl, by decide +kernel⟩
/-- loop.example/g01012/spec.l03Code -/
def Cd.spec_l03Code : ACode :=
  .seq (.region [⟨some 2, .mv (.const (.int .i64 (0))), none⟩] [0] []) <|
  .seq (.region [⟨some 4, .mv (.tmp 0), none⟩,
     ⟨some 5, .conv .i64 (.tmp 4), none⟩,
     ⟨some 3, .mv (.tmp 5), none⟩] [0, 3] []) <|
  .seq (.block 0 (
     .seq (.region [⟨some 7, .mv (.tmp 0), none⟩,
        ⟨some 8, .bin .eql (.tmp 7) (.const (.int .u8 (32))), none⟩,
        ⟨some 6, .mv (.tmp 8), none⟩] [0, 3, 6] []) <|
     .cond (.tmp 6)
       (.seq (.region [⟨some 2, .mv (.const (.int .i64 (0))), none⟩] [2] []) <|
       .ret)
       (.seq (.region [⟨some 10, .mv (.tmp 0), none⟩,
          ⟨some 11, .bin .eql (.tmp 10) (.const (.int .u8 (38))), none⟩,
          ⟨some 9, .mv (.tmp 11), none⟩] [0, 3, 9] []) <|
       .cond (.tmp 9)
         (.seq (.region [⟨some 2, .mv (.const (.int .i64 (1))), none⟩] [2] []) <|
         .ret)
         (.seq (.region [⟨some 13, .mv (.tmp 0), none⟩,
            ⟨some 14, .bin .eql (.tmp 13) (.const (.int .u8 (45))), none⟩,
            ⟨some 12, .mv (.tmp 14), none⟩] [0, 3, 12] []) <|
         .cond (.tmp 12)
           (.seq (.region [⟨some 2, .mv (.const (.int .i64 (2))), none⟩] [2] []) <|
           .ret)
           (.seq (.region [⟨some 16, .mv (.tmp 0), none⟩,
              ⟨some 17, .bin .eql (.tmp 16) (.const (.int .u8 (47))), none⟩,
              ⟨some 15, .mv (.tmp 17), none⟩] [0, 3, 15] []) <|
           .cond (.tmp 15)
             (.seq (.region [⟨some 18, .call (.func F.spec_l02Bit) [(.const (.int .i64 (1)))] [], none⟩,
                ⟨some 19, .bin .or (.const (.int .i64 (4))) (.tmp 18), none⟩,
                ⟨some 2, .mv (.tmp 19), none⟩] [2] []) <|
             .ret)
             (.seq (.region [⟨some 21, .mv (.tmp 0), none⟩,
                ⟨some 22, .call (.func F.spec_l01Digit) [(.tmp 21)] [], none⟩,
                ⟨some 20, .mv (.tmp 22), none⟩] [0, 3, 20] []) <|
             .cond (.tmp 20)
               (.seq (.region [⟨some 23, .mv (.tmp 3), none⟩,
                  ⟨some 24, .bin .sub (.tmp 23) (.const (.int .i64 (48))), none⟩,
                  ⟨some 25, .call (.func F.spec_l02Bit) [(.tmp 24)] [], none⟩,
                  ⟨some 2, .mv (.tmp 25), none⟩] [2] []) <|
               .ret)
               (.seq (.region [⟨some 27, .mv (.tmp 0), none⟩,
                  ⟨some 28, .bin .geq (.tmp 27) (.const (.int .u8 (65))), none⟩,
                  ⟨some 29, .mv (.tmp 28), none⟩,
                  ⟨some 30, .mv (.tmp 0), some (29, true)⟩,
                  ⟨some 31, .bin .leq (.tmp 30) (.const (.int .u8 (73))), some (29, true)⟩,
                  ⟨some 32, .pick (.tmp 29) (.tmp 31) (.const (.bool false)), none⟩,
                  ⟨some 26, .mv (.tmp 32), none⟩] [0, 3, 26] []) <|
               .cond (.tmp 26)
                 (.seq (.region [⟨some 33, .mv (.tmp 3), none⟩,
                    ⟨some 34, .bin .sub (.tmp 33) (.const (.int .i64 (65))), none⟩,
                    ⟨some 35, .bin .add (.tmp 34) (.const (.int .i64 (1))), none⟩,
                    ⟨some 36, .call (.func F.spec_l02Bit) [(.tmp 35)] [], none⟩,
                    ⟨some 37, .bin .or (.const (.int .i64 (1))) (.tmp 36), none⟩,
                    ⟨some 2, .mv (.tmp 37), none⟩] [2] []) <|
                 .ret)
                 (.seq (.region [⟨some 39, .mv (.tmp 0), none⟩,
                    ⟨some 40, .bin .geq (.tmp 39) (.const (.int .u8 (74))), none⟩,
                    ⟨some 41, .mv (.tmp 40), none⟩,
                    ⟨some 42, .mv (.tmp 0), some (41, true)⟩,
                    ⟨some 43, .bin .leq (.tmp 42) (.const (.int .u8 (82))), some (41, true)⟩,
                    ⟨some 44, .pick (.tmp 41) (.tmp 43) (.const (.bool false)), none⟩,
                    ⟨some 38, .mv (.tmp 44), none⟩] [0, 3, 38] []) <|
                 .cond (.tmp 38)
                   (.seq (.region [⟨some 45, .mv (.tmp 3), none⟩,
                      ⟨some 46, .bin .sub (.tmp 45) (.const (.int .i64 (74))), none⟩,
                      ⟨some 47, .bin .add (.tmp 46) (.const (.int .i64 (1))), none⟩,
                      ⟨some 48, .call (.func F.spec_l02Bit) [(.tmp 47)] [], none⟩,
                      ⟨some 49, .bin .or (.const (.int .i64 (2))) (.tmp 48), none⟩,
                      ⟨some 2, .mv (.tmp 49), none⟩] [2] []) <|
                   .ret)
                   (.seq (.region [⟨some 51, .mv (.tmp 0), none⟩,
                      ⟨some 52, .bin .geq (.tmp 51) (.const (.int .u8 (83))), none⟩,
                      ⟨some 53, .mv (.tmp 52), none⟩,
                      ⟨some 54, .mv (.tmp 0), some (53, true)⟩,
                      ⟨some 55, .bin .leq (.tmp 54) (.const (.int .u8 (90))), some (53, true)⟩,
                      ⟨some 56, .pick (.tmp 53) (.tmp 55) (.const (.bool false)), none⟩,
                      ⟨some 50, .mv (.tmp 56), none⟩] [3, 50] []) <|
                   .cond (.tmp 50)
                     (.seq (.region [⟨some 57, .mv (.tmp 3), none⟩,
                        ⟨some 58, .bin .sub (.tmp 57) (.const (.int .i64 (83))), none⟩,
                        ⟨some 59, .bin .add (.tmp 58) (.const (.int .i64 (2))), none⟩,
                        ⟨some 60, .call (.func F.spec_l02Bit) [(.tmp 59)] [], none⟩,
                        ⟨some 61, .bin .or (.const (.int .i64 (4))) (.tmp 60), none⟩,
                        ⟨some 2, .mv (.tmp 61), none⟩] [2] []) <|
                     .ret)
                     (.skip)))))))))) <|
  .seq (.region [⟨some 2, .mv (.const (.int .i64 (-1))), none⟩] [2] []) <|
  .ret
theorem Cd.spec_l03Code_rs : Try.f90.results.toList = [.tmp 2] := rfl
theorem Cd.spec_l03Code_nt : Try.f90.ntmps = 62 := rfl
theorem Cd.spec_l03Code_ok : CodeIsR Try.prog 90 Try.f90 Cd.spec_l03Code := ⟨Try.func90, by kernel_rfl, by decide +kernel⟩
/-- loop.example/g01012/spec.l03Key -/
def Cd.spec_l03Key : ACode :=
  .seq (.region [⟨some 3, .box (.tmp 1), none⟩,
     ⟨some 4, .mv (.const (.string ⟨#[]⟩)), none⟩,
     ⟨some 5, .mv (.const (.bool false)), none⟩] [0, 3] []) <|
  .seq (.region [⟨some 6, .mv (.tmp 0), none⟩,
     ⟨some 7, .load true 2 (.tmp 3), none⟩,
     ⟨some 8, .call (.func F.spec_l02Part) [(.tmp 6), (.tmp 7)] [], none⟩,
     ⟨some 9, .call (.func F.spec_l03Text) [(.tmp 8)] [], none⟩,
     ⟨some 10, .extract (.tmp 9) 0, none⟩,
     ⟨some 11, .extract (.tmp 9) 1, none⟩,
     ⟨some 4, .mv (.tmp 10), none⟩,
     ⟨some 5, .mv (.tmp 11), none⟩] [4, 5] []) <|
  .ret
theorem Cd.spec_l03Key_rs : Try.f91.results.toList = [.tmp 4, .tmp 5] := rfl
theorem Cd.spec_l03Key_nt : Try.f91.ntmps = 12 := rfl
theorem Cd.spec_l03Key_ok : CodeIsR Try.prog 91 Try.f91 Cd.spec_l03Key := ⟨Try.func91, by kernel_rfl, by decide +kernel⟩
/-- strings.IndexByte -/
def Cd.strings_IndexByte : ACode :=
  .seq (.region [⟨some 4, .mv (.const (.int .i64 (0))), none⟩] [0, 1] []) <|
  .seq (.region [⟨some 5, .mv (.tmp 0), none⟩,
     ⟨some 6, .mv (.tmp 1), none⟩,
     ⟨some 7, .call (.func F.internal_stringslite_IndexByte) [(.tmp 5), (.tmp 6)] [], none⟩,
     ⟨some 4, .mv (.tmp 7), none⟩] [4] []) <|
  .ret
theorem Cd.strings_IndexByte_rs : Try.f92.results.toList = [.tmp 4] := rfl
theorem Cd.strings_IndexByte_nt : Try.f92.ntmps = 8 := rfl
theorem Cd.strings_IndexByte_ok : CodeIsR Try.prog 92 Try.f92 Cd.strings_IndexByte := ⟨Try.func92, by kernel_rfl, by decide +kernel⟩
/-- loop.example/g01012/impl.haveField -/
def Cd.impl_haveField : ACode :=
  .seq (.region [⟨some 3, .box (.tmp 1), none⟩,
     ⟨some 4, .mv (.const (.bool false)), none⟩] [0, 3] []) <|
  .seq (.region [⟨some 5, .mv (.tmp 0), none⟩,
     ⟨some 6, .mkfn F.impl_haveField_1 [(.tmp 3)], none⟩,
     ⟨some 7, .call (.func F.slices_ContainsFunc___impl_Card_impl_Card_) [(.tmp 5), (.tmp 6)] [], none⟩,
     ⟨some 8, .un .not (.tmp 7), none⟩,
     ⟨some 4, .mv (.tmp 8), none⟩] [4] []) <|
  .ret
theorem Cd.impl_haveField_rs : Try.f93.results.toList = [.tmp 4] := rfl
theorem Cd.impl_haveField_nt : Try.f93.ntmps = 9 := rfl
theorem Cd.impl_haveField_ok : CodeIsR Try.prog 93 Try.f93 Cd.impl_haveField := ⟨Try.func93, by kernel_rfl, by decide +kernel⟩
/-- slices.IndexFunc[[]loop.example/g01012/impl.Card,loop.example/g01012/impl.Card] -/
def Cd.slices_IndexFunc___impl_Card_impl_Card_ : ACode :=
  .seq (.region [⟨some 4, .mv (.const (.int .i64 (0))), none⟩] [0, 1] []) <|
  .seq (.seq (.region [⟨some 6, .mv (.tmp 0), none⟩,
      ⟨some 7, .len (.tmp 6), none⟩,
      ⟨some 8, .mv (.const (.int .i64 (0))), none⟩] [0, 1, 7, 8] []) <|
   .block 0 (
     .loop (
       .seq (.region [⟨some 9, .bin .lss (.tmp 8) (.tmp 7), none⟩] [0, 1, 7, 8, 9] []) <|
       .seq (.cond (.tmp 9)
          (.skip)
          (.exit 0)) <|
       .seq (.block 1 (
          .seq (.region [⟨some 10, .mv (.tmp 8), none⟩,
             ⟨some 5, .mv (.tmp 10), none⟩] [0, 1, 5, 7, 8] []) <|
          .seq (.region [⟨some 11, .mv (.tmp 1), none⟩,
             ⟨some 12, .mv (.tmp 0), none⟩,
             ⟨some 13, .mv (.tmp 5), none⟩,
             ⟨some 14, .idxSl 1 (.tmp 12) (.tmp 13), none⟩,
             ⟨some 15, .load true 1 (.tmp 14), none⟩,
             ⟨some 16, .call (.tmp 11) [(.tmp 15)] [], none⟩] [0, 1, 5, 7, 8, 16] []) <|
          .cond (.tmp 16)
            (.seq (.region [⟨some 17, .mv (.tmp 5), none⟩,
               ⟨some 4, .mv (.tmp 17), none⟩] [4] []) <|
            .ret)
            (.skip))) <|
       .region [⟨some 18, .bin .add (.tmp 8) (.const (.int .i64 (1))), none⟩,
         ⟨some 8, .mv (.tmp 18), none⟩] [0, 1, 7, 8] []))) <|
  .seq (.region [⟨some 4, .mv (.const (.int .i64 (-1))), none⟩] [4] []) <|
  .ret
theorem Cd.slices_IndexFunc___impl_Card_impl_Card__rs : Try.f94.results.toList = [.tmp 4] := rfl
theorem Cd.slices_IndexFunc___impl_Card_impl_Card__nt : Try.f94.ntmps = 19 := rfl
theorem Cd.slices_IndexFunc___impl_Card_impl_Card__ok : CodeIsR Try.prog 94 Try.f94 Cd.slices_IndexFunc___impl_Card_impl_Card_ := ⟨Try.func94, by kernel_rfl, by decide +kernel⟩
/-- loop.example/g01012/impl.compareHoles DRAWS -/
def Cd.impl_compareHoles : ACode :=
  .seq (.region [⟨some 4, .mv (.const (.int .i64 (0))), none⟩] [0, 1] []) <|
  .seq (.seq (.region [⟨some 8, .mv (.tmp 0), none⟩,
      ⟨some 9, .len (.tmp 8), none⟩,
      ⟨some 10, .mv (.const (.int .i64 (0))), none⟩] [0, 1, 9, 10] []) <|
   .block 0 (
     .loop (
       .seq (.region [⟨some 11, .bin .lss (.tmp 10) (.tmp 9), none⟩] [0, 1, 9, 10, 11] []) <|
       .seq (.cond (.tmp 11)
          (.skip)
          (.exit 0)) <|
       .seq (.block 1 (
          .seq (.region [⟨some 12, .mv (.tmp 10), none⟩,
             ⟨some 5, .mv (.tmp 12), none⟩] [0, 1, 5, 9, 10] []) <|
          .seq (.region [⟨some 13, .mv (.tmp 0), none⟩,
             ⟨some 14, .mv (.tmp 5), none⟩,
             ⟨some 15, .idxSl 1 (.tmp 13) (.tmp 14), none⟩,
             ⟨some 16, .load false 1 (.tmp 15), none⟩,
             ⟨some 17, .call (.func F.impl_rankOf) [(.tmp 16)] [], none⟩,
             ⟨some 18, .mv (.tmp 1), none⟩,
             ⟨some 19, .mv (.tmp 5), none⟩,
             ⟨some 20, .idxSl 1 (.tmp 18) (.tmp 19), none⟩,
             ⟨some 21, .load false 1 (.tmp 20), none⟩,
             ⟨some 22, .call (.func F.impl_rankOf) [(.tmp 21)] [], none⟩,
             ⟨some 6, .mv (.tmp 17), none⟩,
             ⟨some 7, .mv (.tmp 22), none⟩] [0, 1, 6, 7, 9, 10] [13, 14, 16, 17, 15, 18, 19, 20, 21, 22, 6]) <|
          .block 2 (
            .seq (.region [⟨some 24, .mv (.tmp 6), none⟩,
               ⟨some 25, .mv (.tmp 7), none⟩,
               ⟨some 26, .bin .lss (.tmp 24) (.tmp 25), none⟩,
               ⟨some 23, .mv (.tmp 26), none⟩] [0, 1, 6, 7, 9, 10, 23] []) <|
            .cond (.tmp 23)
              (.seq (.region [⟨some 4, .mv (.const (.int .i64 (-1))), none⟩] [4] []) <|
              .ret)
              (.seq (.region [⟨some 28, .mv (.tmp 6), none⟩,
                 ⟨some 29, .mv (.tmp 7), none⟩,
                 ⟨some 30, .bin .gtr (.tmp 28) (.tmp 29), none⟩,
                 ⟨some 27, .mv (.tmp 30), none⟩] [0, 1, 9, 10, 27] []) <|
              .cond (.tmp 27)
                (.seq (.region [⟨some 4, .mv (.const (.int .i64 (1))), none⟩] [4] []) <|
                .ret)
                (.skip))))) <|
       .region [⟨some 31, .bin .add (.tmp 10) (.const (.int .i64 (1))), none⟩,
         ⟨some 10, .mv (.tmp 31), none⟩] [0, 1, 9, 10] []))) <|
  .seq (.region [⟨some 4, .mv (.const (.int .i64 (0))), none⟩] [4] []) <|
  .ret
theorem Cd.impl_compareHoles_rs : Try.f95.results.toList = [.tmp 4] := rfl
theorem Cd.impl_compareHoles_nt : Try.f95.ntmps = 32 := rfl
theorem Cd.impl_compareHoles_ok : CodeIsR Try.prog 95 Try.f95 Cd.impl_compareHoles := ⟨Try.func95, by kernel_rfl, by decide +kernel⟩
/-- loop.example/g01012/impl.punchText DRAWS -/
def Cd.impl_punchText : ACode :=
  .seq (.region [⟨some 4, .alloc [.v (.slice none 0 0)], none⟩] [0, 1, 4] []) <|
  .seq (.region [⟨some 7, .mv (.tmp 1), none⟩,
     ⟨some 8, .call (.func F.impl_blank) [(.tmp 7)] [], none⟩,
     ⟨some 5, .alloc [.v (.slice none 0 0)], none⟩,
     ⟨none, .store 1 (.tmp 5) (.tmp 8), none⟩] [0, 4, 5] []) <|
  .seq (.seq (.region [⟨some 6, .mv (.const (.int .i64 (0))), none⟩] [0, 4, 5, 6] []) <|
   .block 0 (
     .loop (
       .seq (.seq (.region [⟨some 9, .mv (.tmp 6), none⟩,
           ⟨some 10, .mv (.tmp 0), none⟩,
           ⟨some 11, .lenS (.tmp 10), none⟩,
           ⟨some 12, .bin .lss (.tmp 9) (.tmp 11), none⟩] [0, 4, 5, 6, 12] []) <|
        .cond (.tmp 12)
          (.skip)
          (.exit 0)) <|
       .seq (.block 1 (
          .region [⟨some 15, .fieldAddr 0 (.tmp 5), none⟩,
            ⟨some 16, .load false 1 (.tmp 15), none⟩,
            ⟨some 17, .mv (.tmp 6), none⟩,
            ⟨some 18, .mv (.tmp 0), none⟩,
            ⟨some 19, .mv (.tmp 6), none⟩,
            ⟨some 20, .idxStr (.tmp 18) (.tmp 19), none⟩,
            ⟨some 21, .call (.func F.impl_codeOf) [(.tmp 20)] [], none⟩,
            ⟨some 22, .idxSl 1 (.tmp 16) (.tmp 17), none⟩,
            ⟨none, .store 1 (.tmp 22) (.tmp 21), none⟩] [0, 4, 5, 6] [15, 17, 16, 18, 19, 20, 21])) <|
       .region [⟨some 13, .mv (.tmp 6), none⟩,
         ⟨some 14, .bin .add (.tmp 13) (.const (.int .i64 (1))), none⟩,
         ⟨some 6, .mv (.tmp 14), none⟩] [0, 4, 5, 6] []))) <|
  .seq (.region [⟨some 23, .load true 1 (.tmp 5), none⟩,
     ⟨none, .store 1 (.tmp 4) (.tmp 23), none⟩] [4] []) <|
  .ret
theorem Cd.impl_punchText_rs : Try.f96.results.toList = [.cell 4 59] := rfl
theorem Cd.impl_punchText_nt : Try.f96.ntmps = 24 := rfl
theorem Cd.impl_punchText_ok : CodeIsR Try.prog 96 Try.f96 Cd.impl_punchText := ⟨Try.func96, by kernel_rfl, by decide +kernel⟩
/-- loop.example/g01012/spec.l02Bit -/
def Cd.spec_l02Bit : ACode :=
  .seq (.region [⟨some 2, .mv (.const (.int .i64 (0))), none⟩] [0] []) <|
  .seq (.block 0 (
     .seq (.region [⟨some 4, .mv (.tmp 0), none⟩,
        ⟨some 5, .bin .eql (.tmp 4) (.const (.int .i64 (12))), none⟩,
        ⟨some 3, .mv (.tmp 5), none⟩] [0, 3] []) <|
     .cond (.tmp 3)
       (.seq (.region [⟨some 2, .mv (.const (.int .i64 (1))), none⟩] [2] []) <|
       .ret)
       (.seq (.region [⟨some 7, .mv (.tmp 0), none⟩,
          ⟨some 8, .bin .eql (.tmp 7) (.const (.int .i64 (11))), none⟩,
          ⟨some 6, .mv (.tmp 8), none⟩] [0, 6] []) <|
       .cond (.tmp 6)
         (.seq (.region [⟨some 2, .mv (.const (.int .i64 (2))), none⟩] [2] []) <|
         .ret)
         (.seq (.region [⟨some 10, .mv (.tmp 0), none⟩,
            ⟨some 11, .call (.func F.spec_l00In) [(.tmp 10), (.const (.int .i64 (0))), (.const (.int .i64 (9)))] [], none⟩,
            ⟨some 9, .mv (.tmp 11), none⟩] [0, 9] []) <|
         .cond (.tmp 9)
           (.seq (.region [⟨some 12, .mv (.tmp 0), none⟩,
              ⟨some 13, .conv .u64 (.tmp 12), none⟩,
              ⟨some 14, .bin .shl (.const (.int .i64 (4))) (.tmp 13), none⟩,
              ⟨some 2, .mv (.tmp 14), none⟩] [2] []) <|
           .ret)
           (.skip))))) <|
  .seq (.region [⟨some 2, .mv (.const (.int .i64 (0))), none⟩] [2] []) <|
  .ret
theorem Cd.spec_l02Bit_rs : Try.f97.results.toList = [.tmp 2] := rfl
theorem Cd.spec_l02Bit_nt : Try.f97.ntmps = 15 := rfl
theorem Cd.spec_l02Bit_ok : CodeIsR Try.prog 97 Try.f97 Cd.spec_l02Bit := ⟨Try.func97, by kernel_rfl, by decide +kernel⟩
/-- loop.example/g01012/spec.l01Digit -/
def Cd.spec_l01Digit : ACode :=
  .seq (.region [⟨some 2, .mv (.const (.bool false)), none⟩] [0] []) <|
  .seq (.region [⟨some 3, .mv (.tmp 0), none⟩,
     ⟨some 4, .bin .geq (.tmp 3) (.const (.int .u8 (48))), none⟩,
     ⟨some 5, .mv (.tmp 4), none⟩,
     ⟨some 6, .mv (.tmp 0), some (5, true)⟩,
     ⟨some 7, .bin .leq (.tmp 6) (.const (.int .u8 (57))), some (5, true)⟩,
     ⟨some 8, .pick (.tmp 5) (.tmp 7) (.const (.bool false)), none⟩,
     ⟨some 2, .mv (.tmp 8), none⟩] [2] []) <|
  .ret
theorem Cd.spec_l01Digit_rs : Try.f98.results.toList = [.tmp 2] := rfl
theorem Cd.spec_l01Digit_nt : Try.f98.ntmps = 9 := rfl
theorem Cd.spec_l01Digit_ok : CodeIsR Try.prog 98 Try.f98 Cd.spec_l01Digit := ⟨Try.func98, by kernel_rfl, by decide +kernel⟩
/-- loop.example/g01012/spec.l03Text -/
def Cd.spec_l03Text : ACode :=
  .seq (.region [⟨some 2, .mv (.const (.string ⟨#[]⟩)), none⟩,
     ⟨some 3, .mv (.const (.bool false)), none⟩] [0] []) <|
  .seq (.naming 4 (
     .region [⟨some 8, .bslice 1 0 [.v (.int .u8 (0))] [], none⟩,
       ⟨some 4, .mv (.tmp 8), none⟩] [0, 4] [])) <|
  .seq (.seq (.region [⟨some 5, .mv (.const (.int .i64 (0))), none⟩] [0, 4, 5] []) <|
   .block 0 (
     .loop (
       .seq (.seq (.region [⟨some 9, .mv (.tmp 5), none⟩,
           ⟨some 10, .mv (.tmp 0), none⟩,
           ⟨some 11, .len (.tmp 10), none⟩,
           ⟨some 12, .bin .lss (.tmp 9) (.tmp 11), none⟩] [0, 4, 5, 12] []) <|
        .cond (.tmp 12)
          (.skip)
          (.exit 0)) <|
       .seq (.block 1 (
          .seq (.region [⟨some 16, .mv (.tmp 0), none⟩,
             ⟨some 17, .mv (.tmp 5), none⟩,
             ⟨some 18, .idxSl 1 (.tmp 16) (.tmp 17), none⟩,
             ⟨some 19, .load false 1 (.tmp 18), none⟩,
             ⟨some 20, .call (.func F.spec_l03Char) [(.tmp 19)] [], none⟩,
             ⟨some 15, .mv (.tmp 20), none⟩,
             ⟨some 21, .extract (.tmp 15) 0, none⟩,
             ⟨some 22, .extract (.tmp 15) 1, none⟩,
             ⟨some 6, .mv (.tmp 21), none⟩,
             ⟨some 7, .mv (.tmp 22), none⟩] [0, 4, 5, 6, 7] []) <|
          .seq (.seq (.region [⟨some 23, .mv (.tmp 7), none⟩,
              ⟨some 24, .un .not (.tmp 23), none⟩] [0, 4, 5, 6, 24] []) <|
           .cond (.tmp 24)
             (.seq (.region [⟨some 2, .mv (.const (.string ⟨#[]⟩)), none⟩,
                ⟨some 3, .mv (.const (.bool false)), none⟩] [2, 3] []) <|
             .ret)
             (.skip)) <|
          .naming 4 (
            .region [⟨some 25, .mv (.tmp 4), none⟩,
              ⟨some 26, .mv (.tmp 6), none⟩,
              ⟨some 27, .bslice 1 1 [.v (.int .u8 (0))] [(0, (.tmp 26))], none⟩,
              ⟨some 28, .append 1 1 (.tmp 25) (.tmp 27), none⟩,
              ⟨some 4, .mv (.tmp 28), none⟩] [0, 4, 5] []))) <|
       .region [⟨some 13, .mv (.tmp 5), none⟩,
         ⟨some 14, .bin .add (.tmp 13) (.const (.int .i64 (1))), none⟩,
         ⟨some 5, .mv (.tmp 14), none⟩] [0, 4, 5] []))) <|
  .seq (.region [⟨some 29, .mv (.tmp 4), none⟩,
     ⟨some 30, .b2s (.tmp 29), none⟩,
     ⟨some 2, .mv (.tmp 30), none⟩,
     ⟨some 3, .mv (.const (.bool true)), none⟩] [2, 3] []) <|
  .ret
theorem Cd.spec_l03Text_rs : Try.f99.results.toList = [.tmp 2, .tmp 3] := rfl
theorem Cd.spec_l03Text_nt : Try.f99.ntmps = 31 := rfl
theorem Cd.spec_l03Text_ok : CodeIsR Try.prog 99 Try.f99 Cd.spec_l03Text := ⟨Try.func99, by kernel_rfl, by decide +kernel⟩
/-- loop.example/g01012/spec.l02Part DRAWS -/
def Cd.spec_l02Part : ACode :=
  .seq (.region [⟨some 3, .box (.tmp 1), none⟩,
     ⟨some 4, .mv (.const (.slice none 0 0)), none⟩] [0, 3] []) <|
  .seq (.region [⟨some 5, .mv (.tmp 0), none⟩,
     ⟨some 6, .nilc (.tmp 5), none⟩,
     ⟨some 7, .fieldAddr 0 (.tmp 6), none⟩,
     ⟨some 8, .load false 1 (.tmp 7), none⟩,
     ⟨some 9, .fieldAddr 0 (.tmp 3), none⟩,
     ⟨some 10, .load false 1 (.tmp 9), none⟩,
     ⟨some 11, .fieldAddr 1 (.tmp 3), none⟩,
     ⟨some 12, .load false 1 (.tmp 11), none⟩,
     ⟨some 13, .slc 1 (.tmp 8) (some (.tmp 10)) (some (.tmp 12)), none⟩,
     ⟨some 4, .mv (.tmp 13), none⟩] [4] [5, 7, 8, 6, 9, 10, 11, 12, 13]) <|
  .ret
theorem Cd.spec_l02Part_rs : Try.f100.results.toList = [.tmp 4] := rfl
theorem Cd.spec_l02Part_nt : Try.f100.ntmps = 14 := rfl
theorem Cd.spec_l02Part_ok : CodeIsR Try.prog 100 Try.f100 Cd.spec_l02Part := ⟨Try.func100, by kernel_rfl, by decide +kernel⟩
/-- internal/stringslite.IndexByte -/
def Cd.internal_stringslite_IndexByte : ACode :=
  .seq (.region [⟨some 4, .mv (.const (.int .i64 (0))), none⟩] [0, 1] []) <|
  .seq (.region [⟨some 5, .mv (.tmp 0), none⟩,
     ⟨some 6, .mv (.tmp 1), none⟩,
     ⟨some 7, .idxB (.tmp 5) (.tmp 6), none⟩,
     ⟨some 4, .mv (.tmp 7), none⟩] [4] []) <|
  .ret
theorem Cd.internal_stringslite_IndexByte_rs : Try.f101.results.toList = [.tmp 4] := rfl
theorem Cd.internal_stringslite_IndexByte_nt : Try.f101.ntmps = 8 := rfl
theorem Cd.internal_stringslite_IndexByte_ok : CodeIsR Try.prog 101 Try.f101 Cd.internal_stringslite_IndexByte := ⟨Try.func101, by kernel_rfl, by decide +kernel⟩
/-- slices.ContainsFunc[[]loop.example/g01012/impl.Card,loop.example/g01012/impl.Card] -/
def Cd.slices_ContainsFunc___impl_Card_impl_Card_ : ACode :=
  .seq (.region [⟨some 4, .mv (.const (.bool false)), none⟩] [0, 1] []) <|
  .seq (.region [⟨some 5, .mv (.tmp 0), none⟩,
     ⟨some 6, .mv (.tmp 1), none⟩,
     ⟨some 7, .call (.func F.slices_IndexFunc___impl_Card_impl_Card_) [(.tmp 5), (.tmp 6)] [], none⟩,
     ⟨some 8, .bin .geq (.tmp 7) (.const (.int .i64 (0))), none⟩,
     ⟨some 4, .mv (.tmp 8), none⟩] [4] []) <|
  .ret
theorem Cd.slices_ContainsFunc___impl_Card_impl_Card__rs : Try.f102.results.toList = [.tmp 4] := rfl
theorem Cd.slices_ContainsFunc___impl_Card_impl_Card__nt : Try.f102.ntmps = 9 := rfl
theorem Cd.slices_ContainsFunc___impl_Card_impl_Card__ok : CodeIsR Try.prog 102 Try.f102 Cd.slices_ContainsFunc___impl_Card_impl_Card_ := ⟨Try.func102, by kernel_rfl, by decide +kernel⟩
/-- loop.example/g01012/impl.haveField$1 -/
def Cd.impl_haveField_1 : ACode :=
  .seq (.region [⟨some 2, .box (.tmp 0), none⟩,
     ⟨some 3, .mv (.const (.bool false)), none⟩] [1, 2] []) <|
  .seq (.region [⟨some 4, .load true 1 (.tmp 2), none⟩,
     ⟨some 5, .load true 2 (.tmp 1), none⟩,
     ⟨some 6, .call (.func F.impl_hasField) [(.tmp 4), (.tmp 5)] [], none⟩,
     ⟨some 7, .un .not (.tmp 6), none⟩,
     ⟨some 3, .mv (.tmp 7), none⟩] [3] []) <|
  .ret
theorem Cd.impl_haveField_1_rs : Try.f103.results.toList = [.tmp 3] := rfl
theorem Cd.impl_haveField_1_nt : Try.f103.ntmps = 8 := rfl
theorem Cd.impl_haveField_1_ok : CodeIsR Try.prog 103 Try.f103 Cd.impl_haveField_1 := ⟨Try.func103, by kernel_rfl, by decide +kernel⟩
/-- loop.example/g01012/impl.hasField -/
def Cd.impl_hasField : ACode :=
  .seq (.region [⟨some 2, .box (.tmp 0), none⟩,
     ⟨some 3, .box (.tmp 1), none⟩,
     ⟨some 4, .mv (.const (.bool false)), none⟩] [2, 3] []) <|
  .seq (.region [⟨some 5, .fieldAddr 0 (.tmp 2), none⟩,
     ⟨some 6, .load false 1 (.tmp 5), none⟩,
     ⟨some 7, .fieldAddr 0 (.tmp 3), none⟩,
     ⟨some 8, .load false 1 (.tmp 7), none⟩,
     ⟨some 9, .fieldAddr 1 (.tmp 3), none⟩,
     ⟨some 10, .load false 1 (.tmp 9), none⟩,
     ⟨some 11, .slc 1 (.tmp 6) (some (.tmp 8)) (some (.tmp 10)), none⟩,
     ⟨some 12, .call (.func F.impl_hasCharacters) [(.tmp 11)] [], none⟩,
     ⟨some 4, .mv (.tmp 12), none⟩] [4] []) <|
  .ret
theorem Cd.impl_hasField_rs : Try.f104.results.toList = [.tmp 4] := rfl
theorem Cd.impl_hasField_nt : Try.f104.ntmps = 13 := rfl
theorem Cd.impl_hasField_ok : CodeIsR Try.prog 104 Try.f104 Cd.impl_hasField := ⟨Try.func104, by kernel_rfl, by decide +kernel⟩
/-- loop.example/g01012/impl.rankOf -/
def Cd.impl_rankOf : ACode :=
  .seq (.region [⟨some 2, .mv (.const (.int .i64 (0))), none⟩] [0] []) <|
  .seq (.seq (.region [⟨some 3, .mv (.const (.int .i64 (0))), none⟩] [0, 3] []) <|
   .block 0 (
     .loop (
       .seq (.seq (.region [⟨some 4, .mv (.tmp 3), none⟩,
           ⟨some 5, .bin .lss (.tmp 4) (.const (.int .i64 (40))), none⟩] [0, 3, 5] []) <|
        .cond (.tmp 5)
          (.skip)
          (.exit 0)) <|
       .seq (.block 1 (
          .seq (.region [⟨some 8, .mv (.tmp 3), none⟩,
             ⟨some 9, .idxStr (.const (.string ⟨#[32, 38, 65, 66, 67, 68, 69, 70, 71, 72, 73, 45, 74, 75, 76, 77, 78, 79, 80, 81, 82, 47, 83, 84, 85, 86, 87, 88, 89, 90, 48, 49, 50, 51, 52, 53, 54, 55, 56, 57]⟩)) (.tmp 8), none⟩,
             ⟨some 10, .call (.func F.impl_codeOf) [(.tmp 9)] [], none⟩,
             ⟨some 11, .mv (.tmp 0), none⟩,
             ⟨some 12, .bin .eql (.tmp 10) (.tmp 11), none⟩] [0, 3, 12] []) <|
          .cond (.tmp 12)
            (.seq (.region [⟨some 13, .mv (.tmp 3), none⟩,
               ⟨some 2, .mv (.tmp 13), none⟩] [2] []) <|
            .ret)
            (.skip))) <|
       .region [⟨some 6, .mv (.tmp 3), none⟩,
         ⟨some 7, .bin .add (.tmp 6) (.const (.int .i64 (1))), none⟩,
         ⟨some 3, .mv (.tmp 7), none⟩] [0, 3] []))) <|
  .seq (.region [⟨some 2, .mv (.const (.int .i64 (-1))), none⟩] [2] []) <|
  .ret
theorem Cd.impl_rankOf_rs : Try.f105.results.toList = [.tmp 2] := rfl
theorem Cd.impl_rankOf_nt : Try.f105.ntmps = 14 := rfl
theorem Cd.impl_rankOf_ok : CodeIsR Try.prog 105 Try.f105 Cd.impl_rankOf := ⟨Try.func105, by kernel_rfl, by decide +kernel⟩
/-- loop.example/g01012/impl.blank -/
def Cd.impl_blank : ACode :=
  .seq (.region [⟨some 2, .alloc [.v (.slice none 0 0)], none⟩] [0, 2] []) <|
  .seq (.region [⟨some 3, .mv (.tmp 0), none⟩,
     ⟨some 4, .mk 1 8 [.v (.int .i64 (0))] (.tmp 3), none⟩,
     ⟨some 5, .build [.v (.slice none 0 0)] [(0, 1, (.tmp 4))], none⟩,
     ⟨none, .store 1 (.tmp 2) (.tmp 5), none⟩] [2] []) <|
  .ret
theorem Cd.impl_blank_rs : Try.f106.results.toList = [.cell 2 59] := rfl
theorem Cd.impl_blank_nt : Try.f106.ntmps = 6 := rfl
theorem Cd.impl_blank_ok : CodeIsR Try.prog 106 Try.f106 Cd.impl_blank := ⟨Try.func106, by kernel_rfl, by decide +kernel⟩
/-- loop.example/g01012/impl.codeOf -/
def Cd.impl_codeOf : ACode :=
  .seq (.region [⟨some 2, .mv (.const (.int .i64 (0))), none⟩] [0] []) <|
  .seq (.region [⟨some 6, .mv (.tmp 0), none⟩,
     ⟨some 7, .call (.func F.impl_CodeOf) [(.tmp 6)] [], none⟩,
     ⟨some 5, .mv (.tmp 7), none⟩,
     ⟨some 8, .extract (.tmp 5) 0, none⟩,
     ⟨some 9, .extract (.tmp 5) 1, none⟩,
     ⟨some 3, .mv (.tmp 8), none⟩,
     ⟨some 4, .mv (.tmp 9), none⟩] [3] []) <|
  .seq (.region [⟨some 10, .mv (.tmp 3), none⟩,
     ⟨some 2, .mv (.tmp 10), none⟩] [2] []) <|
  .ret
theorem Cd.impl_codeOf_rs : Try.f107.results.toList = [.tmp 2] := rfl
theorem Cd.impl_codeOf_nt : Try.f107.ntmps = 11 := rfl
theorem Cd.impl_codeOf_ok : CodeIsR Try.prog 107 Try.f107 Cd.impl_codeOf := ⟨Try.func107, by kernel_rfl, by decide +kernel⟩
/-- loop.example/g01012/spec.l03Char -/
def Cd.spec_l03Char : ACode :=
  .seq (.region [⟨some 2, .mv (.const (.int .u8 (0))), none⟩,
     ⟨some 3, .mv (.const (.bool false)), none⟩] [0] []) <|
  .seq (.region [⟨some 6, .call (.func F.spec_l03Order) [] [], none⟩,
     ⟨some 4, .mv (.tmp 6), none⟩] [0, 4] []) <|
  .seq (.seq (.region [⟨some 5, .mv (.const (.int .i64 (0))), none⟩] [0, 4, 5] []) <|
   .block 0 (
     .loop (
       .seq (.seq (.region [⟨some 7, .mv (.tmp 5), none⟩,
           ⟨some 8, .mv (.tmp 4), none⟩,
           ⟨some 9, .lenS (.tmp 8), none⟩,
           ⟨some 10, .bin .lss (.tmp 7) (.tmp 9), none⟩] [0, 4, 5, 10] []) <|
        .cond (.tmp 10)
          (.skip)
          (.exit 0)) <|
       .seq (.block 1 (
          .seq (.region [⟨some 13, .mv (.tmp 4), none⟩,
             ⟨some 14, .mv (.tmp 5), none⟩,
             ⟨some 15, .idxStr (.tmp 13) (.tmp 14), none⟩,
             ⟨some 16, .call (.func F.spec_l03Code) [(.tmp 15)] [], none⟩,
             ⟨some 17, .mv (.tmp 0), none⟩,
             ⟨some 18, .bin .eql (.tmp 16) (.tmp 17), none⟩] [0, 4, 5, 18] []) <|
          .cond (.tmp 18)
            (.seq (.region [⟨some 19, .mv (.tmp 4), none⟩,
               ⟨some 20, .mv (.tmp 5), none⟩,
               ⟨some 21, .idxStr (.tmp 19) (.tmp 20), none⟩,
               ⟨some 2, .mv (.tmp 21), none⟩,
               ⟨some 3, .mv (.const (.bool true)), none⟩] [2, 3] []) <|
            .ret)
            (.skip))) <|
       .region [⟨some 11, .mv (.tmp 5), none⟩,
         ⟨some 12, .bin .add (.tmp 11) (.const (.int .i64 (1))), none⟩,
         ⟨some 5, .mv (.tmp 12), none⟩] [0, 4, 5] []))) <|
  .seq (.region [⟨some 2, .mv (.const (.int .u8 (0))), none⟩,
     ⟨some 3, .mv (.const (.bool false)), none⟩] [2, 3] []) <|
  .ret
theorem Cd.spec_l03Char_rs : Try.f108.results.toList = [.tmp 2, .tmp 3] := rfl
theorem Cd.spec_l03Char_nt : Try.f108.ntmps = 22 := rfl
theorem Cd.spec_l03Char_ok : CodeIsR Try.prog 108 Try.f108 Cd.spec_l03Char := ⟨Try.func108, by kernel_rfl, by decide +kernel⟩
/-- loop.example/g01012/impl.hasCharacters -/
def Cd.impl_hasCharacters : ACode :=
  .seq (.region [⟨some 2, .mv (.const (.bool false)), none⟩] [0] []) <|
  .seq (.region [⟨some 3, .mv (.tmp 0), none⟩,
     ⟨some 4, .call (.func F.slices_ContainsFunc___int64_int64_) [(.tmp 3), (.func F.impl_hasCharacters_1)] [], none⟩,
     ⟨some 5, .un .not (.tmp 4), none⟩,
     ⟨some 2, .mv (.tmp 5), none⟩] [2] []) <|
  .ret
theorem Cd.impl_hasCharacters_rs : Try.f110.results.toList = [.tmp 2] := rfl
theorem Cd.impl_hasCharacters_nt : Try.f110.ntmps = 6 := rfl
theorem Cd.impl_hasCharacters_ok : CodeIsR Try.prog 110 Try.f110 Cd.impl_hasCharacters := ⟨Try.func110, by kernel_rfl, by decide +kernel⟩
/-- loop.example/g01012/impl.CodeOf -/
def Cd.impl_CodeOf : ACode :=
  .seq (.region [⟨some 2, .mv (.const (.int .i64 (0))), none⟩,
     ⟨some 3, .mv (.const (.bool false)), none⟩] [0] []) <|
  .seq (.block 0 (
     .seq (.region [⟨some 5, .mv (.tmp 0), none⟩,
        ⟨some 6, .bin .eql (.tmp 5) (.const (.int .u8 (32))), none⟩,
        ⟨some 4, .mv (.tmp 6), none⟩] [0, 4] []) <|
     .cond (.tmp 4)
       (.seq (.region [⟨some 2, .mv (.const (.int .i64 (0))), none⟩,
          ⟨some 3, .mv (.const (.bool true)), none⟩] [2, 3] []) <|
       .ret)
       (.seq (.region [⟨some 8, .mv (.tmp 0), none⟩,
          ⟨some 9, .bin .eql (.tmp 8) (.const (.int .u8 (38))), none⟩,
          ⟨some 7, .mv (.tmp 9), none⟩] [0, 7] []) <|
       .cond (.tmp 7)
         (.seq (.region [⟨some 10, .call (.func F.impl_bitOf) [(.const (.int .i64 (12)))] [], none⟩,
            ⟨some 2, .mv (.tmp 10), none⟩,
            ⟨some 3, .mv (.const (.bool true)), none⟩] [2, 3] []) <|
         .ret)
         (.seq (.region [⟨some 12, .mv (.tmp 0), none⟩,
            ⟨some 13, .bin .eql (.tmp 12) (.const (.int .u8 (45))), none⟩,
            ⟨some 11, .mv (.tmp 13), none⟩] [0, 11] []) <|
         .cond (.tmp 11)
           (.seq (.region [⟨some 14, .call (.func F.impl_bitOf) [(.const (.int .i64 (11)))] [], none⟩,
              ⟨some 2, .mv (.tmp 14), none⟩,
              ⟨some 3, .mv (.const (.bool true)), none⟩] [2, 3] []) <|
           .ret)
           (.seq (.region [⟨some 16, .mv (.tmp 0), none⟩,
              ⟨some 17, .call (.func F.impl_isDigit) [(.tmp 16)] [], none⟩,
              ⟨some 15, .mv (.tmp 17), none⟩] [0, 15] []) <|
           .cond (.tmp 15)
             (.seq (.region [⟨some 18, .mv (.tmp 0), none⟩,
                ⟨some 19, .bin .sub (.tmp 18) (.const (.int .u8 (48))), none⟩,
                ⟨some 20, .conv .i64 (.tmp 19), none⟩,
                ⟨some 21, .call (.func F.impl_bitOf) [(.tmp 20)] [], none⟩,
                ⟨some 2, .mv (.tmp 21), none⟩,
                ⟨some 3, .mv (.const (.bool true)), none⟩] [2, 3] []) <|
             .ret)
             (.seq (.region [⟨some 23, .mv (.tmp 0), none⟩,
                ⟨some 24, .bin .geq (.tmp 23) (.const (.int .u8 (65))), none⟩,
                ⟨some 25, .mv (.tmp 24), none⟩,
                ⟨some 26, .mv (.tmp 0), some (25, true)⟩,
                ⟨some 27, .bin .leq (.tmp 26) (.const (.int .u8 (73))), some (25, true)⟩,
                ⟨some 28, .pick (.tmp 25) (.tmp 27) (.const (.bool false)), none⟩,
                ⟨some 22, .mv (.tmp 28), none⟩] [0, 22] []) <|
             .cond (.tmp 22)
               (.seq (.region [⟨some 29, .call (.func F.impl_bitOf) [(.const (.int .i64 (12)))] [], none⟩,
                  ⟨some 30, .mv (.tmp 0), none⟩,
                  ⟨some 31, .bin .sub (.tmp 30) (.const (.int .u8 (65))), none⟩,
                  ⟨some 32, .conv .i64 (.tmp 31), none⟩,
                  ⟨some 33, .bin .add (.tmp 32) (.const (.int .i64 (1))), none⟩,
                  ⟨some 34, .call (.func F.impl_bitOf) [(.tmp 33)] [], none⟩,
                  ⟨some 35, .bin .or (.tmp 29) (.tmp 34), none⟩,
                  ⟨some 2, .mv (.tmp 35), none⟩,
                  ⟨some 3, .mv (.const (.bool true)), none⟩] [2, 3] []) <|
               .ret)
               (.seq (.region [⟨some 37, .mv (.tmp 0), none⟩,
                  ⟨some 38, .bin .geq (.tmp 37) (.const (.int .u8 (74))), none⟩,
                  ⟨some 39, .mv (.tmp 38), none⟩,
                  ⟨some 40, .mv (.tmp 0), some (39, true)⟩,
                  ⟨some 41, .bin .leq (.tmp 40) (.const (.int .u8 (82))), some (39, true)⟩,
                  ⟨some 42, .pick (.tmp 39) (.tmp 41) (.const (.bool false)), none⟩,
                  ⟨some 36, .mv (.tmp 42), none⟩] [0, 36] []) <|
               .cond (.tmp 36)
                 (.seq (.region [⟨some 43, .call (.func F.impl_bitOf) [(.const (.int .i64 (11)))] [], none⟩,
                    ⟨some 44, .mv (.tmp 0), none⟩,
                    ⟨some 45, .bin .sub (.tmp 44) (.const (.int .u8 (74))), none⟩,
                    ⟨some 46, .conv .i64 (.tmp 45), none⟩,
                    ⟨some 47, .bin .add (.tmp 46) (.const (.int .i64 (1))), none⟩,
                    ⟨some 48, .call (.func F.impl_bitOf) [(.tmp 47)] [], none⟩,
                    ⟨some 49, .bin .or (.tmp 43) (.tmp 48), none⟩,
                    ⟨some 2, .mv (.tmp 49), none⟩,
                    ⟨some 3, .mv (.const (.bool true)), none⟩] [2, 3] []) <|
                 .ret)
                 (.seq (.region [⟨some 51, .mv (.tmp 0), none⟩,
                    ⟨some 52, .bin .eql (.tmp 51) (.const (.int .u8 (47))), none⟩,
                    ⟨some 50, .mv (.tmp 52), none⟩] [0, 50] []) <|
                 .cond (.tmp 50)
                   (.seq (.region [⟨some 53, .call (.func F.impl_bitOf) [(.const (.int .i64 (0)))] [], none⟩,
                      ⟨some 54, .call (.func F.impl_bitOf) [(.const (.int .i64 (1)))] [], none⟩,
                      ⟨some 55, .bin .or (.tmp 53) (.tmp 54), none⟩,
                      ⟨some 2, .mv (.tmp 55), none⟩,
                      ⟨some 3, .mv (.const (.bool true)), none⟩] [2, 3] []) <|
                   .ret)
                   (.seq (.region [⟨some 57, .mv (.tmp 0), none⟩,
                      ⟨some 58, .bin .geq (.tmp 57) (.const (.int .u8 (83))), none⟩,
                      ⟨some 59, .mv (.tmp 58), none⟩,
                      ⟨some 60, .mv (.tmp 0), some (59, true)⟩,
                      ⟨some 61, .bin .leq (.tmp 60) (.const (.int .u8 (90))), some (59, true)⟩,
                      ⟨some 62, .pick (.tmp 59) (.tmp 61) (.const (.bool false)), none⟩,
                      ⟨some 56, .mv (.tmp 62), none⟩] [0, 56] []) <|
                   .cond (.tmp 56)
                     (.seq (.region [⟨some 63, .call (.func F.impl_bitOf) [(.const (.int .i64 (0)))] [], none⟩,
                        ⟨some 64, .mv (.tmp 0), none⟩,
                        ⟨some 65, .bin .sub (.tmp 64) (.const (.int .u8 (83))), none⟩,
                        ⟨some 66, .conv .i64 (.tmp 65), none⟩,
                        ⟨some 67, .bin .add (.tmp 66) (.const (.int .i64 (2))), none⟩,
                        ⟨some 68, .call (.func F.impl_bitOf) [(.tmp 67)] [], none⟩,
                        ⟨some 69, .bin .or (.tmp 63) (.tmp 68), none⟩,
                        ⟨some 2, .mv (.tmp 69), none⟩,
                        ⟨some 3, .mv (.const (.bool true)), none⟩] [2, 3] []) <|
                     .ret)
                     (.skip)))))))))) <|
  .seq (.region [⟨some 2, .mv (.const (.int .i64 (0))), none⟩,
     ⟨some 3, .mv (.const (.bool false)), none⟩] [2, 3] []) <|
  .ret
theorem Cd.impl_CodeOf_rs : Try.f111.results.toList = [.tmp 2, .tmp 3] := rfl
theorem Cd.impl_CodeOf_nt : Try.f111.ntmps = 70 := rfl
theorem Cd.impl_CodeOf_ok : CodeIsR Try.prog 111 Try.f111 Cd.impl_CodeOf := ⟨Try.func111, by kernel_rfl, by decide +kernel⟩
/-- loop.example/g01012/spec.l03Order -/
def Cd.spec_l03Order : ACode :=
  .seq (.region [⟨some 0, .mv (.const (.string ⟨#[]⟩)), none⟩] [] []) <|
  .seq (.region [⟨some 0, .mv (.const (.string ⟨#[32, 38, 65, 66, 67, 68, 69, 70, 71, 72, 73, 45, 74, 75, 76, 77, 78, 79, 80, 81, 82, 47, 83, 84, 85, 86, 87, 88, 89, 90, 48, 49, 50, 51, 52, 53, 54, 55, 56, 57]⟩)), none⟩] [0] []) <|
  .ret
theorem Cd.spec_l03Order_rs : Try.f112.results.toList = [.tmp 0] := rfl
theorem Cd.spec_l03Order_nt : Try.f112.ntmps = 1 := rfl
theorem Cd.spec_l03Order_ok : CodeIsR Try.prog 112 Try.f112 Cd.spec_l03Order := ⟨Try.func112, by kernel_rfl, by decide +kernel⟩
/-- loop.example/g01012/impl.hasCharacters$1 -/
def Cd.impl_hasCharacters_1 : ACode :=
  .seq (.region [⟨some 2, .mv (.const (.bool false)), none⟩] [0] []) <|
  .seq (.region [⟨some 3, .mv (.tmp 0), none⟩,
     ⟨some 4, .call (.func F.impl_rankOf) [(.tmp 3)] [], none⟩,
     ⟨some 5, .bin .lss (.tmp 4) (.const (.int .i64 (0))), none⟩,
     ⟨some 2, .mv (.tmp 5), none⟩] [2] []) <|
  .ret
theorem Cd.impl_hasCharacters_1_rs : Try.f113.results.toList = [.tmp 2] := rfl
theorem Cd.impl_hasCharacters_1_nt : Try.f113.ntmps = 6 := rfl
theorem Cd.impl_hasCharacters_1_ok : CodeIsR Try.prog 113 Try.f113 Cd.impl_hasCharacters_1 := ⟨Try.func113, by kernel_rfl, by decide +kernel⟩
/-- loop.example/g01012/impl.bitOf -/
def Cd.impl_bitOf : ACode :=
  .seq (.region [⟨some 2, .mv (.const (.int .i64 (0))), none⟩] [0] []) <|
  .seq (.block 0 (
     .seq (.region [⟨some 4, .mv (.tmp 0), none⟩,
        ⟨some 5, .bin .eql (.tmp 4) (.const (.int .i64 (12))), none⟩,
        ⟨some 3, .mv (.tmp 5), none⟩] [0, 3] []) <|
     .cond (.tmp 3)
       (.seq (.region [⟨some 2, .mv (.const (.int .i64 (1))), none⟩] [2] []) <|
       .ret)
       (.seq (.region [⟨some 7, .mv (.tmp 0), none⟩,
          ⟨some 8, .bin .eql (.tmp 7) (.const (.int .i64 (11))), none⟩,
          ⟨some 6, .mv (.tmp 8), none⟩] [0, 6] []) <|
       .cond (.tmp 6)
         (.seq (.region [⟨some 2, .mv (.const (.int .i64 (2))), none⟩] [2] []) <|
         .ret)
         (.seq (.region [⟨some 10, .mv (.tmp 0), none⟩,
            ⟨some 11, .call (.func F.impl_inside) [(.tmp 10), (.const (.int .i64 (0))), (.const (.int .i64 (9)))] [], none⟩,
            ⟨some 9, .mv (.tmp 11), none⟩] [0, 9] []) <|
         .cond (.tmp 9)
           (.seq (.region [⟨some 12, .mv (.tmp 0), none⟩,
              ⟨some 13, .bin .shl (.const (.int .i64 (4))) (.tmp 12), none⟩,
              ⟨some 2, .mv (.tmp 13), none⟩] [2] []) <|
           .ret)
           (.skip))))) <|
  .seq (.region [⟨some 2, .mv (.const (.int .i64 (0))), none⟩] [2] []) <|
  .ret
theorem Cd.impl_bitOf_rs : Try.f114.results.toList = [.tmp 2] := rfl
theorem Cd.impl_bitOf_nt : Try.f114.ntmps = 14 := rfl
theorem Cd.impl_bitOf_ok : CodeIsR Try.prog 114 Try.f114 Cd.impl_bitOf := ⟨Try.func114, by kernel_rfl, by decide +kernel⟩
/-- loop.example/g01012/impl.isDigit -/
def Cd.impl_isDigit : ACode :=
  .seq (.region [⟨some 2, .mv (.const (.bool false)), none⟩] [0] []) <|
  .seq (.region [⟨some 3, .mv (.tmp 0), none⟩,
     ⟨some 4, .bin .geq (.tmp 3) (.const (.int .u8 (48))), none⟩,
     ⟨some 5, .mv (.tmp 4), none⟩,
     ⟨some 6, .mv (.tmp 0), some (5, true)⟩,
     ⟨some 7, .bin .leq (.tmp 6) (.const (.int .u8 (57))), some (5, true)⟩,
     ⟨some 8, .pick (.tmp 5) (.tmp 7) (.const (.bool false)), none⟩,
     ⟨some 2, .mv (.tmp 8), none⟩] [2] []) <|
  .ret
theorem Cd.impl_isDigit_rs : Try.f115.results.toList = [.tmp 2] := rfl
theorem Cd.impl_isDigit_nt : Try.f115.ntmps = 9 := rfl
theorem Cd.impl_isDigit_ok : CodeIsR Try.prog 115 Try.f115 Cd.impl_isDigit := ⟨Try.func115, by kernel_rfl, by decide +kernel⟩
end Go.Proofs.Ytokfhfdnmnblfaa
