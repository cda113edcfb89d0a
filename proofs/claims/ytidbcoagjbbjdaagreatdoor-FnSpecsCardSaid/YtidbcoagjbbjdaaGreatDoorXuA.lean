/- The code of each function, resolved. -/
import Derived.Test.YtidbcoagjbbjdaaGreatDoorVtC
import Derived.Test.YtidbcoagjbbjdaaGreatDoorRows
set_option linter.all false
set_option maxHeartbeats 8000000
namespace Go.Proofs.YtidbcoagjbbjdaaGreatDoor
open Go.Vs Go.Vs.Q
set_option maxRecDepth 100000
theorem Tryz.own : ownKnob Tryz.prog.godebug = none := by kernel_rfl
theorem Tryz.laidOut : laidOutB Tryz.prog = true := by kernel_rfl
theorem Tryz.mixed : Tryz.prog.follows .mixedOrders = true := Tryz.checked.mixed
attribute [go_sem] reduceIte reduceCtorEq Nat.reduceEqDiff Nat.reduceLT Nat.reduceLeDiff Nat.reduceAdd Nat.reduceMul Nat.reduceSub Int.reduceToNat Int.reduceNeg
abbrev Fz [Vs.Envs] (f : FuncId) (a : List AV) (r : AV) : Prop := Vs.Fn Tryz.prog f [] a r []
structure CK (f : FuncId) (fn : Func) (ac : ACode) (nt : Nat) (rs : List ResultVar) : Prop where
 o : CodeIsR Tryz.prog f fn ac
 n : fn.ntmps = nt
 r : fn.results.toList = rs
theorem ck {f : FuncId} {fn : Func} {ac : ACode} {nt : Nat} {rs : List ResultVar} (h : Tryz.prog.funcs[f]? = some fn) (h1 : fn.body.bind (cCode Tryz.prog fn.ntmps (drawnG Tryz.prog)) = some ac.bare := by kernel_rfl) (h2 : (fn.name != "runtime.NumGoroutine") = true := by decide +kernel) (h3 : fn.ntmps = nt := by rfl) (h4 : fn.results.toList = rs := by rfl) : CK f fn ac nt rs := ⟨⟨h, h1, h2⟩, h3, h4⟩
theorem fn0 [Vs.Envs] {f : FuncId} {fn : Func} {ac : ACode} {nt : Nat} {rs : List ResultVar} (h : CK f fn ac nt rs) {args : List AV} {r : AV}
 (hw : ∀ C : Ctx, wpc Tryz.prog C (drawnG Tryz.prog) ac (retK Tryz.prog rs [] r []) (fun e σ => match e with | .ret => retK Tryz.prog rs [] r [] σ | .exit _ => False) ⟨ini 0 args, []⟩) (hna : Nat.ble args.length nt = true := by rfl) : Vs.Fn Tryz.prog f [] args r [] :=
 h.o.fn0 Tryz.mixed h.n h.r hna hw
theorem dM [Vs.Envs] : DrawOK Tryz.prog (drawnG Tryz.prog) := drawn_ok Tryz.mixed
namespace F
abbrev l_FnSpecs : FuncId := 3
abbrev l_a2Long : FuncId := 5
abbrev s_A2Cards : FuncId := 6
abbrev s_A2Spec : FuncId := 7
abbrev i_EvalSpec : FuncId := 8
abbrev i_CardsFor : FuncId := 9
abbrev s_ValidDeck : FuncId := 10
abbrev i_SpecText : FuncId := 11
abbrev s_NumberIn : FuncId := 12
abbrev i_SumOfTotals : FuncId := 13
abbrev i_TotalNamed : FuncId := 14
abbrev s_l13Deck : FuncId := 23
abbrev s_l00From : FuncId := 24
abbrev s_l16Draw : FuncId := 25
abbrev i_cardsFor : FuncId := 26
abbrev i_haveField : FuncId := 27
abbrev i_totalsOf : FuncId := 28
abbrev i_sortedBy : FuncId := 29
abbrev s_l02Deck : FuncId := 30
abbrev i_ValidSpec : FuncId := 31
abbrev i_span : FuncId := 32
abbrev s_l02Code : FuncId := 33
abbrev s_l03Number : FuncId := 34
abbrev s_l02Part : FuncId := 35
abbrev ixf_Total : FuncId := 36
abbrev i_TotalNamed_1 : FuncId := 37
abbrev _s_l00Src__pick : FuncId := 39
abbrev i_inside : FuncId := 42
abbrev i_isField : FuncId := 45
abbrev i_isNumberField : FuncId := 46
abbrev i_areCharacters : FuncId := 47
abbrev i_Decimal : FuncId := 48
abbrev s_l13Card : FuncId := 55
abbrev _s_l00Src__one : FuncId := 56
abbrev _s_l00Src__text : FuncId := 57
abbrev i_ValidDeck : FuncId := 58
abbrev i_deckColumns : FuncId := 59
abbrev i_newDeck : FuncId := 60
abbrev i_SelectEqual : FuncId := 61
abbrev ctf_Card : FuncId := 62
abbrev i_haveField_1 : FuncId := 63
abbrev i_hasField : FuncId := 64
abbrev i_sumsOf : FuncId := 65
abbrev i_groups : FuncId := 66
abbrev i_fieldText : FuncId := 67
abbrev i_orderBy : FuncId := 68
abbrev i_newCard : FuncId := 69
abbrev s_l02Ok : FuncId := 70
abbrev s_l02Field : FuncId := 71
abbrev s_l03Digit : FuncId := 72
abbrev _s_l00Src__next : FuncId := 77
abbrev s_l00In : FuncId := 79
abbrev i_isCharacter : FuncId := 83
abbrev strconv_FormatInt : FuncId := 84
abbrev _i_Card__columns : FuncId := 85
abbrev s_l03Card : FuncId := 91
abbrev s_l03Put : FuncId := 92
abbrev i_ValidCard : FuncId := 93
abbrev i_SelectBetween : FuncId := 94
abbrev ixf_Card : FuncId := 95
abbrev i_hasCharacters : FuncId := 96
abbrev i_numberIn : FuncId := 97
abbrev i_groupsOf : FuncId := 98
abbrev i_size_i_Card_ : FuncId := 99
abbrev i_textOf : FuncId := 100
abbrev sortst___int64 : FuncId := 101
abbrev i_orderBy_1 : FuncId := 102
abbrev i_compareFields : FuncId := 103
abbrev i_copyInts : FuncId := 104
abbrev s_l02Bit : FuncId := 105
abbrev s_l03Code : FuncId := 111
abbrev strings_IndexByte : FuncId := 112
abbrev internal_strconv_FormatInt : FuncId := 113
abbrev i_size_int64_ : FuncId := 114
abbrev ctf_int64 : FuncId := 119
abbrev i_ValidCard_1 : FuncId := 120
abbrev i_collateCode : FuncId := 121
abbrev dlf_Card : FuncId := 122
abbrev i_SelectBetween_1 : FuncId := 123
abbrev i_compareText : FuncId := 124
abbrev i_hasCharacters_1 : FuncId := 125
abbrev i_rankOf : FuncId := 126
abbrev i_numberIn_1 : FuncId := 127
abbrev i_bitOf : FuncId := 128
abbrev i_digitOf : FuncId := 129
abbrev stable_int64_ : FuncId := 130
abbrev i_compareHoles : FuncId := 131
abbrev _s_l00Src__among : FuncId := 133
abbrev s_l01Digit : FuncId := 137
abbrev internal_stringslite_IndexByte : FuncId := 138
abbrev internal_strconv_small : FuncId := 139
abbrev internal_strconv_numDigits : FuncId := 140
abbrev internal_strconv_formatBase10 : FuncId := 141
abbrev ixf_int64 : FuncId := 148
abbrev i_punchText : FuncId := 149
abbrev i_codeOf : FuncId := 150
abbrev insort_int64_ : FuncId := 151
abbrev symMerge_int64_ : FuncId := 152
abbrev internal_strconv_log10Pow2 : FuncId := 164
abbrev i_steps : FuncId := 169
abbrev i_blank : FuncId := 171
abbrev i_CodeOf : FuncId := 172
abbrev rotate_int64_ : FuncId := 173
abbrev i_isDigit : FuncId := 186
abbrev swapR_int64_ : FuncId := 187
end F
theorem Ld.t29 : ldOf Tryz.prog 29 = some (true, 7) := by kernel_rfl
theorem Ld.t50 : ldOf Tryz.prog 50 = some (true, 2) := by kernel_rfl
theorem Ld.t55 : ldOf Tryz.prog 55 = some (true, 9) := by kernel_rfl
theorem Ld.t42 : ldOf Tryz.prog 42 = some (true, 1) := by kernel_rfl
theorem Ld.t27 : ldOf Tryz.prog 27 = some (true, 2) := by kernel_rfl
attribute [go_sem] Ld.t29 Ld.t50 Ld.t55 Ld.t42 Ld.t27
def Cd.l_FnSpecs : ACode := s [mf 4] [0,1]<|.seq (s [m 18 0,m 19 1,c 20 F.l_a2Long [18,19]] [0,1,20]<|.cond 20 (s [mt 4] [4]<|.ret) .skip)<|s [m 21 0,c 22 F.s_A2Cards [21],m 5 22] [1,5]<|s [m 23 1,c 24 F.s_A2Spec [23],o 6 (.alloc [.v (.int .i64 (0)),.v (.int .i64 (0)),.v (.string ⟨#[]⟩),.v (.int .i64 (0)),.v (.int .i64
 (0)),.v (.int .i64 (0)),.v (.int .i64 (0))]),⟨none,.store 7 6 24,none⟩] [5,6]<|s [lt 26 7 6,m 27 5,c 28 F.i_EvalSpec [26,27],m 25 28,ex 29 25 0,ex 30 25 1,m 7 29,m 8 30] [5,6,7,8]<|s [lt 32 7 6,m 33 5,c 34 F.i_CardsFor [32,33],m 31 34,ex 35 31 0,ex 36 31 1,m 9 35,m 10 36] [5,6,7,8,9,10]<|.seq
 (s [m 37 8,ne 38 37 0,m 39 38,mg 40 10 39 false,⟨some 41,.bin .neq 40 (k 0),some (39,false)⟩,pt 42 39 41,m 43 42,mg 44 9 43 false,⟨some 45,.call (.func F.s_ValidDeck) [44] [],some (43,false)⟩,⟨some 46,.un .not 45,some (43,false)⟩,pt 47 43 46,m 48 47,mg 49 9 48 false,⟨some 50,.len 49,some
 (48,false)⟩,mg 51 5 48 false,⟨some 52,.len 51,some (48,false)⟩,⟨some 53,.bin .gtr 50 52,some (48,false)⟩,pt 54 48 53,m 55 54,⟨some 56,.load true 7 6,some (55,false)⟩,⟨some 57,.call (.func F.i_SpecText) [56] [],some (55,false)⟩,⟨some 58,.binS .eql 57 (.const (.string ⟨#[]⟩)),some (55,false)⟩,pt 59
 55 58] [6,7,9,59]<|.cond 59 (s [mf 4] [4]<|.ret) .skip)<|s [mi 11 0] [6,7,9,11]<|.seq (s [mi 12 0] [6,7,9,11,12]<|.block 0 (.loop (.seq (s [m 60 12,m 61 9,ln 62 61,ls 63 60 62] [6,7,9,11,12,63]<|.cond 63 .skip (.exit 0))<|.seq (.block 1 (r [m 67 9,m 68 12,ix 69 1 67 68,lt 70 1 69,fa 71 5 6,lt 72 2
 71,c 73 F.s_NumberIn [70,72],m 66 73,ex 74 66 0,ex 75 66 1,m 13 74,m 14 75] [6,7,9,11,12,13,14] [67,68,70,71,69,72,73,66,74,75,13]<|.seq (s [m 76 14,ne 77 76 0] [6,7,9,11,12,13,77]<|.cond 77 (s [mf 4] [4]<|.ret) .skip)<|.region [m 78 11,m 79 13,o 80 (.bin .add 78 79),m 11 80] [6,7,9,11,12]
 []))<|.region [m 64 12,ad 65 64 1,m 12 65] [6,7,9,11,12] [])))<|.seq (s [m 81 7,c 82 F.i_SumOfTotals [81],m 83 11,o 84 (.bin .neq 82 83),m 85 84,mg 86 7 85 false,⟨some 87,.len 86,some (85,false)⟩,⟨some 88,.bin .eql 87 (k 0),some (85,false)⟩,mg 89 9 85 false,⟨some 90,.len 89,some (85,false)⟩,⟨some
 91,.bin .eql 90 (k 0),some (85,false)⟩,⟨some 92,.binB .neq 88 91,some (85,false)⟩,pt 93 85 92] [7,93]<|.cond 93 (s [mf 4] [4]<|.ret) .skip)<|.seq (s [mi 15 0] [7,15]<|.block 2 (.loop (.seq (s [m 94 15,m 95 7,ln 96 95,ls 97 94 96] [7,15,97]<|.cond 97 .skip (.exit 2))<|.seq (.block 3 (s [m 101 7,m 102
 7,m 103 15,ix 104 2 102 103,fa 105 0 104,lf 106 1 105,c 107 F.i_TotalNamed [101,106],m 100 107,ex 108 100 0,ex 109 100 1,m 16 108,m 17 109] [7,15,16,17]<|s [m 110 17,ne 111 110 0,m 112 111,mg 113 16 112 false,mg 114 7 112 false,mg 115 15 112 false,⟨some 116,.idxSl 2 114 115,some (112,false)⟩,fg
 117 1 116 112 false,lg 118 1 117 112 false,⟨some 119,.bin .neq 113 118,some (112,false)⟩,pt 120 112 119] [7,15,120]<|.cond 120 (s [mf 4] [4]<|.ret) .skip))<|.region [m 98 15,ad 99 98 1,m 15 99] [7,15] [])))<|s [mt 4] [4]<|.ret
theorem Cd.l_FnSpecs_k : CK 3 Tryz.f3 Cd.l_FnSpecs 121 [.tmp 4] := ck Tryz.func3
def Cd.l_a2Long : ACode := s [mf 4] [0,1]<|s [m 5 0,ln 6 5,o 7 (.bin .gtr 6 (k 3000)),m 8 7,mg 9 1 8 false,⟨some 10,.len 9,some (8,false)⟩,⟨some 11,.bin .gtr 10 (k 3000),some (8,false)⟩,pt 12 8 11,m 4 12] [4]<|.ret
theorem Cd.l_a2Long_k : CK 5 Tryz.f5 Cd.l_a2Long 13 [.tmp 4] := ck Tryz.func5
def Cd.s_A2Cards : ACode := s [mn 2] [0]<|s [m 3 0,c 4 F.s_l00From [3],o 5 (.call (.func F.s_l13Deck) [4,(k 8)] [0]),m 2 5] [2]<|.ret
theorem Cd.s_A2Cards_k : CK 6 Tryz.f6 Cd.s_A2Cards 6 [.tmp 2] := ck Tryz.func6
def Cd.s_A2Spec : ACode := s [o 2 (.alloc [.v (.int .i64 (0)),.v (.int .i64 (0)),.v (.string ⟨#[]⟩),.v (.int .i64 (0)),.v (.int .i64 (0)),.v (.int .i64 (0)),.v (.int .i64 (0))])] [0,2]<|s [m 3 0,c 4 F.s_l00From [3],o 5 (.call (.func F.s_l16Draw) [4] [0]),⟨none,.store 7 2 5,none⟩] [2]<|.ret
theorem Cd.s_A2Spec_k : CK 7 Tryz.f7 Cd.s_A2Spec 6 [.cell 2 29] := ck Tryz.func7
def Cd.i_EvalSpec : ACode := s [bx 2 0,mn 4,mi 5 0] [1,2]<|s [lt 9 7 2,m 10 1,c 11 F.i_cardsFor [9,10],m 8 11,ex 12 8 0,ex 13 8 1,m 6 12,m 7 13] [2,6,7]<|.seq (s [m 14 7,ne 15 14 0] [2,6,7,15]<|.cond 15 (s [m 16 7,mn 4,m 5 16] [4,5]<|.ret) .skip)<|.seq (s [m 17 6,fa 18 3 2,lt 19 2 18,c 20 F.i_haveField [17,19],nt 21 20]
 [2,6,21]<|.cond 21 (s [mn 4,mi 5 8] [4,5]<|.ret) .skip)<|r [m 22 6,fa 23 3 2,lt 24 2 23,c 25 F.i_sortedBy [22,24],fa 26 3 2,lt 27 2 26,fa 28 5 2,lt 29 2 28,c 30 F.i_totalsOf [25,27,29],ex 31 30 0,ex 32 30 1,m 4 31,m 5 32] [4,5] [22,23,24,25,26,27,28,29,30,31,32]<|.ret
theorem Cd.i_EvalSpec_k : CK 8 Tryz.f8 Cd.i_EvalSpec 33 [.tmp 4, .tmp 5] := ck Tryz.func8
def Cd.i_CardsFor : ACode := s [bx 2 0,mn 4,mi 5 0] [1,2]<|s [lt 6 7 2,m 7 1,c 8 F.i_cardsFor [6,7],ex 9 8 0,ex 10 8 1,m 4 9,m 5 10] [4,5]<|.ret
theorem Cd.i_CardsFor_k : CK 9 Tryz.f9 Cd.i_CardsFor 11 [.tmp 4, .tmp 5] := ck Tryz.func9
def Cd.s_ValidDeck : ACode := s [mf 2] [0]<|s [m 3 0,c 4 F.s_l02Deck [3],m 2 4] [2]<|.ret
theorem Cd.s_ValidDeck_k : CK 10 Tryz.f10 Cd.s_ValidDeck 5 [.tmp 2] := ck Tryz.func10
def Cd.i_SpecText : ACode := s [bx 1 0,o 2 (.mv (.const (.string ⟨#[]⟩)))] [1]<|.seq (s [lt 4 7 1,c 5 F.i_ValidSpec [4,(k 20)],nt 6 5] [1,6]<|.cond 6 (s [o 2 (.mv (.const (.string ⟨#[]⟩)))] [2]<|.ret) .skip)<|r [fa 7 5 1,lt 8 2 7,c 9 F.i_span [8],o 10 (.binS .add (.const (.string ⟨#[115,117,109,32]⟩)) 9),o 11 (.binS .add
 10 (.const (.string ⟨#[32,98,121,32]⟩))),fa 12 3 1,lt 13 2 12,c 14 F.i_span [13],o 15 (.binS .add 11 14),m 3 15] [1,3] [7,9,10,8,11,12,13,14,15]<|.seq (s [fa 16 2 1,lf 17 1 16,o 18 (.binS .neq 17 (.const (.string ⟨#[]⟩)))] [1,3,18]<|.cond 18 (.region [m 19 3,fa 20 0 1,lt 21 2 20,c 22 F.i_span
 [21],o 23 (.binS .add (.const (.string ⟨#[32,119,104,101,114,101,32]⟩)) 22),o 24 (.binS .add 23 (.const (.string ⟨#[32,61]⟩))),fa 25 2 1,lf 26 1 25,o 27 (.binS .add 24 26),o 28 (.binS .add 19 27),m 3 28] [3] [19,20,21,22,23,24,25,26,27,28]) .skip)<|s [m 29 3,m 2 29] [2]<|.ret
theorem Cd.i_SpecText_k : CK 11 Tryz.f11 Cd.i_SpecText 30 [.tmp 2] := ck Tryz.func11
def Cd.s_NumberIn : ACode := s [bx 2 0,bx 3 1,mi 4 0,mi 5 0] [2,3]<|s [lt 9 2 3,c 10 F.s_l02Code [2,9],m 6 10] [2,3,6]<|.seq (s [m 11 6,ne 12 11 0] [2,3,6,12]<|.cond 12 (s [m 13 6,mi 4 0,m 5 13] [4,5]<|.ret) .skip)<|.seq (s [fa 14 1 3,lf 15 1 14,fa 16 0 3,lf 17 1 16,o 18 (.bin .sub 15 17),o 19 (.bin .gtr 18 (k 12))]
 [2,3,19]<|.cond 19 (s [mi 4 0,mi 5 5] [4,5]<|.ret) .skip)<|s [lt 21 2 3,c 22 F.s_l02Part [2,21],c 23 F.s_l03Number [22],m 20 23,ex 24 20 0,ex 25 20 1,m 7 24,m 8 25] [7,8]<|.seq (s [m 26 8,nt 27 26] [7,27]<|.cond 27 (s [mi 4 0,mi 5 8] [4,5]<|.ret) .skip)<|s [m 28 7,m 4 28,mi 5 0] [4,5]<|.ret
theorem Cd.s_NumberIn_k : CK 12 Tryz.f12 Cd.s_NumberIn 29 [.tmp 4, .tmp 5] := ck Tryz.func12
def Cd.i_SumOfTotals : ACode := s [mi 2 0] [0]<|s [mi 3 0] [0,3]<|.seq (s [m 6 0,ln 7 6,mi 8 0] [3,6,7,8]<|.block 0 (.loop (s [ls 9 8 7] [3,6,7,8,9]<|.seq (.cond 9 .skip (.exit 0))<|.seq (.block 1 (s [ix 10 2 6 8,lt 11 2 10,o 5 (.alloc [.v (.string ⟨#[]⟩),.v (.int .i64 (0))]),⟨none,.store 2 5 11,none⟩] [3,5,6,7,8]<|.region [m 12
 3,fa 13 1 5,lf 14 1 13,o 15 (.bin .add 12 14),m 3 15] [3,6,7,8] []))<|.region [ad 16 8 1,m 8 16] [3,6,7,8] [])))<|s [m 17 3,m 2 17] [2]<|.ret
theorem Cd.i_SumOfTotals_k : CK 13 Tryz.f13 Cd.i_SumOfTotals 18 [.tmp 2] := ck Tryz.func13
def Cd.i_TotalNamed : ACode := s [bx 3 1,mi 4 0,mi 5 0] [0,3]<|s [m 7 0,o 8 (.mkfn F.i_TotalNamed_1 [3]),c 9 F.ixf_Total [7,8],m 6 9] [0,6]<|.seq (s [m 10 6,o 11 (.bin .lss 10 (k 0))] [0,6,11]<|.cond 11 (s [mi 4 0,mi 5 3] [4,5]<|.ret) .skip)<|s [m 12 0,m 13 6,ix 14 2 12 13,fa 15 1 14,lf 16 1 15,m
 4 16,mi 5 0] [4,5]<|.ret
theorem Cd.i_TotalNamed_k : CK 14 Tryz.f14 Cd.i_TotalNamed 17 [.tmp 4, .tmp 5] := ck Tryz.func14
def Cd.s_l13Deck : ACode := s [mn 4] [0,1]<|.seq (.naming 5 (.region [o 7 (.bslice 1 0 [.v (.slice none 0 0)] []),m 5 7] [0,1,5] []))<|.seq (s [m 8 0,m 9 1,ad 10 9 1,o 11 (.call (.func F._s_l00Src__pick) [8,10] [0]),m 6 11] [0,5,6]<|.block 0 (.loop (.seq (s [m 12 6,o 13 (.bin .gtr 12 (k 0))] [0,5,6,13]<|.cond 13 .skip
 (.exit 0))<|.seq (.block 1 (.naming 5 (.region [m 16 5,m 17 0,o 18 (.call (.func F.s_l13Card) [17] [0]),o 19 (.bslice 1 1 [.v (.slice none 0 0)] [(0,18)]),o 20 (.append 1 24 16 19),m 5 20] [0,5,6] [])))<|.region [m 14 6,o 15 (.bin .sub 14 (k 1)),m 6 15] [0,5,6] [])))<|s [m 21 5,m 4 21] [4]<|.ret
theorem Cd.s_l13Deck_k : CK 23 Tryz.f23 Cd.s_l13Deck 22 [.tmp 4] := ck Tryz.func23
def Cd.s_l00From : ACode := s [o 2 (.mv (.const (.pointer none)))] [0]<|s [m 3 0,o 4 (.build [.v (.slice none 0 0),.v (.int .i64 (0)),.v (.int .u64 (0))] [(0,1,3)]),bx 5 4,m 2 5] [2]<|.ret
theorem Cd.s_l00From_k : CK 24 Tryz.f24 Cd.s_l00From 6 [.tmp 2] := ck Tryz.func24
def Cd.s_l16Draw : ACode := s [o 2 (.alloc [.v (.int .i64 (0)),.v (.int .i64 (0)),.v (.string ⟨#[]⟩),.v (.int .i64 (0)),.v (.int .i64 (0)),.v (.int .i64 (0)),.v (.int .i64 (0))])] [0,2]<|s [o 4 (.build [.v (.int .i64 (0)),.v (.int .i64 (0))] [(1,1,(k 1))]),o 5 (.build [.v (.int .i64 (0)),.v (.int .i64 (0))] [(0,1,(k 1)),(1,1,(k
 3))]),o 6 (.build [.v (.int .i64 (0)),.v (.int .i64 (0)),.v (.string ⟨#[]⟩),.v (.int .i64 (0)),.v (.int .i64 (0)),.v (.int .i64 (0)),.v (.int .i64 (0))] [(3,2,4),(5,2,5)]),o 3 (.alloc [.v (.int .i64 (0)),.v (.int .i64 (0)),.v (.string ⟨#[]⟩),.v (.int .i64 (0)),.v (.int .i64 (0)),.v (.int .i64 (0)),.v
 (.int .i64 (0))]),⟨none,.store 7 3 6,none⟩] [0,2,3]<|.seq (s [m 7 0,o 8 (.call (.func F._s_l00Src__one) [7,(k 4)] [0])] [0,2,3,8]<|.cond 8 (s [o 9 (.build [.v (.int .i64 (0)),.v (.int .i64 (0))] [(0,1,(k 1)),(1,1,(k 2))]),fa 10 3 3,⟨none,.store 2 10 9,none⟩] [0,2,3]<|.region [o 11 (.build [.v
 (.int .i64 (0)),.v (.int .i64 (0))] [(0,1,(k 3)),(1,1,(k 5))]),fa 12 5 3,⟨none,.store 2 12 11,none⟩] [0,2,3] []) .skip)<|.seq (s [m 13 0,o 14 (.call (.func F._s_l00Src__pick) [13,(k 3)] [0])] [0,2,3,14]<|.block 0 (s [en 16 14 0,m 15 16] [0,2,3,14,15]<|.cond 15 (s [o 17 (.build [.v (.int .i64
 (0)),.v (.int .i64 (0))] [(1,1,(k 1))]),fa 18 0 3,⟨none,.store 2 18 17,none⟩] [0,2,3]<|.region [m 19 0,o 20 (.bslice 1 3 [.v (.string ⟨#[]⟩)] [(0,(.const (.string ⟨#[65]⟩))),(1,(.const (.string ⟨#[66]⟩))),(2,(.const (.string ⟨#[49]⟩)))]),o 21 (.call (.func F._s_l00Src__text) [19,20] [0]),fa 22 2
 3,⟨none,.store 1 22 21,none⟩] [2,3] []) (s [en 24 14 1,m 23 24] [0,2,3,23]<|.cond 23 (s [o 25 (.build [.v (.int .i64 (0)),.v (.int .i64 (0))] [(0,1,(k 2)),(1,1,(k 3))]),fa 26 0 3,⟨none,.store 2 26 25,none⟩] [0,2,3]<|.region [m 27 0,o 28 (.bslice 1 3 [.v (.string ⟨#[]⟩)] [(0,(.const (.string
 ⟨#[48]⟩))),(1,(.const (.string ⟨#[49]⟩))),(2,(.const (.string ⟨#[53]⟩)))]),o 29 (.call (.func F._s_l00Src__text) [27,28] [0]),fa 30 2 3,⟨none,.store 1 30 29,none⟩] [2,3] []) .skip)))<|s [lt 31 7 3,⟨none,.store 7 2 31,none⟩] [2]<|.ret
theorem Cd.s_l16Draw_k : CK 25 Tryz.f25 Cd.s_l16Draw 32 [.cell 2 29] := ck Tryz.func25
def Cd.i_cardsFor : ACode := s [bx 2 0,mn 4,mi 5 0] [1,2]<|.seq (.block 0 (s [m 7 1,c 8 F.i_ValidDeck [7],nt 9 8,m 6 9] [1,2,6]<|.cond 6 (s [mn 4,mi 5 1] [4,5]<|.ret) (r [lt 11 7 2,m 12 1,c 13 F.i_deckColumns [12],c 14 F.i_ValidSpec [11,13],nt 15 14,m 10 15] [1,2,10] [11,12,13,14,15,10]<|.cond 10 (s [mn 4,mi 5 2]
 [4,5]<|.ret) (s [fa 17 2 2,lf 18 1 17,o 19 (.binS .eql 18 (.const (.string ⟨#[]⟩))),m 16 19] [1,2,16]<|.cond 16 (s [m 20 1,c 21 F.i_newDeck [20],m 4 21,mi 5 0] [4,5]<|.ret) .skip))))<|s [m 22 1,fa 23 0 2,lt 24 2 23,fa 25 2 2,lf 26 1 25,c 27 F.i_SelectEqual [22,24,26],ex 28 27 0,ex 29 27 1,m 4
 28,m 5 29] [4,5]<|.ret
theorem Cd.i_cardsFor_k : CK 26 Tryz.f26 Cd.i_cardsFor 30 [.tmp 4, .tmp 5] := ck Tryz.func26
def Cd.i_haveField : ACode := s [bx 3 1,mf 4] [0,3]<|s [m 5 0,o 6 (.mkfn F.i_haveField_1 [3]),c 7 F.ctf_Card [5,6],nt 8 7,m 4 8] [4]<|.ret
theorem Cd.i_haveField_k : CK 27 Tryz.f27 Cd.i_haveField 9 [.tmp 4] := ck Tryz.func27
def Cd.i_totalsOf : ACode := s [bx 4 1,bx 5 2,mn 6,mi 7 0] [0,4,5]<|.seq (s [lt 16 2 5,o 17 (.bslice 2 1 [.v (.int .i64 (0)),.v (.int .i64 (0))] [(0,16)]),m 18 0,c 19 F.i_sumsOf [17,18],m 15 19,ex 20 15 0,ex 21 15 1,m 8 20,m 9 21] [0,4,5,9]<|s [m 22 9,nt 23 22,m 24 23,mg 25 0 24 false,⟨some 26,.load true 2 4,some
 (24,false)⟩,⟨some 27,.call (.func F.i_haveField) [25,26] [],some (24,false)⟩,⟨some 28,.un .not 27,some (24,false)⟩,pt 29 24 28] [0,4,5,29]<|.cond 29 (s [mn 6,mi 7 8] [6,7]<|.ret) .skip)<|.seq (.naming 10 (.region [o 30 (.bslice 2 0 [.v (.string ⟨#[]⟩),.v (.int .i64 (0))] []),m 10 30] [0,4,5,10]
 []))<|.seq (s [m 31 0,lt 32 2 4,c 33 F.i_groups [31,32],ln 34 33,mi 35 0] [4,5,10,33,34,35]<|.block 0 (.loop (s [ls 36 35 34] [4,5,10,33,34,35,36]<|.seq (.cond 36 .skip (.exit 0))<|.seq (.block 1 (s [ix 37 1 33 35,lf 38 1 37,m 12 38] [4,5,10,12,33,34,35]<|s [lt 40 2 5,o 41 (.bslice 2 1 [.v (.int
 .i64 (0)),.v (.int .i64 (0))] [(0,40)]),m 42 12,c 43 F.i_sumsOf [41,42],m 39 43,ex 44 39 0,ex 45 39 1,m 13 44,m 14 45] [4,5,10,12,13,33,34,35]<|.naming 10 (.region [m 46 10,m 47 12,o 48 (.idxSl 1 47 (k 0)),lt 49 1 48,lt 50 2 4,c 51 F.i_fieldText [49,50],m 52 13,o 53 (.idxSl 1 52 (k 0)),lf 54 1
 53,o 55 (.build [.v (.string ⟨#[]⟩),.v (.int .i64 (0))] [(0,1,51),(1,1,54)]),o 56 (.bslice 2 1 [.v (.string ⟨#[]⟩),.v (.int .i64 (0))] [(0,55)]),o 57 (.append 2 24 46 56),m 10 57] [4,5,10,33,34,35] [46,47,48,49,50,51,52,53,54,55,56,57])))<|.region [ad 58 35 1,m 35 58] [4,5,10,33,34,35] [])))<|s [m 59
 10,m 6 59,mi 7 0] [6,7]<|.ret
theorem Cd.i_totalsOf_k : CK 28 Tryz.f28 Cd.i_totalsOf 60 [.tmp 6, .tmp 7] := ck Tryz.func28
def Cd.i_sortedBy : ACode := s [bx 3 1,mn 4] [0,3]<|.seq (.naming 5 (.region [o 8 (.bslice 1 0 [.v (.slice none 0 0)] []),m 5 8] [0,3,5] []))<|.seq (s [m 9 0,lt 10 2 3,c 11 F.i_orderBy [9,10],ln 12 11,mi 13 0] [0,5,11,12,13]<|.block 0 (.loop (s [ls 14 13 12] [0,5,11,12,13,14]<|.seq (.cond 14 .skip (.exit 0))<|.seq (.block 1
 (s [ix 15 1 11 13,lf 16 1 15,m 7 16] [0,5,7,11,12,13]<|.naming 5 (.region [m 17 5,m 18 0,m 19 7,ix 20 1 18 19,lt 21 1 20,c 22 F.i_newCard [21],o 23 (.bslice 1 1 [.v (.slice none 0 0)] [(0,22)]),o 24 (.append 1 24 17 23),m 5 24] [0,5,11,12,13] [])))<|.region [ad 25 13 1,m 13 25] [0,5,11,12,13]
 [])))<|s [m 26 5,m 4 26] [4]<|.ret
theorem Cd.i_sortedBy_k : CK 29 Tryz.f29 Cd.i_sortedBy 27 [.tmp 4] := ck Tryz.func29
def Cd.s_l02Deck : ACode := s [mf 2] [0]<|.seq (s [mi 3 0] [0,3]<|.block 0 (.loop (.seq (s [m 4 3,m 5 0,ln 6 5,ls 7 4 6] [0,3,7]<|.cond 7 .skip (.exit 0))<|.seq (.block 1 (r [m 10 0,m 11 3,ix 12 1 10 11,c 13 F.s_l02Ok [12],nt 14 13,m 15 14,mg 16 0 15 false,mg 17 3 15 false,⟨some 18,.idxSl 1 16 17,some (15,false)⟩,fg 19 0 18
 15 false,lg 20 1 19 15 false,⟨some 21,.len 20,some (15,false)⟩,mg 22 0 15 false,⟨some 23,.idxSl 1 22 (k 0),some (15,false)⟩,fg 24 0 23 15 false,lg 25 1 24 15 false,⟨some 26,.len 25,some (15,false)⟩,⟨some 27,.bin .neq 21 26,some (15,false)⟩,pt 28 15 27] [0,3,28]
 [10,11,13,14,12,15,16,17,18,19,20,21,22,23,24,25,26,27,28]<|.cond 28 (s [mf 2] [2]<|.ret) .skip))<|.region [m 8 3,ad 9 8 1,m 3 9] [0,3] [])))<|s [m 29 0,ln 30 29,o 31 (.bin .leq 30 (k 40)),m 2 31] [2]<|.ret
theorem Cd.s_l02Deck_k : CK 30 Tryz.f30 Cd.s_l02Deck 32 [.tmp 2] := ck Tryz.func30
def Cd.i_ValidSpec : ACode := s [bx 2 0,mf 4] [1,2]<|.seq (s [m 5 1,c 6 F.i_inside [5,(k 1),(k 20)],nt 7 6,m 8 7,fg 9 3 2 8 false,⟨some 10,.load true 2 9,some (8,false)⟩,mg 11 1 8 false,⟨some 12,.call (.func F.i_isField) [10,11] [],some (8,false)⟩,⟨some 13,.un .not 12,some (8,false)⟩,pt 14 8 13,m 15 14,fg 16 5 2 15
 false,⟨some 17,.load true 2 16,some (15,false)⟩,mg 18 1 15 false,⟨some 19,.call (.func F.i_isNumberField) [17,18] [],some (15,false)⟩,⟨some 20,.un .not 19,some (15,false)⟩,pt 21 15 20] [1,2,21]<|.cond 21 (s [mf 4] [4]<|.ret) .skip)<|.seq (s [fa 22 2 2,lf 23 1 22,o 24 (.binS .eql 23 (.const
 (.string ⟨#[]⟩)))] [1,2,24]<|.cond 24 (s [fa 25 0 2,lt 26 2 25,o 27 (.build [.v (.int .i64 (0)),.v (.int .i64 (0))] []),o 28 (.eqA false [0,0] 26 27),m 4 28] [4]<|.ret) .skip)<|s [fa 29 0 2,lt 30 2 29,m 31 1,c 32 F.i_isField [30,31],m 33 32,fg 34 2 2 33 true,lg 35 1 34 33 true,⟨some 36,.call
 (.func F.i_areCharacters) [35] [],some (33,true)⟩,pf 37 33 36,m 38 37,fg 39 2 2 38 true,lg 40 1 39 38 true,⟨some 41,.lenS 40,some (38,true)⟩,fg 42 0 2 38 true,fg 43 1 42 38 true,lg 44 1 43 38 true,fg 45 0 2 38 true,fg 46 0 45 38 true,lg 47 1 46 38 true,⟨some 48,.bin .sub 44 47,some
 (38,true)⟩,⟨some 49,.bin .eql 41 48,some (38,true)⟩,pf 50 38 49,m 4 50] [4]<|.ret
theorem Cd.i_ValidSpec_k : CK 31 Tryz.f31 Cd.i_ValidSpec 51 [.tmp 4] := ck Tryz.func31
def Cd.i_span : ACode := s [bx 1 0,o 2 (.mv (.const (.string ⟨#[]⟩)))] [1]<|r [fa 3 0 1,lf 4 1 3,c 5 F.i_Decimal [4],o 6 (.binS .add 5 (.const (.string ⟨#[45]⟩))),fa 7 1 1,lf 8 1 7,c 9 F.i_Decimal [8],o 10 (.binS .add 6 9),m 2 10] [2] [3,5,6,4,7,8,9,10]<|.ret
theorem Cd.i_span_k : CK 32 Tryz.f32 Cd.i_span 11 [.tmp 2] := ck Tryz.func32
def Cd.s_l02Code : ACode := s [bx 3 1,mi 4 0] [0,3]<|.seq (s [m 5 0,c 6 F.s_l02Ok [5],nt 7 6] [0,3,7]<|.cond 7 (s [mi 4 1] [4]<|.ret) .skip)<|.seq (r [lt 8 2 3,m 9 0,nc 10 9,fa 11 0 10,lf 12 1 11,ln 13 12,c 14 F.s_l02Field [8,13],nt 15 14] [15] [8,9,10,11,12,13,14,15]<|.cond 15 (s [mi 4 2] [4]<|.ret) .skip)<|s [mi 4 0]
 [4]<|.ret
theorem Cd.s_l02Code_k : CK 33 Tryz.f33 Cd.s_l02Code 16 [.tmp 4] := ck Tryz.func33
def Cd.s_l03Number : ACode := s [mi 2 0,mf 3] [0]<|s [mi 4 0] [0,4]<|s [mf 5] [0,4,5]<|s [mf 6] [0,4,5,6]<|.seq (s [mi 7 0] [0,4,5,6,7]<|.block 0 (.loop (.seq (s [m 10 7,m 11 0,ln 12 11,ls 13 10 12] [0,4,5,6,7,13]<|.cond 13 .skip (.exit 0))<|.seq (.block 1 (s [m 16 0,m 17 7,ix 18 1 16 17,lf 19 1 18,m 8 19] [0,4,5,6,7,8]<|.seq (s
 [m 20 7,m 21 0,ln 22 21,o 23 (.bin .sub 22 (k 1)),o 24 (.bin .eql 20 23),m 25 24,mg 26 8 25 true,⟨some 27,.bin .and 26 (k 2),some (25,true)⟩,⟨some 28,.bin .neq 27 (k 0),some (25,true)⟩,pf 29 25 28] [0,4,5,6,7,8,29]<|.cond 29 (s [mt 6] [0,4,5,6,7,8]<|.region [m 30 8,o 31 (.bin .sub 30 (k 2)),m 8 31]
 [0,4,5,6,7,8] []) .skip)<|.seq (s [m 32 8,en 33 32 0,m 34 33,mg 35 5 34 true,⟨some 36,.un .not 35,some (34,true)⟩,pf 37 34 36,m 38 37,mg 39 6 38 true,⟨some 40,.un .not 39,some (38,true)⟩,pf 41 38 40] [0,4,5,6,7,8,41]<|.cond 41 (.exit 1) .skip)<|s [m 42 8,c 43 F.s_l03Digit [42],m 9 43]
 [0,4,6,7,9]<|.seq (s [m 44 9,o 45 (.bin .lss 44 (k 0))] [0,4,6,7,9,45]<|.cond 45 (s [mi 2 0,mf 3] [2,3]<|.ret) .skip)<|s [mt 5] [0,4,5,6,7,9]<|.region [m 46 4,o 47 (.bin .mul (k 10) 46),m 48 9,o 49 (.bin .add 47 48),m 4 49] [0,4,5,6,7] []))<|.region [m 14 7,ad 15 14 1,m 7 15] [0,4,5,6,7] [])))<|.seq
 (s [m 50 6] [4,50]<|.cond 50 (s [m 51 4,o 52 (.un .neg 51),m 53 4,ne 54 53 0,m 2 52,m 3 54] [2,3]<|.ret) .skip)<|s [m 55 4,m 2 55,mt 3] [2,3]<|.ret
theorem Cd.s_l03Number_k : CK 34 Tryz.f34 Cd.s_l03Number 56 [.tmp 2, .tmp 3] := ck Tryz.func34
def Cd.s_l02Part : ACode := s [bx 3 1,mn 4] [0,3]<|r [m 5 0,nc 6 5,fa 7 0 6,lf 8 1 7,fa 9 0 3,lf 10 1 9,fa 11 1 3,lf 12 1 11,o 13 (.slc 1 8 (some 10) (some 12)),m 4 13] [4] [5,7,8,6,9,10,11,12,13]<|.ret
theorem Cd.s_l02Part_k : CK 35 Tryz.f35 Cd.s_l02Part 14 [.tmp 4] := ck Tryz.func35
def Cd.ixf_Total : ACode := s [mi 4 0] [0,1]<|.seq (s [m 6 0,ln 7 6,mi 8 0] [0,1,7,8]<|.block 0 (.loop (s [ls 9 8 7] [0,1,7,8,9]<|.seq (.cond 9 .skip (.exit 0))<|.seq (.block 1 (s [m 10 8,m 5 10] [0,1,5,7,8]<|s [m 11 1,m 12 0,m 13 5,ix 14 2 12 13,lt 15 2 14,o 16 (.call 11 [15] [])] [0,1,5,7,8,16]<|.cond 16 (s [m 17 5,m 4 17]
 [4]<|.ret) .skip))<|.region [ad 18 8 1,m 8 18] [0,1,7,8] [])))<|s [mi 4 (-1)] [4]<|.ret
theorem Cd.ixf_Total_k : CK 36 Tryz.f36 Cd.ixf_Total 19 [.tmp 4] := ck Tryz.func36
def Cd.i_TotalNamed_1 : ACode := s [bx 2 0,mf 3] [1,2]<|s [fa 4 0 2,lf 5 1 4,lf 6 1 1,o 7 (.binS .eql 5 6),m 3 7] [3]<|.ret
theorem Cd.i_TotalNamed_1_k : CK 37 Tryz.f37 Cd.i_TotalNamed_1 8 [.tmp 3] := ck Tryz.func37
def Cd._s_l00Src__pick : ACode := s [mi 4 0] [0,1]<|.seq (s [m 6 1,o 7 (.bin .leq 6 (k 1))] [0,1,7]<|.cond 7 (s [mi 4 0] [4]<|.ret) .skip)<|s [m 8 0,o 9 (.call (.func F._s_l00Src__next) [8] [0]),m 5 9] [0,1,5]<|.seq (s [m 10 1,o 11 (.bin .gtr 10 (k 200))] [0,1,5,11]<|.cond 11 (.region [m 12 5,o 13 (.bin .mul 12 (k 256)),m 14 0,o
 15 (.call (.func F._s_l00Src__next) [14] [0]),o 16 (.bin .add 13 15),m 5 16] [1,5] []) .skip)<|s [m 17 5,m 18 1,o 19 (.bin .rem 17 18),m 4 19] [4]<|.ret
theorem Cd._s_l00Src__pick_k : CK 39 Tryz.f39 Cd._s_l00Src__pick 20 [.tmp 4] := ck Tryz.func39
def Cd.i_inside : ACode := s [mf 6] [0,1,2]<|s [m 7 0,m 8 1,o 9 (.bin .geq 7 8),m 10 9,mg 11 0 10 true,mg 12 2 10 true,⟨some 13,.bin .leq 11 12,some (10,true)⟩,pf 14 10 13,m 6 14] [6]<|.ret
theorem Cd.i_inside_k : CK 42 Tryz.f42 Cd.i_inside 15 [.tmp 6] := ck Tryz.func42
def Cd.i_isField : ACode := s [bx 2 0,mf 4] [1,2]<|s [fa 5 0 2,lf 6 1 5,o 7 (.bin .leq (k 0) 6),m 8 7,fg 9 0 2 8 true,lg 10 1 9 8 true,fg 11 1 2 8 true,lg 12 1 11 8 true,⟨some 13,.bin .lss 10 12,some (8,true)⟩,pf 14 8 13,m 15 14,fg 16 1 2 15 true,lg 17 1 16 15 true,mg 18 1 15 true,⟨some 19,.bin .leq 17 18,some (15,true)⟩,pf 20
 15 19,m 4 20] [4]<|.ret
theorem Cd.i_isField_k : CK 45 Tryz.f45 Cd.i_isField 21 [.tmp 4] := ck Tryz.func45
def Cd.i_isNumberField : ACode := s [bx 2 0,mf 4] [1,2]<|s [lt 5 2 2,m 6 1,c 7 F.i_isField [5,6],m 8 7,fg 9 1 2 8 true,lg 10 1 9 8 true,fg 11 0 2 8 true,lg 12 1 11 8 true,⟨some 13,.bin .sub 10 12,some (8,true)⟩,⟨some 14,.bin .leq 13 (k 12),some (8,true)⟩,pf 15 8 14,m 4 15] [4]<|.ret
theorem Cd.i_isNumberField_k : CK 46 Tryz.f46 Cd.i_isNumberField 16 [.tmp 4] := ck Tryz.func46
def Cd.i_areCharacters : ACode := s [mf 2] [0]<|.seq (s [mi 3 0] [0,3]<|.block 0 (.loop (.seq (s [m 4 3,m 5 0,o 6 (.lenS 5),ls 7 4 6] [0,3,7]<|.cond 7 .skip (.exit 0))<|.seq (.block 1 (s [m 10 0,m 11 3,o 12 (.idxStr 10 11),c 13 F.i_isCharacter [12],nt 14 13] [0,3,14]<|.cond 14 (s [mf 2] [2]<|.ret) .skip))<|.region [m 8 3,ad 9 8
 1,m 3 9] [0,3] [])))<|s [mt 2] [2]<|.ret
theorem Cd.i_areCharacters_k : CK 47 Tryz.f47 Cd.i_areCharacters 15 [.tmp 2] := ck Tryz.func47
def Cd.i_Decimal : ACode := s [o 2 (.mv (.const (.string ⟨#[]⟩)))] [0]<|s [m 3 0,c 4 F.strconv_FormatInt [3,(k 10)],m 2 4] [2]<|.ret
theorem Cd.i_Decimal_k : CK 48 Tryz.f48 Cd.i_Decimal 5 [.tmp 2] := ck Tryz.func48
def Cd.s_l13Card : ACode := s [o 2 (.alloc [.v (.slice none 0 0)])] [0,2]<|s [m 9 0,o 10 (.call (.func F._s_l00Src__pick) [9,(k 3)] [0]),o 11 (.sstr (.const (.string ⟨#[65,66,49]⟩)) (some 10) none),o 12 (.sstr 11 none (some (k 1))),o 13 (.binS .add 12 (.const (.string ⟨#[48,48,48,48]⟩))),c 14 F.s_l03Card [13],o 3 (.alloc
 [.v (.slice none 0 0)]),⟨none,.store 1 3 14,none⟩] [0,2,3]<|s [m 16 0,o 17 (.call (.func F._s_l00Src__pick) [16,(k 100)] [0]),c 18 F.s_l03Put [17,(k 2)],m 15 18,ex 19 15 0,ex 20 15 1,m 4 19,m 5 20] [0,2,3,4]<|s [m 22 0,o 23 (.call (.func F._s_l00Src__pick) [22,(k 130)] [0]),o 24 (.bin .sub
 23 (k 30)),c 25 F.s_l03Put [24,(k 2)],m 21 25,ex 26 21 0,ex 27 21 1,m 6 26,m 7 27] [2,3,4,6]<|.seq (s [mi 8 0] [2,3,4,6,8]<|.block 0 (.loop (.seq (s [m 28 8,o 29 (.bin .lss 28 (k 2))] [2,3,4,6,8,29]<|.cond 29 .skip (.exit 0))<|.seq (.block 1 (r [fa 32 0 3,lf 33 1 32,m 34 8,o 35 (.bin .add (k 1)
 34),m 36 4,m 37 8,ix 38 1 36 37,lf 39 1 38,ix 40 1 33 35,⟨none,.store 1 40 39,none⟩] [2,3,4,6,8] [32,34,33,35,36,37,38,39]<|.region [fa 41 0 3,lf 42 1 41,m 43 8,o 44 (.bin .add (k 3) 43),m 45 6,m 46 8,ix 47 1 45 46,lf 48 1 47,ix 49 1 42 44,⟨none,.store 1 49 48,none⟩] [2,3,4,6,8]
 [41,43,42,44,45,46,47,48]))<|.region [m 30 8,ad 31 30 1,m 8 31] [2,3,4,6,8] [])))<|s [lt 50 1 3,⟨none,.store 1 2 50,none⟩] [2]<|.ret
theorem Cd.s_l13Card_k : CK 55 Tryz.f55 Cd.s_l13Card 51 [.cell 2 42] := ck Tryz.func55
def Cd._s_l00Src__one : ACode := s [mf 4] [0,1]<|s [m 5 0,m 6 1,o 7 (.call (.func F._s_l00Src__pick) [5,6] [0]),en 8 7 0,m 4 8] [4]<|.ret
theorem Cd._s_l00Src__one_k : CK 56 Tryz.f56 Cd._s_l00Src__one 9 [.tmp 4] := ck Tryz.func56
def Cd._s_l00Src__text : ACode := s [o 4 (.mv (.const (.string ⟨#[]⟩)))] [0,1]<|s [m 5 1,m 6 0,m 7 1,ln 8 7,o 9 (.call (.func F._s_l00Src__pick) [6,8] [0]),ix 10 1 5 9,lf 11 1 10,m 4 11] [4]<|.ret
theorem Cd._s_l00Src__text_k : CK 57 Tryz.f57 Cd._s_l00Src__text 12 [.tmp 4] := ck Tryz.func57
def Cd.i_ValidDeck : ACode := s [mf 2] [0]<|.seq (s [m 5 0,ln 6 5,mi 7 0] [0,5,6,7]<|.block 0 (.loop (s [ls 8 7 6] [0,5,6,7,8]<|.seq (.cond 8 .skip (.exit 0))<|.seq (.block 1 (s [ix 9 1 5 7,lt 10 1 9,o 4 (.alloc [.v (.slice none 0 0)]),⟨none,.store 1 4 10,none⟩] [0,4,5,6,7]<|r [lt 11 1 4,c 12 F.i_ValidCard [11],nt 13 12,m 14
 13,⟨some 15,.load true 1 4,some (14,false)⟩,⟨some 16,.call (.func F._i_Card__columns) [15] [],some (14,false)⟩,mg 17 0 14 false,⟨some 18,.idxSl 1 17 (k 0),some (14,false)⟩,⟨some 19,.load true 1 18,some (14,false)⟩,⟨some 20,.call (.func F._i_Card__columns) [19] [],some (14,false)⟩,⟨some 21,.bin
 .neq 16 20,some (14,false)⟩,pt 22 14 21] [0,5,6,7,22] [11,13,14,15,12,16,17,18,19,20,21,22]<|.cond 22 (s [mf 2] [2]<|.ret) .skip))<|.region [ad 23 7 1,m 7 23] [0,5,6,7] [])))<|s [m 24 0,ln 25 24,o 26 (.bin .leq 25 (k 40)),m 2 26] [2]<|.ret
theorem Cd.i_ValidDeck_k : CK 58 Tryz.f58 Cd.i_ValidDeck 27 [.tmp 2] := ck Tryz.func58
def Cd.i_deckColumns : ACode := s [mi 2 0] [0]<|.seq (s [m 3 0,ln 4 3,en 5 4 0] [0,5]<|.cond 5 (s [mi 2 20] [2]<|.ret) .skip)<|s [m 6 0,o 7 (.idxSl 1 6 (k 0)),lt 8 1 7,c 9 F._i_Card__columns [8],m 2 9] [2]<|.ret
theorem Cd.i_deckColumns_k : CK 59 Tryz.f59 Cd.i_deckColumns 10 [.tmp 2] := ck Tryz.func59
def Cd.i_newDeck : ACode := s [mn 2] [0]<|.seq (.naming 3 (.region [o 6 (.bslice 1 0 [.v (.slice none 0 0)] []),m 3 6] [0,3] []))<|.seq (s [m 7 0,ln 8 7,mi 9 0] [3,7,8,9]<|.block 0 (.loop (s [ls 10 9 8] [3,7,8,9,10]<|.seq (.cond 10 .skip (.exit 0))<|.seq (.block 1 (s [ix 11 1 7 9,lt 12 1 11,o 5 (.alloc [.v (.slice none 0
 0)]),⟨none,.store 1 5 12,none⟩] [3,5,7,8,9]<|.naming 3 (.region [m 13 3,lt 14 1 5,c 15 F.i_newCard [14],o 16 (.bslice 1 1 [.v (.slice none 0 0)] [(0,15)]),o 17 (.append 1 24 13 16),m 3 17] [3,7,8,9] [])))<|.region [ad 18 9 1,m 9 18] [3,7,8,9] [])))<|s [m 19 3,m 2 19] [2]<|.ret
theorem Cd.i_newDeck_k : CK 60 Tryz.f60 Cd.i_newDeck 20 [.tmp 2] := ck Tryz.func60
def Cd.i_SelectEqual : ACode := s [bx 4 1,mn 6,mi 7 0] [0,2,4]<|s [m 8 0,lt 9 2 4,m 10 2,m 11 2,c 12 F.i_SelectBetween [8,9,10,11],ex 13 12 0,ex 14 12 1,m 6 13,m 7 14] [6,7]<|.ret
theorem Cd.i_SelectEqual_k : CK 61 Tryz.f61 Cd.i_SelectEqual 15 [.tmp 6, .tmp 7] := ck Tryz.func61
def Cd.ctf_Card : ACode := s [mf 4] [0,1]<|s [m 5 0,m 6 1,c 7 F.ixf_Card [5,6],o 8 (.bin .geq 7 (k 0)),m 4 8] [4]<|.ret
theorem Cd.ctf_Card_k : CK 62 Tryz.f62 Cd.ctf_Card 9 [.tmp 4] := ck Tryz.func62
def Cd.i_haveField_1 : ACode := s [bx 2 0,mf 3] [1,2]<|s [lt 4 1 2,lt 5 2 1,c 6 F.i_hasField [4,5],nt 7 6,m 3 7] [3]<|.ret
theorem Cd.i_haveField_1_k : CK 63 Tryz.f63 Cd.i_haveField_1 8 [.tmp 3] := ck Tryz.func63
def Cd.i_hasField : ACode := s [bx 2 0,bx 3 1,mf 4] [2,3]<|s [fa 5 0 2,lf 6 1 5,fa 7 0 3,lf 8 1 7,fa 9 1 3,lf 10 1 9,o 11 (.slc 1 6 (some 8) (some 10)),c 12 F.i_hasCharacters [11],m 4 12] [4]<|.ret
theorem Cd.i_hasField_k : CK 64 Tryz.f64 Cd.i_hasField 13 [.tmp 4] := ck Tryz.func64
def Cd.i_sumsOf : ACode := s [mn 4,mf 5] [0,1]<|.seq (.naming 6 (.region [o 14 (.bslice 1 0 [.v (.int .i64 (0))] []),m 6 14] [0,1,6] []))<|.seq (s [m 15 0,ln 16 15,mi 17 0] [1,6,15,16,17]<|.block 0 (.loop (s [ls 18 17 16] [1,6,15,16,17,18]<|.seq (.cond 18 .skip (.exit 0))<|.seq (.block 1 (s [ix 19 2 15 17,lt 20 2 19,o 8
 (.alloc [.v (.int .i64 (0)),.v (.int .i64 (0))]),⟨none,.store 2 8 20,none⟩] [1,6,8,15,16,17]<|s [mi 9 0] [1,6,8,9,15,16,17]<|.seq (s [m 21 1,ln 22 21,mi 23 0] [1,6,8,9,15,16,17,21,22,23]<|.block 2 (.loop (s [ls 24 23 22] [1,6,8,9,15,16,17,21,22,23,24]<|.seq (.cond 24 .skip (.exit 2))<|.seq (.block 3
 (s [ix 25 1 21 23,lt 26 1 25,o 11 (.alloc [.v (.slice none 0 0)]),⟨none,.store 1 11 26,none⟩] [1,6,8,9,11,15,16,17,21,22,23]<|s [lt 28 1 11,lt 29 2 8,c 30 F.i_numberIn [28,29],m 27 30,ex 31 27 0,ex 32 27 1,m 12 31,m 13 32] [1,6,8,9,12,13,15,16,17,21,22,23]<|.seq (s [m 33 13,nt 34 33]
 [1,6,8,9,12,15,16,17,21,22,23,34]<|.cond 34 (s [mn 4,mf 5] [4,5]<|.ret) .skip)<|.region [m 35 9,m 36 12,o 37 (.bin .add 35 36),m 9 37] [1,6,8,9,15,16,17,21,22,23] []))<|.region [ad 38 23 1,m 23 38] [1,6,8,9,15,16,17,21,22,23] [])))<|.naming 6 (.region [m 39 6,m 40 9,o 41 (.bslice 1 1 [.v (.int .i64
 (0))] [(0,40)]),o 42 (.append 1 8 39 41),m 6 42] [1,6,15,16,17] [])))<|.region [ad 43 17 1,m 17 43] [1,6,15,16,17] [])))<|s [m 44 6,m 4 44,mt 5] [4,5]<|.ret
theorem Cd.i_sumsOf_k : CK 65 Tryz.f65 Cd.i_sumsOf 45 [.tmp 4, .tmp 5] := ck Tryz.func65
def Cd.i_groups : ACode := s [bx 3 1,mn 4] [0,3]<|.seq (.naming 5 (.region [o 10 (.bslice 1 0 [.v (.slice none 0 0)] []),m 11 0,lt 12 2 3,c 13 F.i_groupsOf [11,12],m 5 10,m 6 13] [0,5,6] []))<|.seq (s [m 14 6,ln 15 14,mi 16 0] [0,5,6,14,15,16]<|.block 0 (.loop (s [ls 17 16 15] [0,5,6,14,15,16,17]<|.seq (.cond 17 .skip
 (.exit 0))<|.seq (.block 1 (s [m 18 16,ix 19 1 14 16,lf 20 1 19,m 7 18,m 8 20] [0,5,6,7,8,14,15,16]<|s [m 21 0,c 22 F.i_size_i_Card_ [21],m 9 22] [0,5,6,7,8,9,14,15,16]<|.seq (s [m 23 7,ad 24 23 1,m 25 6,ln 26 25,ls 27 24 26] [0,5,6,7,8,9,14,15,16,27]<|.cond 27 (.region [m 28 6,m 29 7,ad 30 29
 1,ix 31 1 28 30,lf 32 1 31,m 9 32] [0,5,6,8,9,14,15,16] []) .skip)<|.naming 5 (.region [m 33 5,m 34 0,m 35 8,m 36 9,o 37 (.slc 1 34 (some 35) (some 36)),o 38 (.bslice 1 1 [.v (.slice none 0 0)] [(0,37)]),o 39 (.append 1 24 33 38),m 5 39] [0,5,6,14,15,16] [])))<|.region [ad 40 16 1,m 16 40]
 [0,5,6,14,15,16] [])))<|s [m 41 5,m 4 41] [4]<|.ret
theorem Cd.i_groups_k : CK 66 Tryz.f66 Cd.i_groups 42 [.tmp 4] := ck Tryz.func66
def Cd.i_fieldText : ACode := s [bx 2 0,bx 3 1,o 4 (.mv (.const (.string ⟨#[]⟩)))] [2,3]<|s [fa 5 0 2,lf 6 1 5,fa 7 0 3,lf 8 1 7,fa 9 1 3,lf 10 1 9,o 11 (.slc 1 6 (some 8) (some 10)),c 12 F.i_textOf [11],m 4 12] [4]<|.ret
theorem Cd.i_fieldText_k : CK 67 Tryz.f67 Cd.i_fieldText 13 [.tmp 4] := ck Tryz.func67
def Cd.i_orderBy : ACode := s [bx 2 0,bx 3 1,mn 4] [2,3]<|.seq (.naming 5 (.region [o 7 (.bslice 1 0 [.v (.int .i64 (0))] []),m 5 7] [2,3,5] []))<|.seq (s [lf 8 1 2,ln 9 8,mi 10 0] [2,3,5,9,10]<|.block 0 (.loop (s [ls 11 10 9] [2,3,5,9,10,11]<|.seq (.cond 11 .skip (.exit 0))<|.seq (.block 1 (s [m 12 10,m 6 12]
 [2,3,5,6,9,10]<|.naming 5 (.region [m 13 5,m 14 6,o 15 (.bslice 1 1 [.v (.int .i64 (0))] [(0,14)]),o 16 (.append 1 8 13 15),m 5 16] [2,3,5,9,10] [])))<|.region [ad 17 10 1,m 10 17] [2,3,5,9,10] [])))<|s [m 18 5,o 19 (.mkfn F.i_orderBy_1 [2,3]),o 20 (.call (.func
 F.sortst___int64) [18,19] [0])] [5]<|s [m 21 5,m 4 21] [4]<|.ret
theorem Cd.i_orderBy_k : CK 68 Tryz.f68 Cd.i_orderBy 22 [.tmp 4] := ck Tryz.func68
def Cd.i_newCard : ACode := s [bx 1 0,o 2 (.alloc [.v (.slice none 0 0)])] [1,2]<|s [fa 3 0 1,lf 4 1 3,c 5 F.i_copyInts [4],o 6 (.build [.v (.slice none 0 0)] [(0,1,5)]),⟨none,.store 1 2 6,none⟩] [2]<|.ret
theorem Cd.i_newCard_k : CK 69 Tryz.f69 Cd.i_newCard 7 [.cell 2 42] := ck Tryz.func69
def Cd.s_l02Ok : ACode := s [mf 2] [0]<|.seq (s [mi 3 0] [0,3]<|.block 0 (.loop (.seq (s [m 4 3,m 5 0,nc 6 5,fa 7 0 6,lf 8 1 7,ln 9 8,ls 10 4 9] [0,3,10]<|.cond 10 .skip (.exit 0))<|.seq (.block 1 (s [m 13 0,nc 14 13,fa 15 0 14,lf 16 1 15,m 17 3,ix 18 1 16 17,lf 19 1 18,c 20 F.s_l00In [19,(k 0),(k 4095)],nt 21 20]
 [0,3,21]<|.cond 21 (s [mf 2] [2]<|.ret) .skip))<|.region [m 11 3,ad 12 11 1,m 3 12] [0,3] [])))<|s [m 22 0,nc 23 22,fa 24 0 23,lf 25 1 24,ln 26 25,c 27 F.s_l00In [26,(k 1),(k 20)],m 2 27] [2]<|.ret
theorem Cd.s_l02Ok_k : CK 70 Tryz.f70 Cd.s_l02Ok 28 [.tmp 2] := ck Tryz.func70
def Cd.s_l02Field : ACode := s [bx 2 0,mf 4] [1,2]<|s [fa 5 0 2,lf 6 1 5,o 7 (.bin .geq 6 (k 0)),m 8 7,fg 9 0 2 8 true,lg 10 1 9 8 true,fg 11 1 2 8 true,lg 12 1 11 8 true,⟨some 13,.bin .lss 10 12,some (8,true)⟩,pf 14 8 13,m 15 14,fg 16 1 2 15 true,lg 17 1 16 15 true,mg 18 1 15 true,⟨some 19,.bin .leq 17 18,some (15,true)⟩,pf 20
 15 19,m 4 20] [4]<|.ret
theorem Cd.s_l02Field_k : CK 71 Tryz.f71 Cd.s_l02Field 21 [.tmp 4] := ck Tryz.func71
def Cd.s_l03Digit : ACode := s [mi 2 0] [0]<|.seq (s [mi 3 0] [0,3]<|.block 0 (.loop (.seq (s [m 4 3,o 5 (.bin .leq 4 (k 9))] [0,3,5]<|.cond 5 .skip (.exit 0))<|.seq (.block 1 (s [m 8 0,m 9 3,c 10 F.s_l02Bit [9],o 11 (.bin .eql 8 10)] [0,3,11]<|.cond 11 (s [m 12 3,m 2 12] [2]<|.ret) .skip))<|.region [m 6 3,ad 7 6 1,m 3 7]
 [0,3] [])))<|s [mi 2 (-1)] [2]<|.ret
theorem Cd.s_l03Digit_k : CK 72 Tryz.f72 Cd.s_l03Digit 13 [.tmp 2] := ck Tryz.func72
def Cd._s_l00Src__next : ACode := s [mi 2 0] [0]<|s [mi 3 0] [0,3]<|.seq (r [m 4 0,nc 5 4,fa 6 1 5,lf 7 1 6,m 8 0,nc 9 8,fa 10 0 9,lf 11 1 10,ln 12 11,ls 13 7 12] [0,3,13] [4,6,7,5,8,9,10,11,12,13]<|.cond 13 (.region [m 14 0,nc 15 14,fa 16 0 15,lf 17 1 16,m 18 0,nc 19 18,fa 20 1 19,lf 21 1 20,ix 22 1 17 21,lf 23 1 22,o 24 (.conv .i64
 23),m 3 24] [0,3] [14,16,17,15,18,19,20,21,22,23,24]) .skip)<|s [m 25 0,nc 26 25,fa 27 1 26,lf 28 1 27,ad 29 28 1,nc 30 25,fa 31 1 30,⟨none,.store 1 31 29,none⟩] [0,3]<|s [m 32 0,m 33 0,nc 34 33,fa 35 2 34,lf 36 1 35,o 37 (.bin .mul 36 (.const (.int .u64 (6364136223846793005)))),m 38 3,o 39 (.conv
 .u64 38),o 40 (.bin .add 37 39),o 41 (.bin .add 40 (.const (.int .u64 (1442695040888963407)))),nc 42 32,fa 43 2 42,⟨none,.store 1 43 41,none⟩] [0,3]<|.seq (r [m 44 0,nc 45 44,fa 46 1 45,lf 47 1 46,m 48 0,nc 49 48,fa 50 0 49,lf 51 1 50,ln 52 51,o 53 (.bin .leq 47 52)] [0,3,53]
 [44,46,47,45,48,49,50,51,52,53]<|.cond 53 (s [m 54 3,m 2 54] [2]<|.ret) .skip)<|s [m 55 0,nc 56 55,fa 57 2 56,lf 58 1 57,o 59 (.bin .shr 58 (.const (.int .u64 (40)))),o 60 (.bin .and 59 (.const (.int .u64 (255)))),o 61 (.conv .i64 60),m 2 61] [2]<|.ret
theorem Cd._s_l00Src__next_k : CK 77 Tryz.f77 Cd._s_l00Src__next 62 [.tmp 2] := ck Tryz.func77
def Cd.s_l00In : ACode := s [mf 6] [0,1,2]<|s [m 7 0,m 8 1,o 9 (.bin .geq 7 8),m 10 9,mg 11 0 10 true,mg 12 2 10 true,⟨some 13,.bin .leq 11 12,some (10,true)⟩,pf 14 10 13,m 6 14] [6]<|.ret
theorem Cd.s_l00In_k : CK 79 Tryz.f79 Cd.s_l00In 15 [.tmp 6] := ck Tryz.func79
def Cd.i_isCharacter : ACode := s [mf 2] [0]<|s [m 3 0,c 4 F.strings_IndexByte [(.const (.string ⟨#[32,38,65,66,67,68,69,70,71,72,73,45,74,75,76,77,78,79,80,81,82,47,83,84,85,86,87,88,89,90,48,49,50,51,52,53,54,55,56,57]⟩)),3],o 5 (.bin .geq 4 (k 0)),m 2 5] [2]<|.ret
theorem Cd.i_isCharacter_k : CK 83 Tryz.f83 Cd.i_isCharacter 6 [.tmp 2] := ck Tryz.func83
def Cd.strconv_FormatInt : ACode := s [o 4 (.mv (.const (.string ⟨#[]⟩)))] [0,1]<|s [m 5 0,m 6 1,c 7 F.internal_strconv_FormatInt [5,6],m 4 7] [4]<|.ret
theorem Cd.strconv_FormatInt_k : CK 84 Tryz.f84 Cd.strconv_FormatInt 8 [.tmp 4] := ck Tryz.func84
def Cd._i_Card__columns : ACode := s [bx 1 0,mi 2 0] [1]<|s [fa 3 0 1,lf 4 1 3,c 5 F.i_size_int64_ [4],m 2 5] [2]<|.ret
theorem Cd._i_Card__columns_k : CK 85 Tryz.f85 Cd._i_Card__columns 6 [.tmp 2] := ck Tryz.func85
def Cd.s_l03Card : ACode := s [o 2 (.alloc [.v (.slice none 0 0)])] [0,2]<|s [o 5 (.build [.v (.slice none 0 0)] []),o 3 (.alloc [.v (.slice none 0 0)]),⟨none,.store 1 3 5,none⟩] [0,2,3]<|.seq (s [mi 4 0] [0,2,3,4]<|.block 0 (.loop (.seq (s [m 6 4,m 7 0,o 8 (.lenS 7),ls 9 6 8] [0,2,3,4,9]<|.cond 9 .skip (.exit 0))<|.seq (.block
 1 (.region [fa 12 0 3,lf 13 1 12,m 14 0,m 15 4,o 16 (.idxStr 14 15),c 17 F.s_l03Code [16],o 18 (.bslice 1 1 [.v (.int .i64 (0))] [(0,17)]),o 19 (.append 1 8 13 18),fa 20 0 3,⟨none,.store 1 20 19,none⟩] [0,2,3,4] [12,14,13,15,16,17,18,19]))<|.region [m 10 4,ad 11 10 1,m 4 11] [0,2,3,4] [])))<|s [lt
 21 1 3,⟨none,.store 1 2 21,none⟩] [2]<|.ret
theorem Cd.s_l03Card_k : CK 91 Tryz.f91 Cd.s_l03Card 22 [.cell 2 42] := ck Tryz.func91
def Cd.s_l03Put : ACode := s [mn 4,mf 5] [0,1]<|s [m 9 1,o 10 (.mk 1 8 [.v (.int .i64 (0))] 9),m 6 10] [0,1,6]<|s [m 11 0,m 7 11] [0,1,6,7]<|.seq (s [m 12 0,o 13 (.bin .lss 12 (k 0))] [0,1,6,7,13]<|.cond 13 (.region [m 14 0,o 15 (.un .neg 14),m 7 15] [0,1,6,7] []) .skip)<|.seq (s [m 16 1,o 17 (.bin .sub 16 (k 1)),m 8 17]
 [0,1,6,7,8]<|.block 0 (.loop (.seq (s [m 18 8,o 19 (.bin .geq 18 (k 0))] [0,1,6,7,8,19]<|.cond 19 .skip (.exit 0))<|.seq (.block 1 (s [m 22 6,m 23 8,m 24 7,o 25 (.bin .rem 24 (k 10)),c 26 F.s_l02Bit [25],ix 27 1 22 23,⟨none,.store 1 27 26,none⟩] [0,1,6,7,8]<|.region [m 28 7,o 29 (.bin .quo 28 (k
 10)),m 7 29] [0,1,6,7,8] []))<|.region [m 20 8,o 21 (.bin .sub 20 (k 1)),m 8 21] [0,1,6,7,8] [])))<|.seq (s [m 30 0,o 31 (.bin .lss 30 (k 0))] [1,6,7,31]<|.cond 31 (.region [m 32 6,m 33 1,o 34 (.bin .sub 33 (k 1)),ix 35 1 32 34,lf 36 1 35,o 37 (.bin .or 36 (k 2)),ix 38 1 32 34,⟨none,.store 1 38
 37,none⟩] [6,7] []) .skip)<|s [m 39 6,m 40 7,en 41 40 0,m 4 39,m 5 41] [4,5]<|.ret
theorem Cd.s_l03Put_k : CK 92 Tryz.f92 Cd.s_l03Put 42 [.tmp 4, .tmp 5] := ck Tryz.func92
def Cd.i_ValidCard : ACode := s [bx 1 0,mf 2] [1]<|s [lt 3 1 1,c 4 F._i_Card__columns [3],c 5 F.i_inside [4,(k 1),(k 20)],m 6 5,fg 7 0 1 6 true,lg 8 1 7 6 true,⟨some 9,.call (.func F.ctf_int64) [8,(.func F.i_ValidCard_1)] [],some (6,true)⟩,⟨some 10,.un .not 9,some (6,true)⟩,pf 11 6 10,m 2 11]
 [2]<|.ret
theorem Cd.i_ValidCard_k : CK 93 Tryz.f93 Cd.i_ValidCard 12 [.tmp 2] := ck Tryz.func93
def Cd.i_SelectBetween : ACode := s [bx 5 1,bx 6 2,bx 7 3,mn 8,mi 9 0] [0,5,6,7]<|.seq (s [lt 11 2 5,lf 12 1 6,lf 13 1 7,o 14 (.bslice 1 2 [.v (.string ⟨#[]⟩)] [(0,12),(1,13)]),m 15 0,o 16 (.bslice 1 1 [.v (.slice none 0 0)] [(0,15)]),c 17 F.i_collateCode [11,(.const (.bool true)),14,16],m 10 17] [0,5,6,7,10]<|s [m 18 10,ne 19 18
 0] [0,5,6,7,10,19]<|.cond 19 (s [m 20 10,mn 8,m 9 20] [8,9]<|.ret) .skip)<|s [m 21 0,c 22 F.i_newDeck [21],o 23 (.mkfn F.i_SelectBetween_1 [5,6,7]),o 24 (.call (.func F.dlf_Card) [22,23] [0]),m 8 24,mi 9 0] [8,9]<|.ret
theorem Cd.i_SelectBetween_k : CK 94 Tryz.f94 Cd.i_SelectBetween 25 [.tmp 8, .tmp 9] := ck Tryz.func94
def Cd.ixf_Card : ACode := s [mi 4 0] [0,1]<|.seq (s [m 6 0,ln 7 6,mi 8 0] [0,1,7,8]<|.block 0 (.loop (s [ls 9 8 7] [0,1,7,8,9]<|.seq (.cond 9 .skip (.exit 0))<|.seq (.block 1 (s [m 10 8,m 5 10] [0,1,5,7,8]<|s [m 11 1,m 12 0,m 13 5,ix 14 1 12 13,lt 15 1 14,o 16 (.call 11 [15] [])] [0,1,5,7,8,16]<|.cond 16 (s [m 17 5,m 4 17]
 [4]<|.ret) .skip))<|.region [ad 18 8 1,m 8 18] [0,1,7,8] [])))<|s [mi 4 (-1)] [4]<|.ret
theorem Cd.ixf_Card_k : CK 95 Tryz.f95 Cd.ixf_Card 19 [.tmp 4] := ck Tryz.func95
def Cd.i_hasCharacters : ACode := s [mf 2] [0]<|s [m 3 0,c 4 F.ctf_int64 [3,(.func F.i_hasCharacters_1)],nt 5 4,m 2 5] [2]<|.ret
theorem Cd.i_hasCharacters_k : CK 96 Tryz.f96 Cd.i_hasCharacters 6 [.tmp 2] := ck Tryz.func96
def Cd.i_numberIn : ACode := s [bx 2 0,bx 3 1,mi 4 0,mf 5] [2,3]<|s [fa 14 0 2,lf 15 1 14,fa 16 0 3,lf 17 1 16,fa 18 1 3,lf 19 1 18,o 20 (.slc 1 15 (some 17) (some 19)),c 21 F.i_copyInts [20],m 6 21] [6]<|.seq (s [m 22 6,c 23 F.ctf_int64 [22,(.func F.i_numberIn_1)],nt 24 23] [6,24]<|.cond 24 (s [mi
 4 0,mt 5] [4,5]<|.ret) .skip)<|s [m 25 6,ln 26 25,o 27 (.bin .sub 26 (k 1)),m 7 27] [6,7]<|r [m 28 6,m 29 7,ix 30 1 28 29,lf 31 1 30,c 32 F.i_bitOf [(k 11)],o 33 (.bin .and 31 32),ne 34 33 0,m 8 34] [6,7,8] [28,29,31,32,30,33,34]<|r [m 35 6,m 36 7,ix 37 1 35 36,lf 38 1 37,c 39 F.i_bitOf [(k
 11)],o 40 (.bin .andNot 38 39),ix 41 1 35 36,⟨none,.store 1 41 40,none⟩] [6,7,8] [35,36,38,39,37,40]<|s [mi 9 0,mf 10] [6,7,8,9,10]<|.seq (s [m 42 6,ln 43 42,mi 44 0] [6,7,8,9,10,42,43,44]<|.block 0 (.loop (s [ls 45 44 43] [6,7,8,9,10,42,43,44,45]<|.seq (.cond 45 .skip (.exit 0))<|.seq (.block 1 (s
 [ix 46 1 42 44,lf 47 1 46,m 12 47] [6,7,8,9,10,12,42,43,44]<|s [m 48 12,c 49 F.i_digitOf [48],m 13 49] [6,7,8,9,10,12,13,42,43,44]<|.seq (.block 2 (s [m 51 12,en 52 51 0,m 53 52,mg 54 10 53 true,⟨some 55,.un .not 54,some (53,true)⟩,pf 56 53 55,m 50 56] [6,7,8,9,10,13,42,43,44,50]<|.cond 50 (.exit
 1) (s [m 58 13,o 59 (.bin .lss 58 (k 0)),m 57 59] [6,7,8,9,13,42,43,44,57]<|.cond 57 (s [mi 4 0,mf 5] [4,5]<|.ret) .skip)))<|s [mt 10] [6,7,8,9,10,13,42,43,44]<|.region [m 60 9,o 61 (.bin .mul (k 10) 60),m 62 13,o 63 (.bin .add 61 62),m 9 63] [6,7,8,9,10,42,43,44] []))<|.region [ad 64 44 1,m 44 64]
 [6,7,8,9,10,42,43,44] [])))<|.seq (s [m 65 10,nt 66 65,m 67 66,mg 68 6 67 false,mg 69 7 67 false,⟨some 70,.idxSl 1 68 69,some (67,false)⟩,lg 71 1 70 67 false,⟨some 72,.bin .eql 71 (k 0),some (67,false)⟩,pt 73 67 72,m 74 73,mg 75 8 74 false,mg 76 75 74 false,mg 77 9 76 true,⟨some 78,.bin .eql 77 (k
 0),some (76,true)⟩,⟨some 79,.pick 76 78 (.const (.bool false)),some (74,false)⟩,pt 80 74 79] [8,9,80]<|.cond 80 (s [mi 4 0,mf 5] [4,5]<|.ret) .skip)<|.seq (s [m 81 8] [9,81]<|.cond 81 (.region [m 82 9,o 83 (.un .neg 82),m 9 83] [9] []) .skip)<|s [m 84 9,m 4 84,mt 5] [4,5]<|.ret
theorem Cd.i_numberIn_k : CK 97 Tryz.f97 Cd.i_numberIn 85 [.tmp 4, .tmp 5] := ck Tryz.func97
def Cd.i_groupsOf : ACode := s [bx 3 1,mn 4] [0,3]<|.seq (.naming 5 (.region [o 8 (.bslice 1 0 [.v (.int .i64 (0))] []),m 5 8] [0,3,5] []))<|.seq (s [m 9 0,ln 10 9,mi 11 0] [0,3,5,9,10,11]<|.block 0 (.loop (s [ls 12 11 10] [0,3,5,9,10,11,12]<|.seq (.cond 12 .skip (.exit 0))<|.seq (.block 1 (s [m 13 11,ix 14 1 9 11,lt 15 1 14,o 7
 (.alloc [.v (.slice none 0 0)]),m 6 13,⟨none,.store 1 7 15,none⟩] [0,3,5,6,7,9,10,11]<|r [m 16 6,en 17 16 0,m 18 17,mg 19 0 18 false,mg 20 6 18 false,⟨some 21,.bin .sub 20 (k 1),some (18,false)⟩,⟨some 22,.idxSl 1 19 21,some (18,false)⟩,⟨some 23,.load true 1 22,some (18,false)⟩,⟨some 24,.load true 1
 7,some (18,false)⟩,⟨some 25,.load true 2 3,some (18,false)⟩,⟨some 26,.call (.func F.i_compareFields) [23,24,25] [],some (18,false)⟩,⟨some 27,.bin .neq 26 (k 0),some (18,false)⟩,pt 28 18 27] [0,3,5,6,9,10,11,28] [16,18,19,17,20,21,22,23,24,25,26,27,28]<|.cond 28 (.naming 5 (.region [m 29 5,m 30 6,o
 31 (.bslice 1 1 [.v (.int .i64 (0))] [(0,30)]),o 32 (.append 1 8 29 31),m 5 32] [0,3,5,9,10,11] [])) .skip))<|.region [ad 33 11 1,m 11 33] [0,3,5,9,10,11] [])))<|s [m 34 5,m 4 34] [4]<|.ret
theorem Cd.i_groupsOf_k : CK 98 Tryz.f98 Cd.i_groupsOf 35 [.tmp 4] := ck Tryz.func98
def Cd.i_size_i_Card_ : ACode := s [mi 2 0] [0]<|s [m 3 0,ln 4 3,m 2 4] [2]<|.ret
theorem Cd.i_size_i_Card__k : CK 99 Tryz.f99 Cd.i_size_i_Card_ 5 [.tmp 2] := ck Tryz.func99
def Cd.i_textOf : ACode := s [o 2 (.mv (.const (.string ⟨#[]⟩)))] [0]<|.seq (.naming 3 (.region [o 6 (.bslice 1 0 [.v (.int .u8 (0))] []),m 3 6] [0,3] []))<|.seq (s [m 7 0,ln 8 7,mi 9 0] [3,7,8,9]<|.block 0 (.loop (s [ls 10 9 8] [3,7,8,9,10]<|.seq (.cond 10 .skip (.exit 0))<|.seq (.block 1 (s [ix 11 1 7 9,lf 12 1 11,m 5 12]
 [3,5,7,8,9]<|.naming 3 (.region [m 13 3,m 14 5,c 15 F.i_rankOf [14],o 16 (.idxStr (.const (.string ⟨#[32,38,65,66,67,68,69,70,71,72,73,45,74,75,76,77,78,79,80,81,82,47,83,84,85,86,87,88,89,90,48,49,50,51,52,53,54,55,56,57]⟩)) 15),o 17 (.bslice 1 1 [.v (.int .u8 (0))] [(0,16)]),o 18 (.append 1 1 13
 17),m 3 18] [3,7,8,9] [])))<|.region [ad 19 9 1,m 9 19] [3,7,8,9] [])))<|s [m 20 3,o 21 (.b2s 20),m 2 21] [2]<|.ret
theorem Cd.i_textOf_k : CK 100 Tryz.f100 Cd.i_textOf 22 [.tmp 2] := ck Tryz.func100
def Cd.sortst___int64 : ACode := .region [m 4 0,m 5 0,ln 6 5,m 7 1,o 8 (.call (.func F.stable_int64_) [4,6,7] [0])] [] []
theorem Cd.sortst___int64_k : CK 101 Tryz.f101 Cd.sortst___int64 9 [] := ck Tryz.func101
def Cd.i_orderBy_1 : ACode := s [mi 6 0] [0,1,2,3]<|r [lf 7 1 2,m 8 0,ix 9 1 7 8,lt 10 1 9,lf 11 1 2,m 12 1,ix 13 1 11 12,lt 14 1 13,lt 15 2 3,c 16 F.i_compareFields [10,14,15],m 6 16] [6] [7,8,10,11,9,12,13,14,15,16]<|.ret
theorem Cd.i_orderBy_1_k : CK 102 Tryz.f102 Cd.i_orderBy_1 17 [.tmp 6] := ck Tryz.func102
def Cd.i_compareFields : ACode := s [bx 3 0,bx 4 1,bx 5 2,mi 6 0] [3,4,5]<|r [fa 7 0 3,lf 8 1 7,fa 9 0 5,lf 10 1 9,fa 11 1 5,lf 12 1 11,o 13 (.slc 1 8 (some 10) (some 12)),fa 14 0 4,lf 15 1 14,fa 16 0 5,lf 17 1 16,fa 18 1 5,lf 19 1 18,o 20 (.slc 1 15 (some 17) (some 19)),c 21 F.i_compareHoles [13,20],m 6 21] [6]
 [7,9,8,10,11,12,13,14,15,16,17,18,19,20,21]<|.ret
theorem Cd.i_compareFields_k : CK 103 Tryz.f103 Cd.i_compareFields 22 [.tmp 6] := ck Tryz.func103
def Cd.i_copyInts : ACode := s [mn 2] [0]<|s [o 3 (.bslice 1 0 [.v (.int .i64 (0))] []),m 4 0,o 5 (.append 1 8 3 4),m 2 5] [2]<|.ret
theorem Cd.i_copyInts_k : CK 104 Tryz.f104 Cd.i_copyInts 6 [.tmp 2] := ck Tryz.func104
def Cd.s_l02Bit : ACode := s [mi 2 0] [0]<|.seq (.block 0 (s [m 4 0,en 5 4 12,m 3 5] [0,3]<|.cond 3 (s [mi 2 1] [2]<|.ret) (s [m 7 0,en 8 7 11,m 6 8] [0,6]<|.cond 6 (s [mi 2 2] [2]<|.ret) (s [m 10 0,c 11 F.s_l00In [10,(k 0),(k 9)],m 9 11] [0,9]<|.cond 9 (s [m 12 0,o 13 (.conv .u64 12),o 14 (.bin .shl (k 4) 13),m 2 14]
 [2]<|.ret) .skip))))<|s [mi 2 0] [2]<|.ret
theorem Cd.s_l02Bit_k : CK 105 Tryz.f105 Cd.s_l02Bit 15 [.tmp 2] := ck Tryz.func105
def Cd.s_l03Code : ACode := s [mi 2 0] [0]<|s [m 4 0,o 5 (.conv .i64 4),m 3 5] [0,3]<|.seq (.block 0 (s [m 7 0,o 8 (.bin .eql 7 (.const (.int .u8 (32)))),m 6 8] [0,3,6]<|.cond 6 (s [mi 2 0] [2]<|.ret) (s [m 10 0,o 11 (.bin .eql 10 (.const (.int .u8 (38)))),m 9 11] [0,3,9]<|.cond 9 (s [mi 2 1] [2]<|.ret) (s [m 13 0,o 14 (.bin
 .eql 13 (.const (.int .u8 (45)))),m 12 14] [0,3,12]<|.cond 12 (s [mi 2 2] [2]<|.ret) (s [m 16 0,o 17 (.bin .eql 16 (.const (.int .u8 (47)))),m 15 17] [0,3,15]<|.cond 15 (s [c 18 F.s_l02Bit [(k 1)],o 19 (.bin .or (k 4) 18),m 2 19] [2]<|.ret) (s [m 21 0,c 22 F.s_l01Digit [21],m 20 22]
 [0,3,20]<|.cond 20 (s [m 23 3,o 24 (.bin .sub 23 (k 48)),c 25 F.s_l02Bit [24],m 2 25] [2]<|.ret) (s [m 27 0,o 28 (.bin .geq 27 (.const (.int .u8 (65)))),m 29 28,mg 30 0 29 true,⟨some 31,.bin .leq 30 (.const (.int .u8 (73))),some (29,true)⟩,pf 32 29 31,m 26 32] [0,3,26]<|.cond 26 (s [m 33 3,o 34
 (.bin .sub 33 (k 65)),ad 35 34 1,c 36 F.s_l02Bit [35],o 37 (.bin .or (k 1) 36),m 2 37] [2]<|.ret) (s [m 39 0,o 40 (.bin .geq 39 (.const (.int .u8 (74)))),m 41 40,mg 42 0 41 true,⟨some 43,.bin .leq 42 (.const (.int .u8 (82))),some (41,true)⟩,pf 44 41 43,m 38 44] [0,3,38]<|.cond 38 (s [m 45 3,o 46
 (.bin .sub 45 (k 74)),ad 47 46 1,c 48 F.s_l02Bit [47],o 49 (.bin .or (k 2) 48),m 2 49] [2]<|.ret) (s [m 51 0,o 52 (.bin .geq 51 (.const (.int .u8 (83)))),m 53 52,mg 54 0 53 true,⟨some 55,.bin .leq 54 (.const (.int .u8 (90))),some (53,true)⟩,pf 56 53 55,m 50 56] [3,50]<|.cond 50 (s [m 57 3,o 58
 (.bin .sub 57 (k 83)),ad 59 58 2,c 60 F.s_l02Bit [59],o 61 (.bin .or (k 4) 60),m 2 61] [2]<|.ret) .skip)))))))))<|s [mi 2 (-1)] [2]<|.ret
theorem Cd.s_l03Code_k : CK 111 Tryz.f111 Cd.s_l03Code 62 [.tmp 2] := ck Tryz.func111
def Cd.strings_IndexByte : ACode := s [mi 4 0] [0,1]<|s [m 5 0,m 6 1,c 7 F.internal_stringslite_IndexByte [5,6],m 4 7] [4]<|.ret
theorem Cd.strings_IndexByte_k : CK 112 Tryz.f112 Cd.strings_IndexByte 8 [.tmp 4] := ck Tryz.func112
def Cd.i_size_int64_ : ACode := s [mi 2 0] [0]<|s [m 3 0,ln 4 3,m 2 4] [2]<|.ret
theorem Cd.i_size_int64__k : CK 114 Tryz.f114 Cd.i_size_int64_ 5 [.tmp 2] := ck Tryz.func114
def Cd.ctf_int64 : ACode := s [mf 4] [0,1]<|s [m 5 0,m 6 1,c 7 F.ixf_int64 [5,6],o 8 (.bin .geq 7 (k 0)),m 4 8] [4]<|.ret
theorem Cd.ctf_int64_k : CK 119 Tryz.f119 Cd.ctf_int64 9 [.tmp 4] := ck Tryz.func119
def Cd.i_ValidCard_1 : ACode := s [mf 2] [0]<|s [m 3 0,c 4 F.i_inside [3,(k 0),(k 4095)],nt 5 4,m 2 5] [2]<|.ret
theorem Cd.i_ValidCard_1_k : CK 120 Tryz.f120 Cd.i_ValidCard_1 6 [.tmp 2] := ck Tryz.func120
def Cd.i_collateCode : ACode := s [bx 4 0,mi 8 0] [1,2,3,4]<|.seq (s [m 19 3,ln 20 19,mi 21 0] [1,2,3,4,19,20,21]<|.block 0 (.loop (s [ls 22 21 20] [1,2,3,4,19,20,21,22]<|.seq (.cond 22 .skip (.exit 0))<|.seq (.block 1 (s [ix 23 1 19 21,lf 24 1 23,m 10 24] [1,2,3,4,10,19,20,21]<|s [m 25 10,c 26 F.i_ValidDeck [25],nt 27 26]
 [1,2,3,4,19,20,21,27]<|.cond 27 (s [mi 8 1] [8]<|.ret) .skip))<|.region [ad 28 21 1,m 21 28] [1,2,3,4,19,20,21] [])))<|.seq (s [m 29 1,nt 30 29] [2,3,4,30]<|.cond 30 (s [mi 8 1] [8]<|.ret) .skip)<|.seq (s [m 31 3,ln 32 31,mi 33 0] [2,3,4,31,32,33]<|.block 2 (.loop (s [ls 34 33 32]
 [2,3,4,31,32,33,34]<|.seq (.cond 34 .skip (.exit 2))<|.seq (.block 3 (s [ix 35 1 31 33,lf 36 1 35,m 12 36] [2,3,4,12,31,32,33]<|r [lt 37 2 4,m 38 12,c 39 F.i_deckColumns [38],c 40 F.i_isField [37,39],nt 41 40] [2,3,4,31,32,33,41] [37,38,39,40,41]<|.cond 41 (s [mi 8 2] [8]<|.ret)
 .skip))<|.region [ad 42 33 1,m 33 42] [2,3,4,31,32,33] [])))<|.seq (s [m 43 2,ln 44 43,mi 45 0] [2,3,4,43,44,45]<|.block 4 (.loop (s [ls 46 45 44] [2,3,4,43,44,45,46]<|.seq (.cond 46 .skip (.exit 4))<|.seq (.block 5 (s [ix 47 1 43 45,lf 48 1 47,m 14 48] [2,3,4,14,43,44,45]<|s [m 49 14,o 50 (.lenS
 49),fa 51 1 4,lf 52 1 51,fa 53 0 4,lf 54 1 53,o 55 (.bin .sub 52 54),o 56 (.bin .neq 50 55)] [2,3,4,43,44,45,56]<|.cond 56 (s [mi 8 2] [8]<|.ret) .skip))<|.region [ad 57 45 1,m 45 57] [2,3,4,43,44,45] [])))<|.seq (s [m 58 2,ln 59 58,mi 60 0] [3,4,58,59,60]<|.block 6 (.loop (s [ls 61 60 59]
 [3,4,58,59,60,61]<|.seq (.cond 61 .skip (.exit 6))<|.seq (.block 7 (s [ix 62 1 58 60,lf 63 1 62,m 16 63] [3,4,16,58,59,60]<|s [m 64 16,c 65 F.i_areCharacters [64],nt 66 65] [3,4,58,59,60,66]<|.cond 66 (s [mi 8 7] [8]<|.ret) .skip))<|.region [ad 67 60 1,m 60 67] [3,4,58,59,60] [])))<|.seq (s [m 68
 3,ln 69 68,mi 70 0] [4,68,69,70]<|.block 8 (.loop (s [ls 71 70 69] [4,68,69,70,71]<|.seq (.cond 71 .skip (.exit 8))<|.seq (.block 9 (s [ix 72 1 68 70,lf 73 1 72,m 18 73] [4,18,68,69,70]<|s [m 74 18,lt 75 2 4,c 76 F.i_haveField [74,75],nt 77 76] [4,68,69,70,77]<|.cond 77 (s [mi 8 8] [8]<|.ret)
 .skip))<|.region [ad 78 70 1,m 70 78] [4,68,69,70] [])))<|s [mi 8 0] [8]<|.ret
theorem Cd.i_collateCode_k : CK 121 Tryz.f121 Cd.i_collateCode 79 [.tmp 8] := ck Tryz.func121
def Cd.dlf_Card : ACode := s [mn 4] [0,1]<|s [m 8 0,m 9 1,c 10 F.ixf_Card [8,9],m 5 10] [0,1,5]<|.seq (s [m 11 5,en 12 11 (-1)] [0,1,5,12]<|.cond 12 (s [m 13 0,m 4 13] [4]<|.ret) .skip)<|.seq (s [m 14 5,ad 15 14 1,m 6 15] [0,1,5,6]<|.block 0 (.loop (.seq (s [m 16 6,m 17 0,ln 18 17,ls 19 16 18]
 [0,1,5,6,19]<|.cond 19 .skip (.exit 0))<|.seq (.block 1 (s [m 22 0,m 23 6,ix 24 1 22 23,lt 25 1 24,o 7 (.alloc [.v (.slice none 0 0)]),⟨none,.store 1 7 25,none⟩] [0,1,5,6,7]<|s [m 26 1,lt 27 1 7,o 28 (.call 26 [27] []),nt 29 28] [0,1,5,6,7,29]<|.cond 29 (s [m 30 0,m 31 5,lt 32 1 7,ix 33 1 30
 31,⟨none,.store 1 33 32,none⟩] [0,1,5,6]<|.region [m 34 5,ad 35 34 1,m 5 35] [0,1,5,6] []) .skip))<|.region [m 20 6,ad 21 20 1,m 6 21] [0,1,5,6] [])))<|s [m 36 0,m 37 5,o 38 (.slc 1 36 (some 37) none),⟨none,.clr 1 [.v (.slice none 0 0)] 38,none⟩] [0,5]<|s [m 39 0,m 40 5,o 41 (.slc 1 39 none (some
 40)),m 4 41] [4]<|.ret
theorem Cd.dlf_Card_k : CK 122 Tryz.f122 Cd.dlf_Card 42 [.tmp 4] := ck Tryz.func122
def Cd.i_SelectBetween_1 : ACode := s [bx 4 0,mf 5] [1,2,3,4]<|s [lt 6 1 4,lt 7 2 1,lf 8 1 2,c 9 F.i_compareText [6,7,8],o 10 (.bin .lss 9 (k 0)),m 11 10,⟨some 12,.load true 1 4,some (11,false)⟩,⟨some 13,.load true 2 1,some (11,false)⟩,lg 14 1 3 11 false,⟨some 15,.call (.func F.i_compareText) [12,13,14] [],some (11,false)⟩,⟨some
 16,.bin .gtr 15 (k 0),some (11,false)⟩,pt 17 11 16,m 5 17] [5]<|.ret
theorem Cd.i_SelectBetween_1_k : CK 123 Tryz.f123 Cd.i_SelectBetween_1 18 [.tmp 5] := ck Tryz.func123
def Cd.i_compareText : ACode := s [bx 3 0,bx 4 1,mi 6 0] [2,3,4]<|r [fa 7 0 3,lf 8 1 7,fa 9 0 4,lf 10 1 9,fa 11 1 4,lf 12 1 11,o 13 (.slc 1 8 (some 10) (some 12)),m 14 2,fa 15 1 4,lf 16 1 15,fa 17 0 4,lf 18 1 17,o 19 (.bin .sub 16 18),c 20 F.i_punchText [14,19],o 21 (.field false 0 1 20),c 22 F.i_compareHoles [13,21],m 6 22]
 [6] [7,9,8,10,11,12,13,14,15,16,17,18,19,20,21,22]<|.ret
theorem Cd.i_compareText_k : CK 124 Tryz.f124 Cd.i_compareText 23 [.tmp 6] := ck Tryz.func124
def Cd.i_hasCharacters_1 : ACode := s [mf 2] [0]<|s [m 3 0,c 4 F.i_rankOf [3],o 5 (.bin .lss 4 (k 0)),m 2 5] [2]<|.ret
theorem Cd.i_hasCharacters_1_k : CK 125 Tryz.f125 Cd.i_hasCharacters_1 6 [.tmp 2] := ck Tryz.func125
def Cd.i_rankOf : ACode := s [mi 2 0] [0]<|.seq (s [mi 3 0] [0,3]<|.block 0 (.loop (.seq (s [m 4 3,o 5 (.bin .lss 4 (k 40))] [0,3,5]<|.cond 5 .skip (.exit 0))<|.seq (.block 1 (s [m 8 3,o 9 (.idxStr (.const (.string
 ⟨#[32,38,65,66,67,68,69,70,71,72,73,45,74,75,76,77,78,79,80,81,82,47,83,84,85,86,87,88,89,90,48,49,50,51,52,53,54,55,56,57]⟩)) 8),c 10 F.i_codeOf [9],m 11 0,o 12 (.bin .eql 10 11)] [0,3,12]<|.cond 12 (s [m 13 3,m 2 13] [2]<|.ret) .skip))<|.region [m 6 3,ad 7 6 1,m 3 7] [0,3] [])))<|s [mi 2 (-1)]
 [2]<|.ret
theorem Cd.i_rankOf_k : CK 126 Tryz.f126 Cd.i_rankOf 14 [.tmp 2] := ck Tryz.func126
def Cd.i_numberIn_1 : ACode := s [mf 2] [0]<|s [m 3 0,ne 4 3 0,m 2 4] [2]<|.ret
theorem Cd.i_numberIn_1_k : CK 127 Tryz.f127 Cd.i_numberIn_1 5 [.tmp 2] := ck Tryz.func127
def Cd.i_bitOf : ACode := s [mi 2 0] [0]<|.seq (.block 0 (s [m 4 0,en 5 4 12,m 3 5] [0,3]<|.cond 3 (s [mi 2 1] [2]<|.ret) (s [m 7 0,en 8 7 11,m 6 8] [0,6]<|.cond 6 (s [mi 2 2] [2]<|.ret) (s [m 10 0,c 11 F.i_inside [10,(k 0),(k 9)],m 9 11] [0,9]<|.cond 9 (s [m 12 0,o 13 (.bin .shl (k 4) 12),m 2 13] [2]<|.ret) .skip))))<|s
 [mi 2 0] [2]<|.ret
theorem Cd.i_bitOf_k : CK 128 Tryz.f128 Cd.i_bitOf 14 [.tmp 2] := ck Tryz.func128
def Cd.i_digitOf : ACode := s [mi 2 0] [0]<|.seq (s [mi 4 0] [0,4]<|.block 0 (.loop (s [o 5 (.bin .lss 4 (k 10))] [0,4,5]<|.seq (.cond 5 .skip (.exit 0))<|.seq (.block 1 (s [m 6 4,m 3 6] [0,3,4]<|s [m 7 3,c 8 F.i_bitOf [7],m 9 0,o 10 (.bin .eql 8 9)] [0,3,4,10]<|.cond 10 (s [m 11 3,m 2 11] [2]<|.ret) .skip))<|.region [ad 12
 4 1,m 4 12] [0,4] [])))<|s [mi 2 (-1)] [2]<|.ret
theorem Cd.i_digitOf_k : CK 129 Tryz.f129 Cd.i_digitOf 13 [.tmp 2] := ck Tryz.func129
def Cd.stable_int64_ : ACode := s [mi 6 20] [0,1,2,6]<|s [m 10 6,mi 7 0,m 8 10] [0,1,2,6,7,8]<|.seq (.block 0 (.loop (.seq (s [m 11 8,m 12 1,o 13 (.bin .leq 11 12)] [0,1,2,6,7,8,13]<|.cond 13 .skip (.exit 0))<|.block 1 (s [m 14 0,m 15 7,m 16 8,m 17 2,o 18 (.call (.func F.insort_int64_) [14,15,16,17] [0])]
 [0,1,2,6,8]<|s [m 19 8,m 7 19] [0,1,2,6,7,8]<|.region [m 20 8,m 21 6,o 22 (.bin .add 20 21),m 8 22] [0,1,2,6,7,8] []))))<|s [m 23 0,m 24 7,m 25 1,m 26 2,o 27 (.call (.func F.insort_int64_) [23,24,25,26] [0])] [0,1,2,6]<|.block 2 (.loop (.seq (s [m 28 6,m 29 1,ls 30 28 29]
 [0,1,2,6,30]<|.cond 30 .skip (.exit 2))<|.block 3 (s [m 31 6,o 32 (.bin .mul (k 2) 31),mi 7 0,m 8 32] [0,1,2,6,7,8]<|.seq (.block 4 (.loop (.seq (s [m 33 8,m 34 1,o 35 (.bin .leq 33 34)] [0,1,2,6,7,8,35]<|.cond 35 .skip (.exit 4))<|.block 5 (s [m 36 0,m 37 7,m 38 7,m 39 6,o 40 (.bin .add 38 39),m 41
 8,m 42 2,o 43 (.call (.func F.symMerge_int64_) [36,37,40,41,42] [0])] [0,1,2,6,8]<|s [m 44 8,m 7 44] [0,1,2,6,7,8]<|.region [m 45 8,m 46 6,o 47 (.bin .mul (k 2) 46),o 48 (.bin .add 45 47),m 8 48] [0,1,2,6,7,8] []))))<|.seq (s [m 49 7,m 50 6,o 51 (.bin .add 49 50),m 9 51]
 [0,1,2,6,7,9]<|s [m 52 9,m 53 1,ls 54 52 53] [0,1,2,6,7,9,54]<|.cond 54 (.region [m 55 0,m 56 7,m 57 9,m 58 1,m 59 2,o 60 (.call (.func F.symMerge_int64_) [55,56,57,58,59] [0])] [0,1,2,6] []) .skip)<|.region [m 61 6,o 62 (.bin .mul 61 (k 2)),m 6 62] [0,1,2,6] [])))
theorem Cd.stable_int64__k : CK 130 Tryz.f130 Cd.stable_int64_ 63 [] := ck Tryz.func130
def Cd.i_compareHoles : ACode := s [mi 4 0] [0,1]<|.seq (s [m 8 0,ln 9 8,mi 10 0] [0,1,9,10]<|.block 0 (.loop (s [ls 11 10 9] [0,1,9,10,11]<|.seq (.cond 11 .skip (.exit 0))<|.seq (.block 1 (s [m 12 10,m 5 12] [0,1,5,9,10]<|r [m 13 0,m 14 5,ix 15 1 13 14,lf 16 1 15,c 17 F.i_rankOf [16],m 18 1,m 19 5,ix 20 1 18 19,lf 21 1 20,c 22
 F.i_rankOf [21],m 6 17,m 7 22] [0,1,6,7,9,10] [13,14,16,17,15,18,19,20,21,22,6]<|.block 2 (s [m 24 6,m 25 7,ls 26 24 25,m 23 26] [0,1,6,7,9,10,23]<|.cond 23 (s [mi 4 (-1)] [4]<|.ret) (s [m 28 6,m 29 7,o 30 (.bin .gtr 28 29),m 27 30] [0,1,9,10,27]<|.cond 27 (s [mi 4 1] [4]<|.ret) .skip))))<|.region
 [ad 31 10 1,m 10 31] [0,1,9,10] [])))<|s [mi 4 0] [4]<|.ret
theorem Cd.i_compareHoles_k : CK 131 Tryz.f131 Cd.i_compareHoles 32 [.tmp 4] := ck Tryz.func131
def Cd._s_l00Src__among : ACode := s [mi 4 0] [0,1]<|s [m 5 1,m 6 0,m 7 1,ln 8 7,o 9 (.call (.func F._s_l00Src__pick) [6,8] [0]),ix 10 1 5 9,lf 11 1 10,m 4 11] [4]<|.ret
theorem Cd._s_l00Src__among_k : CK 133 Tryz.f133 Cd._s_l00Src__among 12 [.tmp 4] := ck Tryz.func133
def Cd.s_l01Digit : ACode := s [mf 2] [0]<|s [m 3 0,o 4 (.bin .geq 3 (.const (.int .u8 (48)))),m 5 4,mg 6 0 5 true,⟨some 7,.bin .leq 6 (.const (.int .u8 (57))),some (5,true)⟩,pf 8 5 7,m 2 8] [2]<|.ret
theorem Cd.s_l01Digit_k : CK 137 Tryz.f137 Cd.s_l01Digit 9 [.tmp 2] := ck Tryz.func137
def Cd.internal_stringslite_IndexByte : ACode := s [mi 4 0] [0,1]<|s [m 5 0,m 6 1,o 7 (.idxB 5 6),m 4 7] [4]<|.ret
theorem Cd.internal_stringslite_IndexByte_k : CK 138 Tryz.f138 Cd.internal_stringslite_IndexByte 8 [.tmp 4] := ck Tryz.func138
def Cd.ixf_int64 : ACode := s [mi 4 0] [0,1]<|.seq (s [m 6 0,ln 7 6,mi 8 0] [0,1,7,8]<|.block 0 (.loop (s [ls 9 8 7] [0,1,7,8,9]<|.seq (.cond 9 .skip (.exit 0))<|.seq (.block 1 (s [m 10 8,m 5 10] [0,1,5,7,8]<|s [m 11 1,m 12 0,m 13 5,ix 14 1 12 13,lf 15 1 14,o 16 (.call 11 [15] [])] [0,1,5,7,8,16]<|.cond 16 (s [m 17 5,m 4 17]
 [4]<|.ret) .skip))<|.region [ad 18 8 1,m 8 18] [0,1,7,8] [])))<|s [mi 4 (-1)] [4]<|.ret
theorem Cd.ixf_int64_k : CK 148 Tryz.f148 Cd.ixf_int64 19 [.tmp 4] := ck Tryz.func148
def Cd.i_punchText : ACode := s [o 4 (.alloc [.v (.slice none 0 0)])] [0,1,4]<|s [m 7 1,c 8 F.i_blank [7],o 5 (.alloc [.v (.slice none 0 0)]),⟨none,.store 1 5 8,none⟩] [0,4,5]<|.seq (s [mi 6 0] [0,4,5,6]<|.block 0 (.loop (.seq (s [m 9 6,m 10 0,o 11 (.lenS 10),ls 12 9 11] [0,4,5,6,12]<|.cond 12 .skip (.exit 0))<|.seq (.block 1
 (.region [fa 15 0 5,lf 16 1 15,m 17 6,m 18 0,m 19 6,o 20 (.idxStr 18 19),c 21 F.i_codeOf [20],ix 22 1 16 17,⟨none,.store 1 22 21,none⟩] [0,4,5,6] [15,17,16,18,19,20,21]))<|.region [m 13 6,ad 14 13 1,m 6 14] [0,4,5,6] [])))<|s [lt 23 1 5,⟨none,.store 1 4 23,none⟩] [4]<|.ret
theorem Cd.i_punchText_k : CK 149 Tryz.f149 Cd.i_punchText 24 [.cell 4 42] := ck Tryz.func149
def Cd.i_codeOf : ACode := s [mi 2 0] [0]<|s [m 6 0,c 7 F.i_CodeOf [6],m 5 7,ex 8 5 0,ex 9 5 1,m 3 8,m 4 9] [3]<|s [m 10 3,m 2 10] [2]<|.ret
theorem Cd.i_codeOf_k : CK 150 Tryz.f150 Cd.i_codeOf 11 [.tmp 2] := ck Tryz.func150
def Cd.insort_int64_ : ACode := s [m 10 1,ad 11 10 1,m 8 11] [0,1,2,3,8]<|.block 0 (.loop (.seq (s [m 12 8,m 13 2,ls 14 12 13] [0,1,2,3,8,14]<|.cond 14 .skip (.exit 0))<|.seq (.block 1 (s [m 17 8,m 9 17] [0,1,2,3,8,9]<|.block 2 (.loop (.seq (r [m 18 9,m 19 1,o 20 (.bin .gtr 18 19),m 21 20,mg 22 3 21 true,mg 23 0 21 true,mg 24 9 21
 true,⟨some 25,.idxSl 1 23 24,some (21,true)⟩,lg 26 1 25 21 true,mg 27 0 21 true,mg 28 9 21 true,⟨some 29,.bin .sub 28 (k 1),some (21,true)⟩,⟨some 30,.idxSl 1 27 29,some (21,true)⟩,lg 31 1 30 21 true,⟨some 32,.call 22 [26,31] [],some (21,true)⟩,⟨some 33,.bin .lss 32 (k 0),some (21,true)⟩,pf 34 21 33]
 [0,1,2,3,8,9,34] [18,19,21,22,20,23,24,25,26,27,28,29,30,31,32,33,34]<|.cond 34 .skip (.exit 2))<|.seq (.block 3 (.region [m 37 0,m 38 9,m 39 0,m 40 9,o 41 (.bin .sub 40 (k 1)),m 42 0,m 43 9,o 44 (.bin .sub 43 (k 1)),ix 45 1 42 44,lf 46 1 45,m 47 0,m 48 9,ix 49 1 47 48,lf 50 1 49,ix 51 1 37
 38,⟨none,.store 1 51 46,none⟩,ix 52 1 39 41,⟨none,.store 1 52 50,none⟩] [0,1,2,3,8,9] [37,38,39,40,41,42,43,44,45,46,47,48,49,50,51]))<|.region [m 35 9,o 36 (.bin .sub 35 (k 1)),m 9 36] [0,1,2,3,8,9] []))))<|.region [m 15 8,ad 16 15 1,m 8 16] [0,1,2,3,8] []))
theorem Cd.insort_int64__k : CK 151 Tryz.f151 Cd.insort_int64_ 53 [] := ck Tryz.func151
def Cd.symMerge_int64_ : ACode := .seq (s [m 25 2,m 26 1,o 27 (.bin .sub 25 26),en 28 27 1] [0,1,2,3,4,28]<|.cond 28 (s [m 29 2,m 10 29] [0,1,3,4,10]<|s [m 30 3,m 11 30] [0,1,4,10,11]<|.seq (.block 0 (.loop (.seq (s [m 31 10,m 32 11,ls 33 31 32] [0,1,4,10,11,33]<|.cond 33 .skip (.exit 0))<|.block 1 (s [m 34 10,m 35 11,o 36 (.bin .add
 34 35),o 37 (.conv .u64 36),o 38 (.bin .shr 37 (.const (.int .u64 (1)))),o 39 (.conv .i64 38),m 12 39] [0,1,4,10,11,12]<|r [m 40 4,m 41 0,m 42 12,ix 43 1 41 42,lf 44 1 43,m 45 0,m 46 1,ix 47 1 45 46,lf 48 1 47,o 49 (.call 40 [44,48] []),o 50 (.bin .lss 49 (k 0))] [0,1,4,10,11,12,50]
 [40,41,42,43,44,45,46,47,48,49,50]<|.cond 50 (.region [m 51 12,ad 52 51 1,m 10 52] [0,1,4,10,11] []) (.region [m 53 12,m 11 53] [0,1,4,10,11] [])))))<|.seq (s [m 54 1,m 13 54] [0,10,13]<|.block 2 (.loop (.seq (s [m 55 13,m 56 10,o 57 (.bin .sub 56 (k 1)),ls 58 55 57] [0,10,13,58]<|.cond 58 .skip
 (.exit 2))<|.seq (.block 3 (.region [m 61 0,m 62 13,m 63 0,m 64 13,ad 65 64 1,m 66 0,m 67 13,ad 68 67 1,ix 69 1 66 68,lf 70 1 69,m 71 0,m 72 13,ix 73 1 71 72,lf 74 1 73,ix 75 1 61 62,⟨none,.store 1 75 70,none⟩,ix 76 1 63 65,⟨none,.store 1 76 74,none⟩] [0,10,13]
 [61,62,63,64,65,66,67,68,69,70,71,72,73,74,75]))<|.region [m 59 13,ad 60 59 1,m 13 60] [0,10,13] [])))<|.ret) .skip)<|.seq (s [m 77 3,m 78 2,o 79 (.bin .sub 77 78),en 80 79 1] [0,1,2,3,4,80]<|.cond 80 (s [m 81 1,m 14 81] [0,2,4,14]<|s [m 82 2,m 15 82] [0,2,4,14,15]<|.seq (.block 4 (.loop (.seq (s [m
 83 14,m 84 15,ls 85 83 84] [0,2,4,14,15,85]<|.cond 85 .skip (.exit 4))<|.block 5 (s [m 86 14,m 87 15,o 88 (.bin .add 86 87),o 89 (.conv .u64 88),o 90 (.bin .shr 89 (.const (.int .u64 (1)))),o 91 (.conv .i64 90),m 16 91] [0,2,4,14,15,16]<|r [m 92 4,m 93 0,m 94 2,ix 95 1 93 94,lf 96 1 95,m 97 0,m 98
 16,ix 99 1 97 98,lf 100 1 99,o 101 (.call 92 [96,100] []),o 102 (.bin .lss 101 (k 0)),nt 103 102] [0,2,4,14,15,16,103] [92,93,94,95,96,97,98,99,100,101,102,103]<|.cond 103 (.region [m 104 16,ad 105 104 1,m 14 105] [0,2,4,14,15] []) (.region [m 106 16,m 15 106] [0,2,4,14,15] [])))))<|.seq (s [m 107
 2,m 17 107] [0,14,17]<|.block 6 (.loop (.seq (s [m 108 17,m 109 14,o 110 (.bin .gtr 108 109)] [0,14,17,110]<|.cond 110 .skip (.exit 6))<|.seq (.block 7 (.region [m 113 0,m 114 17,m 115 0,m 116 17,o 117 (.bin .sub 116 (k 1)),m 118 0,m 119 17,o 120 (.bin .sub 119 (k 1)),ix 121 1 118 120,lf 122 1 121,m
 123 0,m 124 17,ix 125 1 123 124,lf 126 1 125,ix 127 1 113 114,⟨none,.store 1 127 122,none⟩,ix 128 1 115 117,⟨none,.store 1 128 126,none⟩] [0,14,17] [113,114,115,116,117,118,119,120,121,122,123,124,125,126,127]))<|.region [m 111 17,o 112 (.bin .sub 111 (k 1)),m 17 112] [0,14,17] [])))<|.ret) .skip)<|s
 [m 129 1,m 130 3,o 131 (.bin .add 129 130),o 132 (.conv .u64 131),o 133 (.bin .shr 132 (.const (.int .u64 (1)))),o 134 (.conv .i64 133),m 18 134] [0,1,2,3,4,18]<|s [m 135 18,m 136 2,o 137 (.bin .add 135 136),m 19 137] [0,1,2,3,4,18,19]<|s [mi 20 0,mi 21 0] [0,1,2,3,4,18,19]<|.seq (s [m 138 2,m 139
 18,o 140 (.bin .gtr 138 139)] [0,1,2,3,4,18,19,140]<|.cond 140 (s [m 141 19,m 142 3,o 143 (.bin .sub 141 142),m 20 143] [0,1,2,3,4,18,19,20]<|.region [m 144 18,m 21 144] [0,1,2,3,4,18,19,20,21] []) (s [m 145 1,m 20 145] [0,1,2,3,4,18,19,20]<|.region [m 146 2,m 21 146] [0,1,2,3,4,18,19,20,21] []))<|s
 [m 147 19,o 148 (.bin .sub 147 (k 1)),m 22 148] [0,1,2,3,4,18,19,20,21,22]<|.seq (.block 8 (.loop (.seq (s [m 149 20,m 150 21,ls 151 149 150] [0,1,2,3,4,18,19,20,21,22,151]<|.cond 151 .skip (.exit 8))<|.block 9 (s [m 152 20,m 153 21,o 154 (.bin .add 152 153),o 155 (.conv .u64 154),o 156 (.bin .shr
 155 (.const (.int .u64 (1)))),o 157 (.conv .i64 156),m 23 157] [0,1,2,3,4,18,19,20,21,22,23]<|r [m 158 4,m 159 0,m 160 22,m 161 23,o 162 (.bin .sub 160 161),ix 163 1 159 162,lf 164 1 163,m 165 0,m 166 23,ix 167 1 165 166,lf 168 1 167,o 169 (.call 158 [164,168] []),o 170 (.bin .lss 169 (k 0)),nt 171
 170] [0,1,2,3,4,18,19,20,21,22,23,171] [158,159,160,161,162,163,164,165,166,167,168,169,170,171]<|.cond 171 (.region [m 172 23,ad 173 172 1,m 20 173] [0,1,2,3,4,18,19,20,21,22] []) (.region [m 174 23,m 21 174] [0,1,2,3,4,18,19,20,21,22] [])))))<|s [m 175 19,m 176 20,o 177 (.bin .sub 175 176),m 24
 177] [0,1,2,3,4,18,20,24]<|.seq (s [m 178 20,m 179 2,ls 180 178 179,m 181 180,mg 182 2 181 true,mg 183 24 181 true,⟨some 184,.bin .lss 182 183,some (181,true)⟩,pf 185 181 184] [0,1,2,3,4,18,20,24,185]<|.cond 185 (.region [m 186 0,m 187 20,m 188 2,m 189 24,m 190 4,o 191 (.call (.func
 F.rotate_int64_) [186,187,188,189,190] [0])] [0,1,3,4,18,20,24] []) .skip)<|.seq (s [m 192 1,m 193 20,ls 194 192 193,m 195 194,mg 196 20 195 true,mg 197 18 195 true,⟨some 198,.bin .lss 196 197,some (195,true)⟩,pf 199 195 198] [0,1,3,4,18,20,24,199]<|.cond 199 (.region [m 200 0,m 201 1,m
 202 20,m 203 18,m 204 4,o 205 (.call (.func F.symMerge_int64_) [200,201,202,203,204] [0])] [0,3,4,18,24] []) .skip)<|s [m 206 18,m 207 24,ls 208 206 207,m 209 208,mg 210 24 209 true,mg 211 3 209 true,⟨some 212,.bin .lss 210 211,some (209,true)⟩,pf 213 209 212] [0,3,4,18,24,213]<|.cond
 213 (.region [m 214 0,m 215 18,m 216 24,m 217 3,m 218 4,o 219 (.call (.func F.symMerge_int64_) [214,215,216,217,218] [0])] [] []) .skip
theorem Cd.symMerge_int64__k : CK 152 Tryz.f152 Cd.symMerge_int64_ 220 [] := ck Tryz.func152
def Cd.i_steps : ACode := s [bx 3 1,mn 4] [0,3]<|.seq (.naming 5 (.region [o 7 (.bslice 1 0 [.v (.int .i64 (0))] []),m 5 7] [0,3,5] []))<|.seq (s [mi 6 1] [0,3,5,6]<|.block 0 (.loop (.seq (s [m 8 6,m 9 0,ln 10 9,ls 11 8 10] [0,3,5,6,11]<|.cond 11 .skip (.exit 0))<|.seq (.block 1 (r [m 14 0,m 15 6,ix 16 1 14 15,lt 17 1 16,m 18
 0,m 19 6,o 20 (.bin .sub 19 (k 1)),ix 21 1 18 20,lt 22 1 21,lt 23 2 3,c 24 F.i_compareFields [17,22,23],o 25 (.bin .lss 24 (k 0))] [0,3,5,6,25] [14,15,17,18,16,19,20,21,22,23,24,25]<|.cond 25 (.naming 5 (.region [m 26 5,m 27 6,o 28 (.bslice 1 1 [.v (.int .i64 (0))] [(0,27)]),o 29 (.append 1 8 26
 28),m 5 29] [0,3,5,6] [])) .skip))<|.region [m 12 6,ad 13 12 1,m 6 13] [0,3,5,6] [])))<|s [m 30 5,m 4 30] [4]<|.ret
theorem Cd.i_steps_k : CK 169 Tryz.f169 Cd.i_steps 31 [.tmp 4] := ck Tryz.func169
def Cd.i_blank : ACode := s [o 2 (.alloc [.v (.slice none 0 0)])] [0,2]<|s [m 3 0,o 4 (.mk 1 8 [.v (.int .i64 (0))] 3),o 5 (.build [.v (.slice none 0 0)] [(0,1,4)]),⟨none,.store 1 2 5,none⟩] [2]<|.ret
theorem Cd.i_blank_k : CK 171 Tryz.f171 Cd.i_blank 6 [.cell 2 42] := ck Tryz.func171
def Cd.i_CodeOf : ACode := s [mi 2 0,mf 3] [0]<|.seq (.block 0 (s [m 5 0,o 6 (.bin .eql 5 (.const (.int .u8 (32)))),m 4 6] [0,4]<|.cond 4 (s [mi 2 0,mt 3] [2,3]<|.ret) (s [m 8 0,o 9 (.bin .eql 8 (.const (.int .u8 (38)))),m 7 9] [0,7]<|.cond 7 (s [c 10 F.i_bitOf [(k 12)],m 2 10,mt 3] [2,3]<|.ret) (s [m 12 0,o 13 (.bin .eql
 12 (.const (.int .u8 (45)))),m 11 13] [0,11]<|.cond 11 (s [c 14 F.i_bitOf [(k 11)],m 2 14,mt 3] [2,3]<|.ret) (s [m 16 0,c 17 F.i_isDigit [16],m 15 17] [0,15]<|.cond 15 (s [m 18 0,o 19 (.bin .sub 18 (.const (.int .u8 (48)))),o 20 (.conv .i64 19),c 21 F.i_bitOf [20],m 2 21,mt 3] [2,3]<|.ret)
 (s [m 23 0,o 24 (.bin .geq 23 (.const (.int .u8 (65)))),m 25 24,mg 26 0 25 true,⟨some 27,.bin .leq 26 (.const (.int .u8 (73))),some (25,true)⟩,pf 28 25 27,m 22 28] [0,22]<|.cond 22 (s [c 29 F.i_bitOf [(k 12)],m 30 0,o 31 (.bin .sub 30 (.const (.int .u8 (65)))),o 32 (.conv .i64 31),ad 33 32 1,c 34
 F.i_bitOf [33],o 35 (.bin .or 29 34),m 2 35,mt 3] [2,3]<|.ret) (s [m 37 0,o 38 (.bin .geq 37 (.const (.int .u8 (74)))),m 39 38,mg 40 0 39 true,⟨some 41,.bin .leq 40 (.const (.int .u8 (82))),some (39,true)⟩,pf 42 39 41,m 36 42] [0,36]<|.cond 36 (s [c 43 F.i_bitOf [(k 11)],m 44 0,o 45 (.bin .sub
 44 (.const (.int .u8 (74)))),o 46 (.conv .i64 45),ad 47 46 1,c 48 F.i_bitOf [47],o 49 (.bin .or 43 48),m 2 49,mt 3] [2,3]<|.ret) (s [m 51 0,o 52 (.bin .eql 51 (.const (.int .u8 (47)))),m 50 52] [0,50]<|.cond 50 (s [c 53 F.i_bitOf [(k 0)],c 54 F.i_bitOf [(k 1)],o 55 (.bin .or 53 54),m 2 55,mt
 3] [2,3]<|.ret) (s [m 57 0,o 58 (.bin .geq 57 (.const (.int .u8 (83)))),m 59 58,mg 60 0 59 true,⟨some 61,.bin .leq 60 (.const (.int .u8 (90))),some (59,true)⟩,pf 62 59 61,m 56 62] [0,56]<|.cond 56 (s [c 63 F.i_bitOf [(k 0)],m 64 0,o 65 (.bin .sub 64 (.const (.int .u8 (83)))),o 66 (.conv .i64
 65),ad 67 66 2,c 68 F.i_bitOf [67],o 69 (.bin .or 63 68),m 2 69,mt 3] [2,3]<|.ret) .skip)))))))))<|s [mi 2 0,mf 3] [2,3]<|.ret
theorem Cd.i_CodeOf_k : CK 172 Tryz.f172 Cd.i_CodeOf 70 [.tmp 2, .tmp 3] := ck Tryz.func172
def Cd.rotate_int64_ : ACode := s [m 12 2,m 13 1,o 14 (.bin .sub 12 13),m 10 14] [0,2,3,4,10]<|s [m 15 3,m 16 2,o 17 (.bin .sub 15 16),m 11 17] [0,2,4,10,11]<|.seq (.block 0 (.loop (.seq (s [m 18 10,m 19 11,o 20 (.bin .neq 18 19)] [0,2,4,10,11,20]<|.cond 20 .skip (.exit 0))<|.block 1 (s [m 21 10,m 22 11,o 23 (.bin .gtr 21 22)]
 [0,2,4,10,11,23]<|.cond 23 (s [m 24 0,m 25 2,m 26 10,o 27 (.bin .sub 25 26),m 28 2,m 29 11,m 30 4,o 31 (.call (.func F.swapR_int64_) [24,27,28,29,30] [0])] [0,2,4,10,11]<|.region [m 32 10,m 33 11,o 34 (.bin .sub 32 33),m 10 34] [0,2,4,10,11] []) (s [m 35 0,m 36 2,m 37 10,o 38 (.bin
 .sub 36 37),m 39 2,m 40 11,o 41 (.bin .add 39 40),m 42 10,o 43 (.bin .sub 41 42),m 44 10,m 45 4,o 46 (.call (.func F.swapR_int64_) [35,38,43,44,45] [0])] [0,2,4,10,11]<|.region [m 47 11,m 48 10,o 49 (.bin .sub 47 48),m 11 49] [0,2,4,10,11] [])))))<|.region [m 50 0,m 51 2,m 52 10,o
 53 (.bin .sub 51 52),m 54 2,m 55 10,m 56 4,o 57 (.call (.func F.swapR_int64_) [50,53,54,55,56] [0])] [] []
theorem Cd.rotate_int64__k : CK 173 Tryz.f173 Cd.rotate_int64_ 58 [] := ck Tryz.func173
def Cd.i_isDigit : ACode := s [mf 2] [0]<|s [m 3 0,o 4 (.bin .geq 3 (.const (.int .u8 (48)))),m 5 4,mg 6 0 5 true,⟨some 7,.bin .leq 6 (.const (.int .u8 (57))),some (5,true)⟩,pf 8 5 7,m 2 8] [2]<|.ret
theorem Cd.i_isDigit_k : CK 186 Tryz.f186 Cd.i_isDigit 9 [.tmp 2] := ck Tryz.func186
def Cd.swapR_int64_ : ACode := s [mi 10 0] [0,1,2,3,10]<|.block 0 (.loop (.seq (s [m 11 10,m 12 3,ls 13 11 12] [0,1,2,3,10,13]<|.cond 13 .skip (.exit 0))<|.seq (.block 1 (.region [m 16 0,m 17 1,m 18 10,o 19 (.bin .add 17 18),m 20 0,m 21 2,m 22 10,o 23 (.bin .add 21 22),m 24 0,m 25 2,m 26 10,o 27 (.bin .add 25 26),ix 28 1 24 27,lf
 29 1 28,m 30 0,m 31 1,m 32 10,o 33 (.bin .add 31 32),ix 34 1 30 33,lf 35 1 34,ix 36 1 16 19,⟨none,.store 1 36 29,none⟩,ix 37 1 20 23,⟨none,.store 1 37 35,none⟩] [0,1,2,3,10] [16,17,18,19,20,21,22,23,24,25,26,27,28,29,30,31,32,33,34,35,36]))<|.region [m 14 10,ad 15 14 1,m 10 15] [0,1,2,3,10] []))
theorem Cd.swapR_int64__k : CK 187 Tryz.f187 Cd.swapR_int64_ 38 [] := ck Tryz.func187
attribute [go_sem] Cd.l_FnSpecs Cd.l_a2Long Cd.s_A2Cards Cd.s_A2Spec Cd.i_EvalSpec Cd.i_CardsFor Cd.s_ValidDeck Cd.i_SpecText Cd.s_NumberIn Cd.i_SumOfTotals Cd.i_TotalNamed Cd.s_l13Deck Cd.s_l00From Cd.s_l16Draw Cd.i_cardsFor Cd.i_haveField Cd.i_totalsOf Cd.i_sortedBy Cd.s_l02Deck Cd.i_ValidSpec Cd.i_span Cd.s_l02Code Cd.s_l03Number Cd.s_l02Part Cd.ixf_Total Cd.i_TotalNamed_1 Cd._s_l00Src__pick Cd.i_inside Cd.i_isField Cd.i_isNumberField Cd.i_areCharacters Cd.i_Decimal Cd.s_l13Card Cd._s_l00Src__one Cd._s_l00Src__text Cd.i_ValidDeck Cd.i_deckColumns Cd.i_newDeck Cd.i_SelectEqual Cd.ctf_Card Cd.i_haveField_1 Cd.i_hasField Cd.i_sumsOf Cd.i_groups Cd.i_fieldText Cd.i_orderBy Cd.i_newCard Cd.s_l02Ok Cd.s_l02Field Cd.s_l03Digit Cd._s_l00Src__next Cd.s_l00In Cd.i_isCharacter Cd.strconv_FormatInt Cd._i_Card__columns Cd.s_l03Card Cd.s_l03Put Cd.i_ValidCard Cd.i_SelectBetween Cd.ixf_Card Cd.i_hasCharacters Cd.i_numberIn Cd.i_groupsOf Cd.i_size_i_Card_ Cd.i_textOf Cd.sortst___int64 Cd.i_orderBy_1 Cd.i_compareFields Cd.i_copyInts Cd.s_l02Bit Cd.s_l03Code Cd.strings_IndexByte Cd.i_size_int64_ Cd.ctf_int64 Cd.i_ValidCard_1 Cd.i_collateCode Cd.dlf_Card Cd.i_SelectBetween_1 Cd.i_compareText Cd.i_hasCharacters_1 Cd.i_rankOf Cd.i_numberIn_1 Cd.i_bitOf Cd.i_digitOf Cd.stable_int64_ Cd.i_compareHoles Cd._s_l00Src__among Cd.s_l01Digit Cd.internal_stringslite_IndexByte Cd.ixf_int64 Cd.i_punchText Cd.i_codeOf Cd.insort_int64_ Cd.symMerge_int64_ Cd.i_steps Cd.i_blank Cd.i_CodeOf Cd.rotate_int64_ Cd.i_isDigit Cd.swapR_int64_
end Go.Proofs.YtidbcoagjbbjdaaGreatDoor
