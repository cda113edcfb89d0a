/- The code of each function, resolved. -/
import Derived.Test.YtimcedhcefcbbaaDoorVtC
import Derived.Test.YtimcedhcefcbbaaDoorRows
set_option linter.all false
set_option maxHeartbeats 8000000
namespace Go.Proofs.YtimcedhcefcbbaaDoor
open Go.Vs Go.Vs.Q
set_option maxRecDepth 100000
theorem Tryd.own : ownKnob Tryd.prog.godebug = none := by kernel_rfl
theorem Tryd.laidOut : laidOutB Tryd.prog = true := by kernel_rfl
theorem Tryd.mixed : Tryd.prog.follows .mixedOrders = true := Tryd.checked.mixed
attribute [go_sem] reduceIte reduceCtorEq Nat.reduceEqDiff Nat.reduceLT Nat.reduceLeDiff Nat.reduceAdd Nat.reduceMul Nat.reduceSub Int.reduceToNat Int.reduceNeg
abbrev Fz [Vs.Envs] (f : FuncId) (a : List AV) (r : AV) : Prop := Vs.Fn Tryd.prog f [] a r []
structure CK (f : FuncId) (fn : Func) (ac : ACode) (nt : Nat) (rs : List ResultVar) : Prop where
 o : CodeIsR Tryd.prog f fn ac
 n : fn.ntmps = nt
 r : fn.results.toList = rs
theorem ck {f : FuncId} {fn : Func} {ac : ACode} {nt : Nat} {rs : List ResultVar} (h : Tryd.prog.funcs[f]? = some fn) (h1 : fn.body.bind (cCode Tryd.prog fn.ntmps (drawnG Tryd.prog)) = some ac.bare := by kernel_rfl) (h2 : (fn.name != "runtime.NumGoroutine") = true := by decide +kernel) (h3 : fn.ntmps = nt := by rfl) (h4 : fn.results.toList = rs := by rfl) : CK f fn ac nt rs := ⟨⟨h, h1, h2⟩, h3, h4⟩
theorem fn0 [Vs.Envs] {f : FuncId} {fn : Func} {ac : ACode} {nt : Nat} {rs : List ResultVar} (h : CK f fn ac nt rs) {args : List AV} {r : AV}
 (hw : ∀ C : Ctx, wpc Tryd.prog C (drawnG Tryd.prog) ac (retK Tryd.prog rs [] r []) (fun e σ => match e with | .ret => retK Tryd.prog rs [] r [] σ | .exit _ => False) ⟨ini 0 args, []⟩) (hna : Nat.ble args.length nt = true := by rfl) : Vs.Fn Tryd.prog f [] args r [] :=
 h.o.fn0 Tryd.mixed h.n h.r hna hw
theorem fn1 [Vs.Envs] {f : FuncId} {fn : Func} {ac : ACode} {nt : Nat} {rs : List ResultVar} (h : CK f fn ac nt rs) {hin : List Blk} {args : List AV} {r : AV} {hout' : List (Option Blk)} (B : List Vs.Name) (hout : List Blk)
 (hw : ∀ C : Ctx, wpc Tryd.prog C (drawnG Tryd.prog) ac (retK Tryd.prog rs B r hout) (fun e σ => match e with | .ret => retK Tryd.prog rs B r hout σ | .exit _ => False) ⟨ini 0 args, iniH 0 hin⟩) (ho : hout' = hout.map some := by rfl) (hna : Nat.ble args.length nt = true := by rfl) (hnd : nodupB B = true := by rfl) (hB : ∀ j, j < hin.length → B[j]? = some (.b j) := by first | (simp; done) | (intro j hj; rcases j with _ | _ | _ | j <;> first | rfl | (simp at hj; done) | (simp at hj; omega))) : Vs.Fn Tryd.prog f hin args r hout' :=
 h.o.fn Tryd.mixed nt rs B hout h.n h.r ho (Nat.le_of_ble_eq_true hna) hnd hB hw
theorem dM [Vs.Envs] : DrawOK Tryd.prog (drawnG Tryd.prog) := drawn_ok Tryd.mixed
namespace F
abbrev lawCalculateDeck : FuncId := 3
abbrev l_szCardS : FuncId := 4
abbrev s_CalculateDeck : FuncId := 5
abbrev l_toCardS : FuncId := 6
abbrev l_toField : FuncId := 7
abbrev i_CalculateDeck : FuncId := 8
abbrev l_eqCardS : FuncId := 9
abbrev l_markCardS : FuncId := 10
abbrev l_heldCardS : FuncId := 11
abbrev l_szCard : FuncId := 12
abbrev s_l02Deck : FuncId := 13
abbrev s_l14Kind : FuncId := 14
abbrev s_l14Fields : FuncId := 15
abbrev s_l07Width : FuncId := 16
abbrev s_l14Card : FuncId := 17
abbrev l_toCard : FuncId := 18
abbrev i_ValidDeck : FuncId := 19
abbrev i_calcCode : FuncId := 20
abbrev i_deckColumns : FuncId := 21
abbrev i_calculatedCard : FuncId := 22
abbrev l_eqCard : FuncId := 23
abbrev l_markInt64S : FuncId := 24
abbrev l_heldInt64S : FuncId := 25
abbrev l_szInt64S : FuncId := 26
abbrev s_l02Ok : FuncId := 27
abbrev s_l00In : FuncId := 28
abbrev s_l02Field : FuncId := 29
abbrev s_l14Read : FuncId := 30
abbrev s_l14Do : FuncId := 31
abbrev s_l03Put : FuncId := 32
abbrev s_l02Own : FuncId := 33
abbrev l_toInt64S : FuncId := 34
abbrev i_ValidCard : FuncId := 35
abbrev _i_Card__columns : FuncId := 36
abbrev i_isCalc : FuncId := 37
abbrev ctf_Field : FuncId := 38
abbrev i_calcCode_1 : FuncId := 39
abbrev i_isNumberField : FuncId := 40
abbrev i_calculated : FuncId := 41
abbrev i_digitsOf : FuncId := 42
abbrev i_absOf : FuncId := 43
abbrev ctf_int64 : FuncId := 44
abbrev i_calculatedCard_1 : FuncId := 45
abbrev i_punchNumber : FuncId := 46
abbrev l_eqInt64S : FuncId := 47
abbrev s_l03Number : FuncId := 48
abbrev s_l02Part : FuncId := 49
abbrev s_ProductBy : FuncId := 50
abbrev s_QuotientBy : FuncId := 51
abbrev s_l14Number : FuncId := 52
abbrev s_l02Bit : FuncId := 53
abbrev s_l00Own : FuncId := 54
abbrev i_inside : FuncId := 55
abbrev i_ValidCard_1 : FuncId := 56
abbrev i_size_int64_ : FuncId := 57
abbrev ixf_Field : FuncId := 58
abbrev i_isField : FuncId := 59
abbrev i_numberIn : FuncId := 60
abbrev i_Calculate : FuncId := 61
abbrev i_Decimal : FuncId := 62
abbrev ixf_int64 : FuncId := 63
abbrev i_newCard : FuncId := 64
abbrev i_bitOf : FuncId := 65
abbrev s_l03Digit : FuncId := 66
abbrev s_l14Factor : FuncId := 67
abbrev s_l14Times : FuncId := 68
abbrev s_l14Size : FuncId := 69
abbrev s_l14Divide : FuncId := 70
abbrev i_copyInts : FuncId := 71
abbrev i_numberIn_1 : FuncId := 72
abbrev i_digitOf : FuncId := 73
abbrev i_isNumber : FuncId := 74
abbrev i_ProductBy : FuncId := 75
abbrev i_QuotientBy : FuncId := 76
abbrev strconv_FormatInt : FuncId := 77
abbrev s_l14Parts : FuncId := 78
abbrev s_l00Max : FuncId := 79
abbrev i_isFactor : FuncId := 80
abbrev i_digitList : FuncId := 81
abbrev i_digitSum : FuncId := 82
abbrev internal_strconv_FormatInt : FuncId := 83
abbrev i_wheelsShow : FuncId := 84
abbrev internal_strconv_small : FuncId := 85
abbrev internal_strconv_numDigits : FuncId := 86
abbrev internal_strconv_formatBase10 : FuncId := 87
abbrev internal_strconv_log10Pow2 : FuncId := 89
end F
theorem Ld.t30 : ldOf Tryd.prog 30 = some (true, 2) := by kernel_rfl
theorem Ld.t44 : ldOf Tryd.prog 44 = some (true, 1) := by kernel_rfl
theorem Ld.t94 : ldOf Tryd.prog 94 = some (true, 1) := by kernel_rfl
attribute [go_sem] Ld.t30 Ld.t44 Ld.t94
def Cd.lawCalculateDeck : ACode := s [bx 7 2,bx 8 3,bx 9 4,mf 10] [0,1,7,8,9]<|s [mi 11 1048576] [0,1,7,8,9,11]<|s [m 22 1,m 23 11,c 24 F.l_szCardS [22,23],m 11 24] [0,1,7,8,9,11]<|.seq (s [m 25 11,o 26 (.bin .lss 25 (k 0))] [0,1,7,8,9,26]<|.cond 26 (s [mt 10] [10]<|.ret) .skip)<|r [m 28 0,m 29 1,c 30 F.l_toCardS [29],lt 31 2
 7,c 32 F.l_toField [31],lt 33 2 8,c 34 F.l_toField [33],lt 35 2 9,c 36 F.l_toField [35],c 37 F.s_CalculateDeck [28,30,32,34,36],m 27 37,ex 38 27 0,ex 39 27 1,m 12 38,m 13 39] [0,1,7,8,9,12,13] [28,29,30,31,32,33,34,35,36,37,27,38,39,12]<|s [m 40 1,c 41 F.l_toCardS [40],m 14 41]
 [0,1,7,8,9,12,13,14]<|r [m 43 0,m 44 14,lt 45 2 7,c 46 F.l_toField [45],lt 47 2 8,c 48 F.l_toField [47],lt 49 2 9,c 50 F.l_toField [49],c 51 F.i_CalculateDeck [43,44,46,48,50],m 42 51,ex 52 42 0,ex 53 42 1,m 15 52,m 16 53] [0,1,7,8,9,12,13,14,15,16]
 [43,44,45,46,47,48,49,50,51,42,52,53,15]<|.seq (s [m 54 15,m 55 12,c 56 F.l_eqCardS [54,55],nt 57 56,m 58 57,mg 59 16 58 false,mg 60 13 58 false,⟨some 61,.bin .neq 59 60,some (58,false)⟩,pt 62 58 61] [0,1,7,8,9,12,13,14,15,16,62]<|.cond 62 (s [mf 10] [10]<|.ret) .skip)<|.seq (s [m 63 14,m 64 1,c
 65 F.l_toCardS [64],c 66 F.l_eqCardS [63,65],nt 67 66] [0,1,7,8,9,12,13,14,15,16,67]<|.cond 67 (s [mf 10] [10]<|.ret) .skip)<|s [mi 17 1] [0,1,7,8,9,12,13,14,15,16,17]<|s [m 68 14,m 69 17,o 70 (.call (.func F.l_markCardS) [68,69] [0]),m 17 70] [0,1,7,8,9,12,13,15,16,17]<|.seq (s [m 71 17,o
 72 (.bin .lss 71 (k 0)),m 73 72,mg 74 15 73 false,mg 75 12 73 false,⟨some 76,.call (.func F.l_eqCardS) [74,75] [],some (73,false)⟩,⟨some 77,.un .not 76,some (73,false)⟩,pt 78 73 77,m 79 78,mg 80 16 79 false,mg 81 13 79 false,⟨some 82,.bin .neq 80 81,some (79,false)⟩,pt 83 79 82]
 [0,1,7,8,9,12,13,15,83]<|.cond 83 (s [mf 10] [10]<|.ret) .skip)<|s [mi 18 1] [0,1,7,8,9,12,13,15,18]<|s [m 84 15,m 85 18,o 86 (.call (.func F.l_markCardS) [84,85] [0]),m 18 86] [0,1,7,8,9,12,13,15,18]<|s [mi 19 1] [0,1,7,8,9,12,13,15,18,19]<|s [m 87 15,m 88 19,c 89 F.l_heldCardS [87,88],m 19
 89] [0,1,7,8,9,12,13,15,18,19]<|.seq (s [m 90 19,o 91 (.bin .lss 90 (k 0))] [0,1,7,8,9,12,13,15,18,19,91]<|.cond 91 (s [mf 10] [10]<|.ret) .skip)<|.seq (s [m 92 19,m 93 18,o 94 (.bin .neq 92 93)] [0,1,7,8,9,12,13,15,18,94]<|.cond 94 (s [mf 10] [10]<|.ret) .skip)<|r [m 96 0,m 97 1,c 98 F.l_toCardS
 [97],lt 99 2 7,c 100 F.l_toField [99],lt 101 2 8,c 102 F.l_toField [101],lt 103 2 9,c 104 F.l_toField [103],c 105 F.i_CalculateDeck [96,98,100,102,104],m 95 105,ex 106 95 0,ex 107 95 1,m 20 106,m 21 107] [12,13,15,18,20,21] [96,97,98,99,100,101,102,103,104,105,95,106,107,20]<|.seq (s [m
 108 20,m 109 12,c 110 F.l_eqCardS [108,109],nt 111 110,m 112 111,mg 113 21 112 false,mg 114 13 112 false,⟨some 115,.bin .neq 113 114,some (112,false)⟩,pt 116 112 115] [15,18,116]<|.cond 116 (s [mf 10] [10]<|.ret) .skip)<|s [mi 19 1] [15,18,19]<|s [m 117 15,m 118 19,c 119 F.l_heldCardS
 [117,118],m 19 119] [18,19]<|.seq (s [m 120 19,o 121 (.bin .lss 120 (k 0))] [18,19,121]<|.cond 121 (s [mf 10] [10]<|.ret) .skip)<|.seq (s [m 122 19,m 123 18,o 124 (.bin .neq 122 123)] [124]<|.cond 124 (s [mf 10] [10]<|.ret) .skip)<|s [mt 10] [10]<|.ret
theorem Cd.lawCalculateDeck_k : CK 3 Tryd.f3 Cd.lawCalculateDeck 125 [.tmp 10] := ck Tryd.func3
def Cd.l_szCardS : ACode := s [mi 4 0] [0,1]<|s [m 6 1,m 7 0,ln 8 7,o 9 (.bin .sub 6 8),m 1 9] [0,1]<|.seq (s [m 10 1,o 11 (.bin .lss 10 (k 0))] [0,1,11]<|.cond 11 (s [mi 4 (-1)] [4]<|.ret) .skip)<|.seq (s [mi 5 0] [0,1,5]<|.block 0 (.loop (.seq (s [m 12 5,m 13 0,ln 14 13,ls 15 12 14] [0,1,5,15]<|.cond 15 .skip (.exit 0))<|.seq
 (.block 1 (s [m 18 0,m 19 5,ix 20 1 18 19,lt 21 1 20,m 22 1,c 23 F.l_szCard [21,22],m 1 23] [0,1,5]<|s [m 24 1,o 25 (.bin .lss 24 (k 0))] [0,1,5,25]<|.cond 25 (s [mi 4 (-1)] [4]<|.ret) .skip))<|.region [m 16 5,ad 17 16 1,m 5 17] [0,1,5] [])))<|s [m 26 1,m 4 26] [4]<|.ret
theorem Cd.l_szCardS_k : CK 4 Tryd.f4 Cd.l_szCardS 27 [.tmp 4] := ck Tryd.func4
def Cd.s_CalculateDeck : ACode := s [bx 7 2,bx 8 3,bx 9 4,mn 10,mi 11 0] [0,1,7,8,9]<|.seq (s [m 17 1,c 18 F.s_l02Deck [17],nt 19 18] [0,1,7,8,9,19]<|.cond 19 (s [mn 10,mi 11 1] [10,11]<|.ret) .skip)<|.seq (r [m 20 0,c 21 F.s_l14Kind [20],nt 22 21,m 23 22,⟨some 24,.load true 2 7,some (23,false)⟩,⟨some 25,.load true 2 8,some
 (23,false)⟩,⟨some 26,.load true 2 9,some (23,false)⟩,⟨some 27,.bslice 2 3 [.v (.int .i64 (0)),.v (.int .i64 (0))] [(0,24),(1,25),(2,26)],some (23,false)⟩,mg 28 1 23 false,⟨some 29,.call (.func F.s_l07Width) [28] [],some (23,false)⟩,⟨some 30,.call (.func F.s_l14Fields) [27,29] [],some
 (23,false)⟩,⟨some 31,.un .not 30,some (23,false)⟩,pt 32 23 31] [0,1,7,8,9,32] [20,22,23,24,21,25,26,27,28,29,30,31,32]<|.cond 32 (s [mn 10,mi 11 2] [10,11]<|.ret) .skip)<|.seq (.naming 12 (.region [o 33 (.bslice 1 0 [.v (.slice none 0 0)] []),m 12 33] [0,1,7,8,9,12] []))<|.seq (s [mi 13 0]
 [0,1,7,8,9,12,13]<|.block 0 (.loop (.seq (s [m 34 13,m 35 1,ln 36 35,ls 37 34 36] [0,1,7,8,9,12,13,37]<|.cond 37 .skip (.exit 0))<|.seq (.block 1 (r [m 41 0,m 42 1,m 43 13,ix 44 1 42 43,lt 45 2 7,lt 46 2 8,lt 47 2 9,c 48 F.s_l14Card [41,44,45,46,47],m 40 48,ex 49 40 0,ex 50 40 1,ex 51 40 2,o 14
 (.alloc [.v (.slice none 0 0)]),⟨none,.store 1 14 49,none⟩,m 15 50,m 16 51] [0,1,7,8,9,12,13,14,16] [41,42,43,44,45,46,47,48,40,49,50,51,14,15]<|.seq (s [m 52 16,ne 53 52 0] [0,1,7,8,9,12,13,14,16,53]<|.cond 53 (s [m 54 16,mn 10,m 11 54] [10,11]<|.ret) .skip)<|.naming 12 (.region [m 55 12,lt 56 1
 14,o 57 (.bslice 1 1 [.v (.slice none 0 0)] [(0,56)]),o 58 (.append 1 24 55 57),m 12 58] [0,1,7,8,9,12,13] [])))<|.region [m 38 13,ad 39 38 1,m 13 39] [0,1,7,8,9,12,13] [])))<|s [m 59 12,m 10 59,mi 11 0] [10,11]<|.ret
theorem Cd.s_CalculateDeck_k : CK 5 Tryd.f5 Cd.s_CalculateDeck 60 [.tmp 10, .tmp 11] := ck Tryd.func5
def Cd.l_toCardS : ACode := s [mn 2] [0]<|s [m 5 0,ln 6 5,o 7 (.mk 1 24 [.v (.slice none 0 0)] 6),m 3 7] [0,3]<|.seq (s [mi 4 0] [0,3,4]<|.block 0 (.loop (.seq (s [m 8 4,m 9 0,ln 10 9,ls 11 8 10] [0,3,4,11]<|.cond 11 .skip (.exit 0))<|.seq (.block 1 (.region [m 14 3,m 15 4,m 16 0,m 17 4,ix 18 1 16 17,lt 19 1 18,c 20
 F.l_toCard [19],ix 21 1 14 15,⟨none,.store 1 21 20,none⟩] [0,3,4] []))<|.region [m 12 4,ad 13 12 1,m 4 13] [0,3,4] [])))<|s [m 22 3,m 2 22] [2]<|.ret
theorem Cd.l_toCardS_k : CK 6 Tryd.f6 Cd.l_toCardS 23 [.tmp 2] := ck Tryd.func6
def Cd.l_toField : ACode := s [bx 1 0,o 2 (.alloc [.v (.int .i64 (0)),.v (.int .i64 (0))])] [1,2]<|s [o 3 (.alloc [.v (.int .i64 (0)),.v (.int .i64 (0))])] [1,2,3]<|s [fa 4 0 1,lf 5 1 4,fa 6 0 3,⟨none,.store 1 6 5,none⟩] [1,2,3]<|s [fa 7 1 1,lf 8 1 7,fa 9 1 3,⟨none,.store 1 9 8,none⟩] [2,3]<|s [lt 10 2 3,⟨none,.store 2 2
 10,none⟩] [2]<|.ret
theorem Cd.l_toField_k : CK 7 Tryd.f7 Cd.l_toField 11 [.cell 2 30] := ck Tryd.func7
def Cd.i_CalculateDeck : ACode := s [bx 7 2,bx 8 3,bx 9 4,mn 10,mi 11 0] [0,1,7,8,9]<|.seq (s [m 18 1,c 19 F.i_ValidDeck [18],nt 20 19] [0,1,7,8,9,20]<|.cond 20 (s [mn 10,mi 11 1] [10,11]<|.ret) .skip)<|.seq (r [m 21 0,m 22 1,c 23 F.i_deckColumns [22],lt 24 2 7,lt 25 2 8,lt 26 2 9,o 27 (.bslice 2 3 [.v (.int .i64 (0)),.v (.int
 .i64 (0))] [(0,24),(1,25),(2,26)]),c 28 F.i_calcCode [21,23,27],m 12 28] [0,1,7,8,9,12] [21,22,23,24,25,26,27,28]<|s [m 29 12,ne 30 29 0] [0,1,7,8,9,12,30]<|.cond 30 (s [m 31 12,mn 10,m 11 31] [10,11]<|.ret) .skip)<|.seq (.naming 13 (.region [o 32 (.bslice 1 0 [.v (.slice none 0 0)] []),m 13 32]
 [0,1,7,8,9,13] []))<|.seq (s [m 33 1,ln 34 33,mi 35 0] [0,7,8,9,13,33,34,35]<|.block 0 (.loop (s [ls 36 35 34] [0,7,8,9,13,33,34,35,36]<|.seq (.cond 36 .skip (.exit 0))<|.seq (.block 1 (s [ix 37 1 33 35,lt 38 1 37,o 15 (.alloc [.v (.slice none 0 0)]),⟨none,.store 1 15 38,none⟩]
 [0,7,8,9,13,15,33,34,35]<|s [m 40 0,lt 41 1 15,lt 42 2 7,lt 43 2 8,lt 44 2 9,c 45 F.i_calculatedCard [40,41,42,43,44],m 39 45,ex 46 39 0,ex 47 39 1,o 16 (.alloc [.v (.slice none 0 0)]),⟨none,.store 1 16 46,none⟩,m 17 47] [0,7,8,9,13,16,17,33,34,35]<|.seq (s [m 48 17,ne 49 48 0]
 [0,7,8,9,13,16,17,33,34,35,49]<|.cond 49 (s [m 50 17,mn 10,m 11 50] [10,11]<|.ret) .skip)<|.naming 13 (.region [m 51 13,lt 52 1 16,o 53 (.bslice 1 1 [.v (.slice none 0 0)] [(0,52)]),o 54 (.append 1 24 51 53),m 13 54] [0,7,8,9,13,33,34,35] [])))<|.region [ad 55 35 1,m 35 55] [0,7,8,9,13,33,34,35]
 [])))<|s [m 56 13,m 10 56,mi 11 0] [10,11]<|.ret
theorem Cd.i_CalculateDeck_k : CK 8 Tryd.f8 Cd.i_CalculateDeck 57 [.tmp 10, .tmp 11] := ck Tryd.func8
def Cd.l_eqCardS : ACode := s [mf 4] [0,1]<|.seq (s [m 6 0,ln 7 6,m 8 1,ln 9 8,o 10 (.bin .neq 7 9)] [0,1,10]<|.cond 10 (s [mf 4] [4]<|.ret) .skip)<|.seq (s [mi 5 0] [0,1,5]<|.block 0 (.loop (.seq (s [m 11 5,m 12 0,ln 13 12,ls 14 11 13] [0,1,5,14]<|.cond 14 .skip (.exit 0))<|.seq (.block 1 (r [m 17 0,m 18 5,ix 19 1 17 18,lt 20
 1 19,m 21 1,m 22 5,ix 23 1 21 22,lt 24 1 23,c 25 F.l_eqCard [20,24],nt 26 25] [0,1,5,26] [17,18,20,21,19,22,23,24,25,26]<|.cond 26 (s [mf 4] [4]<|.ret) .skip))<|.region [m 15 5,ad 16 15 1,m 5 16] [0,1,5] [])))<|s [mt 4] [4]<|.ret
theorem Cd.l_eqCardS_k : CK 9 Tryd.f9 Cd.l_eqCardS 27 [.tmp 4] := ck Tryd.func9
def Cd.l_markCardS : ACode := s [mi 4 0] [0,1]<|.seq (s [mi 5 0] [0,1,5]<|.block 0 (.loop (.seq (s [m 6 5,m 7 0,ln 8 7,ls 9 6 8] [0,1,5,9]<|.cond 9 .skip (.exit 0))<|.seq (.block 1 (.region [m 12 0,m 13 5,ix 14 1 12 13,fa 15 0 14,lf 16 1 15,m 17 1,o 18 (.call (.func F.l_markInt64S) [16,17] [0]),m 1 18] [0,1,5] []))<|.region [m
 10 5,ad 11 10 1,m 5 11] [0,1,5] [])))<|s [m 19 1,m 4 19] [4]<|.ret
theorem Cd.l_markCardS_k : CK 10 Tryd.f10 Cd.l_markCardS 20 [.tmp 4] := ck Tryd.func10
def Cd.l_heldCardS : ACode := s [mi 4 0] [0,1]<|.seq (s [mi 5 0] [0,1,5]<|.block 0 (.loop (.seq (s [m 6 5,m 7 0,ln 8 7,ls 9 6 8] [0,1,5,9]<|.cond 9 .skip (.exit 0))<|.seq (.block 1 (s [m 12 0,m 13 5,ix 14 1 12 13,fa 15 0 14,lf 16 1 15,m 17 1,c 18 F.l_heldInt64S [16,17],m 1 18] [0,1,5]<|s [m 19 1,o 20 (.bin .lss 19 (k 0))]
 [0,1,5,20]<|.cond 20 (s [mi 4 (-1)] [4]<|.ret) .skip))<|.region [m 10 5,ad 11 10 1,m 5 11] [0,1,5] [])))<|s [m 21 1,m 4 21] [4]<|.ret
theorem Cd.l_heldCardS_k : CK 11 Tryd.f11 Cd.l_heldCardS 22 [.tmp 4] := ck Tryd.func11
def Cd.l_szCard : ACode := s [bx 2 0,mi 4 0] [1,2]<|s [fa 5 0 2,lf 6 1 5,m 7 1,c 8 F.l_szInt64S [6,7],m 1 8] [1]<|.seq (s [m 9 1,o 10 (.bin .lss 9 (k 0))] [1,10]<|.cond 10 (s [mi 4 (-1)] [4]<|.ret) .skip)<|s [m 11 1,m 4 11] [4]<|.ret
theorem Cd.l_szCard_k : CK 12 Tryd.f12 Cd.l_szCard 12 [.tmp 4] := ck Tryd.func12
def Cd.s_l02Deck : ACode := s [mf 2] [0]<|.seq (s [mi 3 0] [0,3]<|.block 0 (.loop (.seq (s [m 4 3,m 5 0,ln 6 5,ls 7 4 6] [0,3,7]<|.cond 7 .skip (.exit 0))<|.seq (.block 1 (r [m 10 0,m 11 3,ix 12 1 10 11,c 13 F.s_l02Ok [12],nt 14 13,m 15 14,mg 16 0 15 false,mg 17 3 15 false,⟨some 18,.idxSl 1 16 17,some (15,false)⟩,fg 19 0 18
 15 false,lg 20 1 19 15 false,⟨some 21,.len 20,some (15,false)⟩,mg 22 0 15 false,⟨some 23,.idxSl 1 22 (k 0),some (15,false)⟩,fg 24 0 23 15 false,lg 25 1 24 15 false,⟨some 26,.len 25,some (15,false)⟩,⟨some 27,.bin .neq 21 26,some (15,false)⟩,pt 28 15 27] [0,3,28]
 [10,11,13,14,12,15,16,17,18,19,20,21,22,23,24,25,26,27,28]<|.cond 28 (s [mf 2] [2]<|.ret) .skip))<|.region [m 8 3,ad 9 8 1,m 3 9] [0,3] [])))<|s [m 29 0,ln 30 29,o 31 (.bin .leq 30 (k 40)),m 2 31] [2]<|.ret
theorem Cd.s_l02Deck_k : CK 13 Tryd.f13 Cd.s_l02Deck 32 [.tmp 2] := ck Tryd.func13
def Cd.s_l14Kind : ACode := s [mf 2] [0]<|s [m 3 0,c 4 F.s_l00In [3,(k 1),(k 4)],m 2 4] [2]<|.ret
theorem Cd.s_l14Kind_k : CK 14 Tryd.f14 Cd.s_l14Kind 5 [.tmp 2] := ck Tryd.func14
def Cd.s_l14Fields : ACode := s [mf 4] [0,1]<|.seq (s [mi 5 0] [0,1,5]<|.block 0 (.loop (.seq (s [m 6 5,m 7 0,ln 8 7,ls 9 6 8] [0,1,5,9]<|.cond 9 .skip (.exit 0))<|.seq (.block 1 (r [m 12 0,m 13 5,ix 14 2 12 13,lt 15 2 14,m 16 1,c 17 F.s_l02Field [15,16],nt 18 17,m 19 18,mg 20 0 19 false,mg 21 5 19 false,⟨some 22,.idxSl 2 20
 21,some (19,false)⟩,fg 23 1 22 19 false,lg 24 1 23 19 false,mg 25 0 19 false,mg 26 5 19 false,⟨some 27,.idxSl 2 25 26,some (19,false)⟩,fg 28 0 27 19 false,lg 29 1 28 19 false,⟨some 30,.bin .sub 24 29,some (19,false)⟩,⟨some 31,.bin .gtr 30 (k 12),some (19,false)⟩,pt 32 19 31] [0,1,5,32]
 [12,13,15,16,14,17,18,19,20,21,22,23,24,25,26,27,28,29,30,31,32]<|.cond 32 (s [mf 4] [4]<|.ret) .skip))<|.region [m 10 5,ad 11 10 1,m 5 11] [0,1,5] [])))<|s [mt 4] [4]<|.ret
theorem Cd.s_l14Fields_k : CK 15 Tryd.f15 Cd.s_l14Fields 33 [.tmp 4] := ck Tryd.func15
def Cd.s_l07Width : ACode := s [mi 2 0] [0]<|.seq (s [m 3 0,ln 4 3,en 5 4 0] [0,5]<|.cond 5 (s [mi 2 20] [2]<|.ret) .skip)<|s [m 6 0,o 7 (.idxSl 1 6 (k 0)),fa 8 0 7,lf 9 1 8,ln 10 9,m 2 10] [2]<|.ret
theorem Cd.s_l07Width_k : CK 16 Tryd.f16 Cd.s_l07Width 11 [.tmp 2] := ck Tryd.func16
def Cd.s_l14Card : ACode := s [bx 7 2,bx 8 3,bx 9 4,o 10 (.alloc [.v (.slice none 0 0)]),mi 11 0,mi 12 0] [0,1,7,8,9,10]<|s [m 25 1,lt 26 2 7,lt 27 2 8,c 28 F.s_l14Read [25,26,27],m 24 28,ex 29 24 0,ex 30 24 1,ex 31 24 2,m 13 29,m 14 30,m 15 31] [0,1,9,10,13,14,15]<|.seq (s [m 32 15,ne 33 32 0] [0,1,9,10,13,14,15,33]<|.cond
 33 (s [o 34 (.build [.v (.slice none 0 0)] []),m 35 15,⟨none,.store 1 10 34,none⟩,mi 11 0,m 12 35] [10,11,12]<|.ret) .skip)<|s [m 37 0,m 38 13,m 39 14,c 40 F.s_l14Do [37,38,39],m 36 40,ex 41 36 0,ex 42 36 1,ex 43 36 2,m 16 41,m 17 42,m 18 43] [1,9,10,16,17,18]<|.seq (s [m 44 18,ne 45 44 0]
 [1,9,10,16,17,18,45]<|.cond 45 (s [o 46 (.build [.v (.slice none 0 0)] []),m 47 18,⟨none,.store 1 10 46,none⟩,mi 11 0,m 12 47] [10,11,12]<|.ret) .skip)<|s [m 49 16,fa 50 1 9,lf 51 1 50,fa 52 0 9,lf 53 1 52,o 54 (.bin .sub 51 53),c 55 F.s_l03Put [49,54],m 48 55,ex 56 48 0,ex 57 48 1,m 19 56,m 20
 57] [1,9,10,17,19,20]<|.seq (s [m 58 20,nt 59 58] [1,9,10,17,19,59]<|.cond 59 (s [o 60 (.build [.v (.slice none 0 0)] []),⟨none,.store 1 10 60,none⟩,mi 11 0,mi 12 5] [10,11,12]<|.ret) .skip)<|s [m 61 1,c 62 F.s_l02Own [61],o 21 (.alloc [.v (.slice none 0 0)]),⟨none,.store 1 21 62,none⟩]
 [9,10,17,19,21]<|.seq (s [mi 22 0] [9,10,17,19,21,22]<|.block 0 (.loop (.seq (s [m 63 22,m 64 19,ln 65 64,ls 66 63 65] [9,10,17,19,21,22,66]<|.cond 66 .skip (.exit 0))<|.seq (.block 1 (s [fa 69 0 9,lf 70 1 69,m 71 22,o 72 (.bin .add 70 71),m 23 72] [9,10,17,19,21,22,23]<|.seq (s [fa 73 0 21,lf 74 1
 73,m 75 23,ix 76 1 74 75,lf 77 1 76,ne 78 77 0] [9,10,17,19,21,22,23,78]<|.cond 78 (s [o 79 (.build [.v (.slice none 0 0)] []),⟨none,.store 1 10 79,none⟩,mi 11 0,mi 12 9] [10,11,12]<|.ret) .skip)<|.region [fa 80 0 21,lf 81 1 80,m 82 23,m 83 19,m 84 22,ix 85 1 83 84,lf 86 1 85,ix 87 1 81
 82,⟨none,.store 1 87 86,none⟩] [9,10,17,19,21,22] [80,82,81,83,84,85,86]))<|.region [m 67 22,ad 68 67 1,m 22 68] [9,10,17,19,21,22] [])))<|s [lt 88 1 21,m 89 17,⟨none,.store 1 10 88,none⟩,m 11 89,mi 12 0] [10,11,12]<|.ret
theorem Cd.s_l14Card_k : CK 17 Tryd.f17 Cd.s_l14Card 90 [.cell 10 44, .tmp 11, .tmp 12] := ck Tryd.func17
def Cd.l_toCard : ACode := s [bx 1 0,o 2 (.alloc [.v (.slice none 0 0)])] [1,2]<|s [o 3 (.alloc [.v (.slice none 0 0)])] [1,2,3]<|s [fa 4 0 1,lf 5 1 4,c 6 F.l_toInt64S [5],fa 7 0 3,⟨none,.store 1 7 6,none⟩] [2,3]<|s [lt 8 1 3,⟨none,.store 1 2 8,none⟩] [2]<|.ret
theorem Cd.l_toCard_k : CK 18 Tryd.f18 Cd.l_toCard 9 [.cell 2 44] := ck Tryd.func18
def Cd.i_ValidDeck : ACode := s [mf 2] [0]<|.seq (s [m 5 0,ln 6 5,mi 7 0] [0,5,6,7]<|.block 0 (.loop (s [ls 8 7 6] [0,5,6,7,8]<|.seq (.cond 8 .skip (.exit 0))<|.seq (.block 1 (s [ix 9 1 5 7,lt 10 1 9,o 4 (.alloc [.v (.slice none 0 0)]),⟨none,.store 1 4 10,none⟩] [0,4,5,6,7]<|r [lt 11 1 4,c 12 F.i_ValidCard [11],nt 13 12,m 14
 13,⟨some 15,.load true 1 4,some (14,false)⟩,⟨some 16,.call (.func F._i_Card__columns) [15] [],some (14,false)⟩,mg 17 0 14 false,⟨some 18,.idxSl 1 17 (k 0),some (14,false)⟩,⟨some 19,.load true 1 18,some (14,false)⟩,⟨some 20,.call (.func F._i_Card__columns) [19] [],some (14,false)⟩,⟨some 21,.bin
 .neq 16 20,some (14,false)⟩,pt 22 14 21] [0,5,6,7,22] [11,13,14,15,12,16,17,18,19,20,21,22]<|.cond 22 (s [mf 2] [2]<|.ret) .skip))<|.region [ad 23 7 1,m 7 23] [0,5,6,7] [])))<|s [m 24 0,ln 25 24,o 26 (.bin .leq 25 (k 40)),m 2 26] [2]<|.ret
theorem Cd.i_ValidDeck_k : CK 19 Tryd.f19 Cd.i_ValidDeck 27 [.tmp 2] := ck Tryd.func19
def Cd.i_calcCode : ACode := s [bx 4 1,mi 6 0] [0,2,4]<|.seq (s [m 7 0,c 8 F.i_isCalc [7],nt 9 8,m 10 9,mg 11 2 10 false,⟨some 12,.mkfn F.i_calcCode_1 [4],some (10,false)⟩,⟨some 13,.call (.func F.ctf_Field) [11,12] [],some (10,false)⟩,pt 14 10 13] [14]<|.cond 14 (s [mi 6 2] [6]<|.ret)
 .skip)<|s [mi 6 0] [6]<|.ret
theorem Cd.i_calcCode_k : CK 20 Tryd.f20 Cd.i_calcCode 15 [.tmp 6] := ck Tryd.func20
def Cd.i_deckColumns : ACode := s [mi 2 0] [0]<|.seq (s [m 3 0,ln 4 3,en 5 4 0] [0,5]<|.cond 5 (s [mi 2 20] [2]<|.ret) .skip)<|s [m 6 0,o 7 (.idxSl 1 6 (k 0)),lt 8 1 7,c 9 F._i_Card__columns [8],m 2 9] [2]<|.ret
theorem Cd.i_deckColumns_k : CK 21 Tryd.f21 Cd.i_deckColumns 10 [.tmp 2] := ck Tryd.func21
def Cd.i_calculatedCard : ACode := s [bx 6 1,bx 7 2,bx 8 3,bx 9 4,o 10 (.alloc [.v (.slice none 0 0)]),mi 11 0] [0,6,7,8,9,10]<|s [m 16 0,lt 17 1 6,lt 18 2 7,lt 19 2 8,c 20 F.i_calculated [16,17,18,19],m 15 20,ex 21 15 0,ex 22 15 1,ex 23 15 2,m 12 21,m 13 22,m 14 23] [6,9,10,12,14]<|.seq (.block 0 (s [m 25 14,ne 26 25 0,m 24 26]
 [6,9,10,12,14,24]<|.cond 24 (s [o 27 (.build [.v (.slice none 0 0)] []),m 28 14,⟨none,.store 1 10 27,none⟩,m 11 28] [10,11]<|.ret) (r [m 30 12,c 31 F.i_absOf [30],c 32 F.i_digitsOf [31],fa 33 1 9,lf 34 1 33,fa 35 0 9,lf 36 1 35,o 37 (.bin .sub 34 36),o 38 (.bin .gtr 32 37),m 29 38]
 [6,9,10,12,29] [30,32,33,31,34,35,36,37,38,29]<|.cond 29 (s [o 39 (.build [.v (.slice none 0 0)] []),⟨none,.store 1 10 39,none⟩,mi 11 5] [10,11]<|.ret) (s [fa 41 0 6,lf 42 1 41,fa 43 0 9,lf 44 1 43,fa 45 1 9,lf 46 1 45,o 47 (.slc 1 42 (some 44) (some 46)),c 48 F.ctf_int64
 [47,(.func F.i_calculatedCard_1)],m 40 48] [6,9,10,12,40]<|.cond 40 (s [o 49 (.build [.v (.slice none 0 0)] []),⟨none,.store 1 10 49,none⟩,mi 11 9] [10,11]<|.ret) .skip))))<|s [lt 50 1 6,lt 51 2 9,m 52 12,c 53 F.i_punchNumber [50,51,52],⟨none,.store 1 10 53,none⟩,mi 11 0] [10,11]<|.ret
theorem Cd.i_calculatedCard_k : CK 22 Tryd.f22 Cd.i_calculatedCard 54 [.cell 10 44, .tmp 11] := ck Tryd.func22
def Cd.l_eqCard : ACode := s [bx 2 0,bx 3 1,mf 4] [2,3]<|.seq (s [fa 5 0 2,lf 6 1 5,fa 7 0 3,lf 8 1 7,c 9 F.l_eqInt64S [6,8],nt 10 9] [10]<|.cond 10 (s [mf 4] [4]<|.ret) .skip)<|s [mt 4] [4]<|.ret
theorem Cd.l_eqCard_k : CK 23 Tryd.f23 Cd.l_eqCard 11 [.tmp 4] := ck Tryd.func23
def Cd.l_markInt64S : ACode := s [mi 4 0] [0,1]<|.seq (s [mi 5 0] [0,1,5]<|.block 0 (.loop (.seq (s [m 6 5,m 7 0,ln 8 7,ls 9 6 8] [0,1,5,9]<|.cond 9 .skip (.exit 0))<|.seq (.block 1 (s [m 12 0,m 13 5,m 14 1,ix 15 1 12 13,⟨none,.store 1 15 14,none⟩] [0,1,5]<|.region [m 16 1,ad 17 16 1,m 1 17] [0,1,5] []))<|.region [m 10 5,ad 11 10
 1,m 5 11] [0,1,5] [])))<|s [m 18 1,m 4 18] [4]<|.ret
theorem Cd.l_markInt64S_k : CK 24 Tryd.f24 Cd.l_markInt64S 19 [.tmp 4] := ck Tryd.func24
def Cd.l_heldInt64S : ACode := s [mi 4 0] [0,1]<|.seq (s [mi 5 0] [0,1,5]<|.block 0 (.loop (.seq (s [m 6 5,m 7 0,ln 8 7,ls 9 6 8] [0,1,5,9]<|.cond 9 .skip (.exit 0))<|.seq (.block 1 (.seq (s [m 12 0,m 13 5,ix 14 1 12 13,lf 15 1 14,m 16 1,o 17 (.bin .neq 15 16)] [0,1,5,17]<|.cond 17 (s [mi 4 (-1)] [4]<|.ret) .skip)<|.region [m 18
 1,ad 19 18 1,m 1 19] [0,1,5] []))<|.region [m 10 5,ad 11 10 1,m 5 11] [0,1,5] [])))<|s [m 20 1,m 4 20] [4]<|.ret
theorem Cd.l_heldInt64S_k : CK 25 Tryd.f25 Cd.l_heldInt64S 21 [.tmp 4] := ck Tryd.func25
def Cd.l_szInt64S : ACode := s [mi 4 0] [0,1]<|s [m 5 1,m 6 0,ln 7 6,o 8 (.bin .sub 5 7),m 1 8] [1]<|.seq (s [m 9 1,o 10 (.bin .lss 9 (k 0))] [1,10]<|.cond 10 (s [mi 4 (-1)] [4]<|.ret) .skip)<|s [m 11 1,m 4 11] [4]<|.ret
theorem Cd.l_szInt64S_k : CK 26 Tryd.f26 Cd.l_szInt64S 12 [.tmp 4] := ck Tryd.func26
def Cd.s_l02Ok : ACode := s [mf 2] [0]<|.seq (s [mi 3 0] [0,3]<|.block 0 (.loop (.seq (s [m 4 3,m 5 0,nc 6 5,fa 7 0 6,lf 8 1 7,ln 9 8,ls 10 4 9] [0,3,10]<|.cond 10 .skip (.exit 0))<|.seq (.block 1 (s [m 13 0,nc 14 13,fa 15 0 14,lf 16 1 15,m 17 3,ix 18 1 16 17,lf 19 1 18,c 20 F.s_l00In [19,(k 0),(k 4095)],nt 21 20]
 [0,3,21]<|.cond 21 (s [mf 2] [2]<|.ret) .skip))<|.region [m 11 3,ad 12 11 1,m 3 12] [0,3] [])))<|s [m 22 0,nc 23 22,fa 24 0 23,lf 25 1 24,ln 26 25,c 27 F.s_l00In [26,(k 1),(k 20)],m 2 27] [2]<|.ret
theorem Cd.s_l02Ok_k : CK 27 Tryd.f27 Cd.s_l02Ok 28 [.tmp 2] := ck Tryd.func27
def Cd.s_l00In : ACode := s [mf 6] [0,1,2]<|s [m 7 0,m 8 1,o 9 (.bin .geq 7 8),m 10 9,mg 11 0 10 true,mg 12 2 10 true,⟨some 13,.bin .leq 11 12,some (10,true)⟩,pf 14 10 13,m 6 14] [6]<|.ret
theorem Cd.s_l00In_k : CK 28 Tryd.f28 Cd.s_l00In 15 [.tmp 6] := ck Tryd.func28
def Cd.s_l02Field : ACode := s [bx 2 0,mf 4] [1,2]<|s [fa 5 0 2,lf 6 1 5,o 7 (.bin .geq 6 (k 0)),m 8 7,fg 9 0 2 8 true,lg 10 1 9 8 true,fg 11 1 2 8 true,lg 12 1 11 8 true,⟨some 13,.bin .lss 10 12,some (8,true)⟩,pf 14 8 13,m 15 14,fg 16 1 2 15 true,lg 17 1 16 15 true,mg 18 1 15 true,⟨some 19,.bin .leq 17 18,some (15,true)⟩,pf 20
 15 19,m 4 20] [4]<|.ret
theorem Cd.s_l02Field_k : CK 29 Tryd.f29 Cd.s_l02Field 21 [.tmp 4] := ck Tryd.func29
def Cd.s_l14Read : ACode := s [bx 4 1,bx 5 2,mi 6 0,mi 7 0,mi 8 0] [0,4,5]<|s [m 14 0,lt 15 2 4,c 16 F.s_l02Part [14,15],c 17 F.s_l03Number [16],m 13 17,ex 18 13 0,ex 19 13 1,m 9 18,m 10 19] [0,5,9,10]<|s [m 21 0,lt 22 2 5,c 23 F.s_l02Part [21,22],c 24 F.s_l03Number [23],m 20 24,ex 25 20 0,ex 26 20 1,m 11 25,m 12
 26] [9,10,11,12]<|.seq (s [m 27 10,nt 28 27,m 29 28,mg 30 12 29 false,⟨some 31,.un .not 30,some (29,false)⟩,pt 32 29 31] [9,11,32]<|.cond 32 (s [mi 6 0,mi 7 0,mi 8 8] [6,7,8]<|.ret) .skip)<|s [m 33 9,m 34 11,m 6 33,m 7 34,mi 8 0] [6,7,8]<|.ret
theorem Cd.s_l14Read_k : CK 30 Tryd.f30 Cd.s_l14Read 35 [.tmp 6, .tmp 7, .tmp 8] := ck Tryd.func30
def Cd.s_l14Do : ACode := s [mi 6 0,mi 7 0,mi 8 0] [0,1,2]<|.seq (s [m 14 0] [0,1,2,14]<|.block 0 (s [en 16 14 3,m 15 16] [0,1,2,14,15]<|.cond 15 (s [m 17 1,m 18 2,c 19 F.s_ProductBy [17,18],ex 20 19 0,ex 21 19 1,ex 22 19 2,m 6 20,m 7 21,m 8 22] [6,7,8]<|.ret) (s [en 24 14 4,m 23 24] [0,1,2,23]<|.cond 23 (s [m 26 1,m 27
 2,c 28 F.s_QuotientBy [26,27],m 25 28,ex 29 25 0,ex 30 25 1,ex 31 25 2,ex 32 25 3,m 9 29,m 10 30,m 11 31,m 12 32] [9,11,12]<|s [m 33 9,m 34 11,m 35 12,m 6 33,m 7 34,m 8 35] [6,7,8]<|.ret) .skip)))<|.seq (s [m 36 1,c 37 F.s_l14Number [36],nt 38 37,m 39 38,mg 40 2 39 false,⟨some 41,.call (.func
 F.s_l14Number) [40] [],some (39,false)⟩,⟨some 42,.un .not 41,some (39,false)⟩,pt 43 39 42] [0,1,2,43]<|.cond 43 (s [mi 6 0,mi 7 0,mi 8 2] [6,7,8]<|.ret) .skip)<|s [m 44 1,m 45 2,o 46 (.bin .add 44 45),m 13 46] [0,1,2,13]<|.seq (s [m 47 0,en 48 47 2] [1,2,13,48]<|.cond 48 (.region [m 49 1,m 50 2,o
 51 (.bin .sub 49 50),m 13 51] [13] []) .skip)<|.seq (s [m 52 13,c 53 F.s_l14Number [52],nt 54 53] [13,54]<|.cond 54 (s [mi 6 0,mi 7 0,mi 8 5] [6,7,8]<|.ret) .skip)<|s [m 55 13,m 6 55,mi 7 2,mi 8 0] [6,7,8]<|.ret
theorem Cd.s_l14Do_k : CK 31 Tryd.f31 Cd.s_l14Do 56 [.tmp 6, .tmp 7, .tmp 8] := ck Tryd.func31
def Cd.s_l03Put : ACode := s [mn 4,mf 5] [0,1]<|s [m 9 1,o 10 (.mk 1 8 [.v (.int .i64 (0))] 9),m 6 10] [0,1,6]<|s [m 11 0,m 7 11] [0,1,6,7]<|.seq (s [m 12 0,o 13 (.bin .lss 12 (k 0))] [0,1,6,7,13]<|.cond 13 (.region [m 14 0,o 15 (.un .neg 14),m 7 15] [0,1,6,7] []) .skip)<|.seq (s [m 16 1,o 17 (.bin .sub 16 (k 1)),m 8 17]
 [0,1,6,7,8]<|.block 0 (.loop (.seq (s [m 18 8,o 19 (.bin .geq 18 (k 0))] [0,1,6,7,8,19]<|.cond 19 .skip (.exit 0))<|.seq (.block 1 (s [m 22 6,m 23 8,m 24 7,o 25 (.bin .rem 24 (k 10)),c 26 F.s_l02Bit [25],ix 27 1 22 23,⟨none,.store 1 27 26,none⟩] [0,1,6,7,8]<|.region [m 28 7,o 29 (.bin .quo 28 (k
 10)),m 7 29] [0,1,6,7,8] []))<|.region [m 20 8,o 21 (.bin .sub 20 (k 1)),m 8 21] [0,1,6,7,8] [])))<|.seq (s [m 30 0,o 31 (.bin .lss 30 (k 0))] [1,6,7,31]<|.cond 31 (.region [m 32 6,m 33 1,o 34 (.bin .sub 33 (k 1)),ix 35 1 32 34,lf 36 1 35,o 37 (.bin .or 36 (k 2)),ix 38 1 32 34,⟨none,.store 1 38
 37,none⟩] [6,7] []) .skip)<|s [m 39 6,m 40 7,en 41 40 0,m 4 39,m 5 41] [4,5]<|.ret
theorem Cd.s_l03Put_k : CK 32 Tryd.f32 Cd.s_l03Put 42 [.tmp 4, .tmp 5] := ck Tryd.func32
def Cd.s_l02Own : ACode := s [o 2 (.alloc [.v (.slice none 0 0)])] [0,2]<|s [m 3 0,nc 4 3,fa 5 0 4,lf 6 1 5,c 7 F.s_l00Own [6],o 8 (.build [.v (.slice none 0 0)] [(0,1,7)]),⟨none,.store 1 2 8,none⟩] [2]<|.ret
theorem Cd.s_l02Own_k : CK 33 Tryd.f33 Cd.s_l02Own 9 [.cell 2 44] := ck Tryd.func33
def Cd.l_toInt64S : ACode := s [mn 2] [0]<|s [m 5 0,ln 6 5,o 7 (.mk 1 8 [.v (.int .i64 (0))] 6),m 3 7] [0,3]<|.seq (s [mi 4 0] [0,3,4]<|.block 0 (.loop (.seq (s [m 8 4,m 9 0,ln 10 9,ls 11 8 10] [0,3,4,11]<|.cond 11 .skip (.exit 0))<|.seq (.block 1 (.region [m 14 3,m 15 4,m 16 0,m 17 4,ix 18 1 16 17,lf 19 1 18,ix 20 1 14
 15,⟨none,.store 1 20 19,none⟩] [0,3,4] []))<|.region [m 12 4,ad 13 12 1,m 4 13] [0,3,4] [])))<|s [m 21 3,m 2 21] [2]<|.ret
theorem Cd.l_toInt64S_k : CK 34 Tryd.f34 Cd.l_toInt64S 22 [.tmp 2] := ck Tryd.func34
def Cd.i_ValidCard : ACode := s [bx 1 0,mf 2] [1]<|s [lt 3 1 1,c 4 F._i_Card__columns [3],c 5 F.i_inside [4,(k 1),(k 20)],m 6 5,fg 7 0 1 6 true,lg 8 1 7 6 true,⟨some 9,.call (.func F.ctf_int64) [8,(.func F.i_ValidCard_1)] [],some (6,true)⟩,⟨some 10,.un .not 9,some (6,true)⟩,pf 11 6 10,m 2 11]
 [2]<|.ret
theorem Cd.i_ValidCard_k : CK 35 Tryd.f35 Cd.i_ValidCard 12 [.tmp 2] := ck Tryd.func35
def Cd._i_Card__columns : ACode := s [bx 1 0,mi 2 0] [1]<|s [fa 3 0 1,lf 4 1 3,c 5 F.i_size_int64_ [4],m 2 5] [2]<|.ret
theorem Cd._i_Card__columns_k : CK 36 Tryd.f36 Cd._i_Card__columns 6 [.tmp 2] := ck Tryd.func36
def Cd.i_isCalc : ACode := s [mf 2] [0]<|s [m 3 0,c 4 F.i_inside [3,(k 1),(k 4)],m 2 4] [2]<|.ret
theorem Cd.i_isCalc_k : CK 37 Tryd.f37 Cd.i_isCalc 5 [.tmp 2] := ck Tryd.func37
def Cd.ctf_Field : ACode := s [mf 4] [0,1]<|s [m 5 0,m 6 1,c 7 F.ixf_Field [5,6],o 8 (.bin .geq 7 (k 0)),m 4 8] [4]<|.ret
theorem Cd.ctf_Field_k : CK 38 Tryd.f38 Cd.ctf_Field 9 [.tmp 4] := ck Tryd.func38
def Cd.i_calcCode_1 : ACode := s [bx 2 0,mf 3] [1,2]<|s [lt 4 2 2,lf 5 1 1,c 6 F.i_isNumberField [4,5],nt 7 6,m 3 7] [3]<|.ret
theorem Cd.i_calcCode_1_k : CK 39 Tryd.f39 Cd.i_calcCode_1 8 [.tmp 3] := ck Tryd.func39
def Cd.i_isNumberField : ACode := s [bx 2 0,mf 4] [1,2]<|s [lt 5 2 2,m 6 1,c 7 F.i_isField [5,6],m 8 7,fg 9 1 2 8 true,lg 10 1 9 8 true,fg 11 0 2 8 true,lg 12 1 11 8 true,⟨some 13,.bin .sub 10 12,some (8,true)⟩,⟨some 14,.bin .leq 13 (k 12),some (8,true)⟩,pf 15 8 14,m 4 15] [4]<|.ret
theorem Cd.i_isNumberField_k : CK 40 Tryd.f40 Cd.i_isNumberField 16 [.tmp 4] := ck Tryd.func40
def Cd.i_calculated : ACode := s [bx 5 1,bx 6 2,bx 7 3,mi 8 0,mi 9 0,mi 10 0] [0,5,6,7]<|s [lt 16 1 5,lt 17 2 6,c 18 F.i_numberIn [16,17],m 15 18,ex 19 15 0,ex 20 15 1,m 11 19,m 12 20] [0,5,7,11,12]<|s [lt 22 1 5,lt 23 2 7,c 24 F.i_numberIn [22,23],m 21 24,ex 25 21 0,ex 26 21 1,m 13 25,m 14 26] [0,11,12,13,14]<|.seq (s [m 27
 12,nt 28 27,m 29 28,mg 30 14 29 false,⟨some 31,.un .not 30,some (29,false)⟩,pt 32 29 31] [0,11,13,32]<|.cond 32 (s [mi 8 0,mi 9 0,mi 10 8] [8,9,10]<|.ret) .skip)<|s [m 33 0,m 34 11,m 35 13,c 36 F.i_Calculate [33,34,35],ex 37 36 0,ex 38 36 1,ex 39 36 2,m 8 37,m 9 38,m 10 39] [8,9,10]<|.ret
theorem Cd.i_calculated_k : CK 41 Tryd.f41 Cd.i_calculated 40 [.tmp 8, .tmp 9, .tmp 10] := ck Tryd.func41
def Cd.i_digitsOf : ACode := s [mi 2 0] [0]<|s [m 3 0,c 4 F.i_Decimal [3],o 5 (.lenS 4),m 2 5] [2]<|.ret
theorem Cd.i_digitsOf_k : CK 42 Tryd.f42 Cd.i_digitsOf 6 [.tmp 2] := ck Tryd.func42
def Cd.i_absOf : ACode := s [mi 2 0] [0]<|s [m 3 0,m 4 0,o 5 (.un .neg 4),o 6 (.mm true 3 5),m 2 6] [2]<|.ret
theorem Cd.i_absOf_k : CK 43 Tryd.f43 Cd.i_absOf 7 [.tmp 2] := ck Tryd.func43
def Cd.ctf_int64 : ACode := s [mf 4] [0,1]<|s [m 5 0,m 6 1,c 7 F.ixf_int64 [5,6],o 8 (.bin .geq 7 (k 0)),m 4 8] [4]<|.ret
theorem Cd.ctf_int64_k : CK 44 Tryd.f44 Cd.ctf_int64 9 [.tmp 4] := ck Tryd.func44
def Cd.i_calculatedCard_1 : ACode := s [mf 2] [0]<|s [m 3 0,ne 4 3 0,m 2 4] [2]<|.ret
theorem Cd.i_calculatedCard_1_k : CK 45 Tryd.f45 Cd.i_calculatedCard_1 5 [.tmp 2] := ck Tryd.func45
def Cd.i_punchNumber : ACode := s [bx 3 0,bx 4 1,o 6 (.alloc [.v (.slice none 0 0)])] [2,3,4,6]<|s [lt 10 1 3,c 11 F.i_newCard [10],m 12 2,c 13 F.i_absOf [12],o 7 (.alloc [.v (.slice none 0 0)]),⟨none,.store 1 7 11,none⟩,m 8 13] [2,4,6,7,8]<|.seq (s [fa 14 1 4,lf 15 1 14,o 16 (.bin .sub 15 (k 1)),m 9 16] [2,4,6,7,8,9]<|.block
 0 (.loop (.seq (s [m 17 9,fa 18 0 4,lf 19 1 18,o 20 (.bin .geq 17 19)] [2,4,6,7,8,9,20]<|.cond 20 .skip (.exit 0))<|.seq (.block 1 (r [fa 23 0 7,lf 24 1 23,m 25 9,m 26 8,o 27 (.bin .rem 26 (k 10)),c 28 F.i_bitOf [27],ix 29 1 24 25,⟨none,.store 1 29 28,none⟩] [2,4,6,7,8,9]
 [23,25,24,26,27,28]<|.region [m 30 8,o 31 (.bin .quo 30 (k 10)),m 8 31] [2,4,6,7,8,9] []))<|.region [m 21 9,o 22 (.bin .sub 21 (k 1)),m 9 22] [2,4,6,7,8,9] [])))<|.seq (s [m 32 2,o 33 (.bin .lss 32 (k 0))] [4,6,7,33]<|.cond 33 (.region [fa 34 0 7,lf 35 1 34,fa 36 1 4,lf 37 1 36,o 38 (.bin .sub 37 (k
 1)),ix 39 1 35 38,lf 40 1 39,c 41 F.i_bitOf [(k 11)],o 42 (.bin .or 40 41),ix 43 1 35 38,⟨none,.store 1 43 42,none⟩] [6,7] [34,36,35,37,38,39,40,41,42]) .skip)<|s [lt 44 1 7,⟨none,.store 1 6 44,none⟩] [6]<|.ret
theorem Cd.i_punchNumber_k : CK 46 Tryd.f46 Cd.i_punchNumber 45 [.cell 6 44] := ck Tryd.func46
def Cd.l_eqInt64S : ACode := s [mf 4] [0,1]<|.seq (s [m 6 0,ln 7 6,m 8 1,ln 9 8,o 10 (.bin .neq 7 9)] [0,1,10]<|.cond 10 (s [mf 4] [4]<|.ret) .skip)<|.seq (s [mi 5 0] [0,1,5]<|.block 0 (.loop (.seq (s [m 11 5,m 12 0,ln 13 12,ls 14 11 13] [0,1,5,14]<|.cond 14 .skip (.exit 0))<|.seq (.block 1 (r [m 17 0,m 18 5,ix 19 1 17 18,lf 20
 1 19,m 21 1,m 22 5,ix 23 1 21 22,lf 24 1 23,o 25 (.bin .neq 20 24)] [0,1,5,25] [17,18,20,21,19,22,23,24,25]<|.cond 25 (s [mf 4] [4]<|.ret) .skip))<|.region [m 15 5,ad 16 15 1,m 5 16] [0,1,5] [])))<|s [mt 4] [4]<|.ret
theorem Cd.l_eqInt64S_k : CK 47 Tryd.f47 Cd.l_eqInt64S 26 [.tmp 4] := ck Tryd.func47
def Cd.s_l03Number : ACode := s [mi 2 0,mf 3] [0]<|s [mi 4 0] [0,4]<|s [mf 5] [0,4,5]<|s [mf 6] [0,4,5,6]<|.seq (s [mi 7 0] [0,4,5,6,7]<|.block 0 (.loop (.seq (s [m 10 7,m 11 0,ln 12 11,ls 13 10 12] [0,4,5,6,7,13]<|.cond 13 .skip (.exit 0))<|.seq (.block 1 (s [m 16 0,m 17 7,ix 18 1 16 17,lf 19 1 18,m 8 19] [0,4,5,6,7,8]<|.seq (s
 [m 20 7,m 21 0,ln 22 21,o 23 (.bin .sub 22 (k 1)),o 24 (.bin .eql 20 23),m 25 24,mg 26 8 25 true,⟨some 27,.bin .and 26 (k 2),some (25,true)⟩,⟨some 28,.bin .neq 27 (k 0),some (25,true)⟩,pf 29 25 28] [0,4,5,6,7,8,29]<|.cond 29 (s [mt 6] [0,4,5,6,7,8]<|.region [m 30 8,o 31 (.bin .sub 30 (k 2)),m 8 31]
 [0,4,5,6,7,8] []) .skip)<|.seq (s [m 32 8,en 33 32 0,m 34 33,mg 35 5 34 true,⟨some 36,.un .not 35,some (34,true)⟩,pf 37 34 36,m 38 37,mg 39 6 38 true,⟨some 40,.un .not 39,some (38,true)⟩,pf 41 38 40] [0,4,5,6,7,8,41]<|.cond 41 (.exit 1) .skip)<|s [m 42 8,c 43 F.s_l03Digit [42],m 9 43]
 [0,4,6,7,9]<|.seq (s [m 44 9,o 45 (.bin .lss 44 (k 0))] [0,4,6,7,9,45]<|.cond 45 (s [mi 2 0,mf 3] [2,3]<|.ret) .skip)<|s [mt 5] [0,4,5,6,7,9]<|.region [m 46 4,o 47 (.bin .mul (k 10) 46),m 48 9,o 49 (.bin .add 47 48),m 4 49] [0,4,5,6,7] []))<|.region [m 14 7,ad 15 14 1,m 7 15] [0,4,5,6,7] [])))<|.seq
 (s [m 50 6] [4,50]<|.cond 50 (s [m 51 4,o 52 (.un .neg 51),m 53 4,ne 54 53 0,m 2 52,m 3 54] [2,3]<|.ret) .skip)<|s [m 55 4,m 2 55,mt 3] [2,3]<|.ret
theorem Cd.s_l03Number_k : CK 48 Tryd.f48 Cd.s_l03Number 56 [.tmp 2, .tmp 3] := ck Tryd.func48
def Cd.s_l02Part : ACode := s [bx 3 1,mn 4] [0,3]<|r [m 5 0,nc 6 5,fa 7 0 6,lf 8 1 7,fa 9 0 3,lf 10 1 9,fa 11 1 3,lf 12 1 11,o 13 (.slc 1 8 (some 10) (some 12)),m 4 13] [4] [5,7,8,6,9,10,11,12,13]<|.ret
theorem Cd.s_l02Part_k : CK 49 Tryd.f49 Cd.s_l02Part 14 [.tmp 4] := ck Tryd.func49
def Cd.s_ProductBy : ACode := s [mi 4 0,mi 5 0,mi 6 0] [0,1]<|.seq (s [m 9 0,c 10 F.s_l14Factor [9],nt 11 10,m 12 11,mg 13 1 12 false,⟨some 14,.call (.func F.s_l14Factor) [13] [],some (12,false)⟩,⟨some 15,.un .not 14,some (12,false)⟩,pt 16 12 15] [0,1,16]<|.cond 16 (s [mi 4 0,mi 5 0,mi 6 2] [4,5,6]<|.ret) .skip)<|s [m 18
 0,c 19 F.s_l14Size [18],m 20 1,c 21 F.s_l14Size [20],c 22 F.s_l14Times [19,21],m 17 22,ex 23 17 0,ex 24 17 1,m 7 23,m 8 24] [0,1,7,8]<|.seq (s [m 25 0,o 26 (.bin .lss 25 (k 0)),m 27 1,o 28 (.bin .lss 27 (k 0)),o 29 (.binB .neq 26 28)] [7,8,29]<|.cond 29 (.region [m 30 7,o 31 (.un .neg 30),m
 7 31] [7,8] []) .skip)<|s [m 32 7,m 33 8,m 4 32,m 5 33,mi 6 0] [4,5,6]<|.ret
theorem Cd.s_ProductBy_k : CK 50 Tryd.f50 Cd.s_ProductBy 34 [.tmp 4, .tmp 5, .tmp 6] := ck Tryd.func50
def Cd.s_QuotientBy : ACode := s [mi 4 0,mi 5 0,mi 6 0,mi 7 0] [0,1]<|.seq (s [m 11 0,c 12 F.s_l14Number [11],nt 13 12,m 14 13,mg 15 1 14 false,⟨some 16,.call (.func F.s_l14Factor) [15] [],some (14,false)⟩,⟨some 17,.un .not 16,some (14,false)⟩,pt 18 14 17] [0,1,18]<|.cond 18 (s [mi 4 0,mi 5 0,mi 6 0,mi 7 2] [4,5,6,7]<|.ret)
 .skip)<|.seq (s [m 19 1,en 20 19 0] [0,1,20]<|.cond 20 (s [mi 4 0,mi 5 0,mi 6 0,mi 7 6] [4,5,6,7]<|.ret) .skip)<|s [m 22 0,c 23 F.s_l14Size [22],m 24 1,c 25 F.s_l14Size [24],c 26 F.s_l14Divide [23,25],m 21 26,ex 27 21 0,ex 28 21 1,ex 29 21 2,m 8 27,m 9 28,m 10 29] [0,1,8,9,10]<|.seq (s [m 30
 0,o 31 (.bin .lss 30 (k 0)),m 32 1,o 33 (.bin .lss 32 (k 0)),o 34 (.binB .neq 31 33)] [0,8,9,10,34]<|.cond 34 (.region [m 35 8,o 36 (.un .neg 35),m 8 36] [0,8,9,10] []) .skip)<|.seq (s [m 37 0,o 38 (.bin .lss 37 (k 0))] [8,9,10,38]<|.cond 38 (.region [m 39 9,o 40 (.un .neg 39),m 9 40] [8,9,10] [])
 .skip)<|s [m 41 8,m 42 9,m 43 10,m 4 41,m 5 42,m 6 43,mi 7 0] [4,5,6,7]<|.ret
theorem Cd.s_QuotientBy_k : CK 51 Tryd.f51 Cd.s_QuotientBy 44 [.tmp 4, .tmp 5, .tmp 6, .tmp 7] := ck Tryd.func51
def Cd.s_l14Number : ACode := s [mf 2] [0]<|s [m 3 0,c 4 F.s_l00In [3,(k (-999999999999)),(k 999999999999)],m 2 4] [2]<|.ret
theorem Cd.s_l14Number_k : CK 52 Tryd.f52 Cd.s_l14Number 5 [.tmp 2] := ck Tryd.func52
def Cd.s_l02Bit : ACode := s [mi 2 0] [0]<|.seq (.block 0 (s [m 4 0,en 5 4 12,m 3 5] [0,3]<|.cond 3 (s [mi 2 1] [2]<|.ret) (s [m 7 0,en 8 7 11,m 6 8] [0,6]<|.cond 6 (s [mi 2 2] [2]<|.ret) (s [m 10 0,c 11 F.s_l00In [10,(k 0),(k 9)],m 9 11] [0,9]<|.cond 9 (s [m 12 0,o 13 (.conv .u64 12),o 14 (.bin .shl (k 4) 13),m 2 14]
 [2]<|.ret) .skip))))<|s [mi 2 0] [2]<|.ret
theorem Cd.s_l02Bit_k : CK 53 Tryd.f53 Cd.s_l02Bit 15 [.tmp 2] := ck Tryd.func53
def Cd.s_l00Own : ACode := s [mn 2] [0]<|s [o 3 (.bslice 1 0 [.v (.int .i64 (0))] []),m 4 0,o 5 (.append 1 8 3 4),m 2 5] [2]<|.ret
theorem Cd.s_l00Own_k : CK 54 Tryd.f54 Cd.s_l00Own 6 [.tmp 2] := ck Tryd.func54
def Cd.i_inside : ACode := s [mf 6] [0,1,2]<|s [m 7 0,m 8 1,o 9 (.bin .geq 7 8),m 10 9,mg 11 0 10 true,mg 12 2 10 true,⟨some 13,.bin .leq 11 12,some (10,true)⟩,pf 14 10 13,m 6 14] [6]<|.ret
theorem Cd.i_inside_k : CK 55 Tryd.f55 Cd.i_inside 15 [.tmp 6] := ck Tryd.func55
def Cd.i_ValidCard_1 : ACode := s [mf 2] [0]<|s [m 3 0,c 4 F.i_inside [3,(k 0),(k 4095)],nt 5 4,m 2 5] [2]<|.ret
theorem Cd.i_ValidCard_1_k : CK 56 Tryd.f56 Cd.i_ValidCard_1 6 [.tmp 2] := ck Tryd.func56
def Cd.i_size_int64_ : ACode := s [mi 2 0] [0]<|s [m 3 0,ln 4 3,m 2 4] [2]<|.ret
theorem Cd.i_size_int64__k : CK 57 Tryd.f57 Cd.i_size_int64_ 5 [.tmp 2] := ck Tryd.func57
def Cd.ixf_Field : ACode := s [mi 4 0] [0,1]<|.seq (s [m 6 0,ln 7 6,mi 8 0] [0,1,7,8]<|.block 0 (.loop (s [ls 9 8 7] [0,1,7,8,9]<|.seq (.cond 9 .skip (.exit 0))<|.seq (.block 1 (s [m 10 8,m 5 10] [0,1,5,7,8]<|s [m 11 1,m 12 0,m 13 5,ix 14 2 12 13,lt 15 2 14,o 16 (.call 11 [15] [])] [0,1,5,7,8,16]<|.cond 16 (s [m 17 5,m 4 17]
 [4]<|.ret) .skip))<|.region [ad 18 8 1,m 8 18] [0,1,7,8] [])))<|s [mi 4 (-1)] [4]<|.ret
theorem Cd.ixf_Field_k : CK 58 Tryd.f58 Cd.ixf_Field 19 [.tmp 4] := ck Tryd.func58
def Cd.i_isField : ACode := s [bx 2 0,mf 4] [1,2]<|s [fa 5 0 2,lf 6 1 5,o 7 (.bin .leq (k 0) 6),m 8 7,fg 9 0 2 8 true,lg 10 1 9 8 true,fg 11 1 2 8 true,lg 12 1 11 8 true,⟨some 13,.bin .lss 10 12,some (8,true)⟩,pf 14 8 13,m 15 14,fg 16 1 2 15 true,lg 17 1 16 15 true,mg 18 1 15 true,⟨some 19,.bin .leq 17 18,some (15,true)⟩,pf 20
 15 19,m 4 20] [4]<|.ret
theorem Cd.i_isField_k : CK 59 Tryd.f59 Cd.i_isField 21 [.tmp 4] := ck Tryd.func59
def Cd.i_numberIn : ACode := s [bx 2 0,bx 3 1,mi 4 0,mf 5] [2,3]<|s [fa 14 0 2,lf 15 1 14,fa 16 0 3,lf 17 1 16,fa 18 1 3,lf 19 1 18,o 20 (.slc 1 15 (some 17) (some 19)),c 21 F.i_copyInts [20],m 6 21] [6]<|.seq (s [m 22 6,c 23 F.ctf_int64 [22,(.func F.i_numberIn_1)],nt 24 23] [6,24]<|.cond 24 (s [mi
 4 0,mt 5] [4,5]<|.ret) .skip)<|s [m 25 6,ln 26 25,o 27 (.bin .sub 26 (k 1)),m 7 27] [6,7]<|r [m 28 6,m 29 7,ix 30 1 28 29,lf 31 1 30,c 32 F.i_bitOf [(k 11)],o 33 (.bin .and 31 32),ne 34 33 0,m 8 34] [6,7,8] [28,29,31,32,30,33,34]<|r [m 35 6,m 36 7,ix 37 1 35 36,lf 38 1 37,c 39 F.i_bitOf [(k
 11)],o 40 (.bin .andNot 38 39),ix 41 1 35 36,⟨none,.store 1 41 40,none⟩] [6,7,8] [35,36,38,39,37,40]<|s [mi 9 0,mf 10] [6,7,8,9,10]<|.seq (s [m 42 6,ln 43 42,mi 44 0] [6,7,8,9,10,42,43,44]<|.block 0 (.loop (s [ls 45 44 43] [6,7,8,9,10,42,43,44,45]<|.seq (.cond 45 .skip (.exit 0))<|.seq (.block 1 (s
 [ix 46 1 42 44,lf 47 1 46,m 12 47] [6,7,8,9,10,12,42,43,44]<|s [m 48 12,c 49 F.i_digitOf [48],m 13 49] [6,7,8,9,10,12,13,42,43,44]<|.seq (.block 2 (s [m 51 12,en 52 51 0,m 53 52,mg 54 10 53 true,⟨some 55,.un .not 54,some (53,true)⟩,pf 56 53 55,m 50 56] [6,7,8,9,10,13,42,43,44,50]<|.cond 50 (.exit
 1) (s [m 58 13,o 59 (.bin .lss 58 (k 0)),m 57 59] [6,7,8,9,13,42,43,44,57]<|.cond 57 (s [mi 4 0,mf 5] [4,5]<|.ret) .skip)))<|s [mt 10] [6,7,8,9,10,13,42,43,44]<|.region [m 60 9,o 61 (.bin .mul (k 10) 60),m 62 13,o 63 (.bin .add 61 62),m 9 63] [6,7,8,9,10,42,43,44] []))<|.region [ad 64 44 1,m 44 64]
 [6,7,8,9,10,42,43,44] [])))<|.seq (s [m 65 10,nt 66 65,m 67 66,mg 68 6 67 false,mg 69 7 67 false,⟨some 70,.idxSl 1 68 69,some (67,false)⟩,lg 71 1 70 67 false,⟨some 72,.bin .eql 71 (k 0),some (67,false)⟩,pt 73 67 72,m 74 73,mg 75 8 74 false,mg 76 75 74 false,mg 77 9 76 true,⟨some 78,.bin .eql 77 (k
 0),some (76,true)⟩,⟨some 79,.pick 76 78 (.const (.bool false)),some (74,false)⟩,pt 80 74 79] [8,9,80]<|.cond 80 (s [mi 4 0,mf 5] [4,5]<|.ret) .skip)<|.seq (s [m 81 8] [9,81]<|.cond 81 (.region [m 82 9,o 83 (.un .neg 82),m 9 83] [9] []) .skip)<|s [m 84 9,m 4 84,mt 5] [4,5]<|.ret
theorem Cd.i_numberIn_k : CK 60 Tryd.f60 Cd.i_numberIn 85 [.tmp 4, .tmp 5] := ck Tryd.func60
def Cd.i_Calculate : ACode := s [mi 6 0,mi 7 0,mi 8 0] [0,1,2]<|s [mi 9 0,mi 10 2,mi 11 0] [0,1,2,10,11]<|.seq (s [m 12 0] [0,1,2,10,11,12]<|.block 0 (.seq (s [en 14 12 1,m 13 14] [0,1,2,10,11,12,13]<|.cond 13 .skip (.region [en 15 12 2,m 13 15] [0,1,2,10,11,12,13] []))<|.cond 13 (.seq (s [m 16 1,c 17 F.i_isNumber [16],nt 18
 17,m 19 18,mg 20 2 19 false,⟨some 21,.call (.func F.i_isNumber) [20] [],some (19,false)⟩,⟨some 22,.un .not 21,some (19,false)⟩,pt 23 19 22] [0,1,2,10,11,23]<|.cond 23 (s [mi 6 0,mi 7 0,mi 8 2] [6,7,8]<|.ret) .skip)<|s [m 24 1,m 25 2,o 26 (.bin .add 24 25),m 9 26] [0,1,2,9,10,11]<|s [m 27 0,en 28
 27 2] [1,2,9,10,11,28]<|.cond 28 (.region [m 29 1,m 30 2,o 31 (.bin .sub 29 30),m 9 31] [9,10,11] []) .skip) (s [en 33 12 3,m 32 33] [1,2,12,32]<|.cond 32 (.region [m 35 1,m 36 2,c 37 F.i_ProductBy [35,36],m 34 37,ex 38 34 0,ex 39 34 1,ex 40 34 2,m 9 38,m 10 39,m 11 40] [9,10,11] []) (s [en 42 12
 4,m 41 42] [1,2,41]<|.cond 41 (.region [m 44 1,m 45 2,c 46 F.i_QuotientBy [44,45],m 43 46,ex 47 43 0,ex 48 43 1,ex 49 43 2,ex 50 43 3,m 9 47,m 10 49,m 11 50] [9,10,11] []) (s [mi 6 0,mi 7 0,mi 8 2] [6,7,8]<|.ret)))))<|.seq (.block 1 (s [m 52 11,ne 53 52 0,m 51 53] [9,10,11,51]<|.cond 51 (s [m 54
 11,mi 6 0,mi 7 0,m 8 54] [6,7,8]<|.ret) (s [m 56 9,c 57 F.i_isNumber [56],nt 58 57,m 55 58] [9,10,55]<|.cond 55 (s [mi 6 0,mi 7 0,mi 8 5] [6,7,8]<|.ret) .skip)))<|s [m 59 9,m 60 10,m 6 59,m 7 60,mi 8 0] [6,7,8]<|.ret
theorem Cd.i_Calculate_k : CK 61 Tryd.f61 Cd.i_Calculate 61 [.tmp 6, .tmp 7, .tmp 8] := ck Tryd.func61
def Cd.i_Decimal : ACode := s [o 2 (.mv (.const (.string ⟨#[]⟩)))] [0]<|s [m 3 0,c 4 F.strconv_FormatInt [3,(k 10)],m 2 4] [2]<|.ret
theorem Cd.i_Decimal_k : CK 62 Tryd.f62 Cd.i_Decimal 5 [.tmp 2] := ck Tryd.func62
def Cd.ixf_int64 : ACode := s [mi 4 0] [0,1]<|.seq (s [m 6 0,ln 7 6,mi 8 0] [0,1,7,8]<|.block 0 (.loop (s [ls 9 8 7] [0,1,7,8,9]<|.seq (.cond 9 .skip (.exit 0))<|.seq (.block 1 (s [m 10 8,m 5 10] [0,1,5,7,8]<|s [m 11 1,m 12 0,m 13 5,ix 14 1 12 13,lf 15 1 14,o 16 (.call 11 [15] [])] [0,1,5,7,8,16]<|.cond 16 (s [m 17 5,m 4 17]
 [4]<|.ret) .skip))<|.region [ad 18 8 1,m 8 18] [0,1,7,8] [])))<|s [mi 4 (-1)] [4]<|.ret
theorem Cd.ixf_int64_k : CK 63 Tryd.f63 Cd.ixf_int64 19 [.tmp 4] := ck Tryd.func63
def Cd.i_newCard : ACode := s [bx 1 0,o 2 (.alloc [.v (.slice none 0 0)])] [1,2]<|s [fa 3 0 1,lf 4 1 3,c 5 F.i_copyInts [4],o 6 (.build [.v (.slice none 0 0)] [(0,1,5)]),⟨none,.store 1 2 6,none⟩] [2]<|.ret
theorem Cd.i_newCard_k : CK 64 Tryd.f64 Cd.i_newCard 7 [.cell 2 44] := ck Tryd.func64
def Cd.i_bitOf : ACode := s [mi 2 0] [0]<|.seq (.block 0 (s [m 4 0,en 5 4 12,m 3 5] [0,3]<|.cond 3 (s [mi 2 1] [2]<|.ret) (s [m 7 0,en 8 7 11,m 6 8] [0,6]<|.cond 6 (s [mi 2 2] [2]<|.ret) (s [m 10 0,c 11 F.i_inside [10,(k 0),(k 9)],m 9 11] [0,9]<|.cond 9 (s [m 12 0,o 13 (.bin .shl (k 4) 12),m 2 13] [2]<|.ret) .skip))))<|s
 [mi 2 0] [2]<|.ret
theorem Cd.i_bitOf_k : CK 65 Tryd.f65 Cd.i_bitOf 14 [.tmp 2] := ck Tryd.func65
def Cd.s_l03Digit : ACode := s [mi 2 0] [0]<|.seq (s [mi 3 0] [0,3]<|.block 0 (.loop (.seq (s [m 4 3,o 5 (.bin .leq 4 (k 9))] [0,3,5]<|.cond 5 .skip (.exit 0))<|.seq (.block 1 (s [m 8 0,m 9 3,c 10 F.s_l02Bit [9],o 11 (.bin .eql 8 10)] [0,3,11]<|.cond 11 (s [m 12 3,m 2 12] [2]<|.ret) .skip))<|.region [m 6 3,ad 7 6 1,m 3 7]
 [0,3] [])))<|s [mi 2 (-1)] [2]<|.ret
theorem Cd.s_l03Digit_k : CK 66 Tryd.f66 Cd.s_l03Digit 13 [.tmp 2] := ck Tryd.func66
def Cd.s_l14Factor : ACode := s [mf 2] [0]<|s [m 3 0,c 4 F.s_l00In [3,(k (-999999)),(k 999999)],m 2 4] [2]<|.ret
theorem Cd.s_l14Factor_k : CK 67 Tryd.f67 Cd.s_l14Factor 5 [.tmp 2] := ck Tryd.func67
def Cd.s_l14Times : ACode := s [mi 4 0,mi 5 0] [0,1]<|s [mi 6 0] [0,1,6]<|s [mi 7 1] [0,1,6,7]<|s [mi 8 1] [0,1,6,7,8]<|.seq (.block 0 (.loop (.seq (s [m 11 1,o 12 (.bin .gtr 11 (k 0))] [0,1,6,7,8,12]<|.cond 12 .skip (.exit 0))<|.seq (.block 1 (s [m 16 0,m 17 1,o 18 (.bin .rem 17 (k 10)),c 19 F.s_l14Parts [16,18],m 15 19,ex
 20 15 0,ex 21 15 1,m 9 20,m 10 21] [0,1,6,7,8,9,10]<|s [m 22 6,m 23 9,m 24 7,o 25 (.bin .mul 23 24),m 26 10,m 27 7,o 28 (.bin .mul 26 27),o 29 (.bin .mul 28 (k 10)),o 30 (.bin .add 25 29),o 31 (.bin .add 22 30),m 6 31] [0,1,6,7,8]<|s [m 32 7,o 33 (.bin .mul 32 (k 10)),m 7 33] [0,1,6,7,8]<|s [m 34 1,o
 35 (.bin .rem 34 (k 10)),o 36 (.bin .gtr 35 (k 0))] [0,1,6,7,8,36]<|.cond 36 (.region [m 37 8,ad 38 37 1,m 8 38] [0,1,6,7,8] []) .skip))<|.region [m 13 1,o 14 (.bin .quo 13 (k 10)),m 1 14] [0,1,6,7,8] [])))<|s [m 39 6,m 40 8,m 4 39,m 5 40] [4,5]<|.ret
theorem Cd.s_l14Times_k : CK 68 Tryd.f68 Cd.s_l14Times 41 [.tmp 4, .tmp 5] := ck Tryd.func68
def Cd.s_l14Size : ACode := s [mi 2 0] [0]<|s [m 3 0,m 4 0,o 5 (.un .neg 4),c 6 F.s_l00Max [3,5],m 2 6] [2]<|.ret
theorem Cd.s_l14Size_k : CK 69 Tryd.f69 Cd.s_l14Size 7 [.tmp 2] := ck Tryd.func69
def Cd.s_l14Divide : ACode := s [mi 4 0,mi 5 0,mi 6 0] [0,1]<|s [mi 7 1] [0,1,7]<|.seq (.block 0 (.loop (.seq (s [m 11 0,m 12 1,o 13 (.bin .quo 11 12),m 14 7,o 15 (.bin .mul (k 10) 14),o 16 (.bin .geq 13 15)] [0,1,7,16]<|.cond 16 .skip (.exit 0))<|.block 1 (.region [m 17 7,o 18 (.bin .mul 17 (k 10)),m 7 18] [0,1,7] []))))<|s [mi
 8 0] [0,1,7,8]<|s [mi 9 0] [0,1,7,8,9]<|.seq (.block 2 (.loop (.seq (s [m 19 7,o 20 (.bin .gtr 19 (k 0))] [0,1,7,8,9,20]<|.cond 20 .skip (.exit 2))<|.seq (.block 3 (s [m 23 0,m 24 1,m 25 7,o 26 (.bin .mul 24 25),o 27 (.bin .quo 23 26),m 10 27] [0,1,7,8,9,10]<|s [m 28 0,m 29 10,m 30 1,o 31 (.bin .mul
 29 30),m 32 7,o 33 (.bin .mul 31 32),o 34 (.bin .sub 28 33),m 0 34] [0,1,7,8,9,10]<|s [m 35 8,o 36 (.bin .mul (k 10) 35),m 37 10,o 38 (.bin .add 36 37),m 8 38] [0,1,7,8,9,10]<|.region [m 39 9,m 40 10,ad 41 40 1,o 42 (.bin .add 39 41),m 9 42] [0,1,7,8,9] []))<|.region [m 21 7,o 22 (.bin .quo 21 (k
 10)),m 7 22] [0,1,7,8,9] [])))<|s [m 43 8,m 44 0,m 45 9,m 4 43,m 5 44,m 6 45] [4,5,6]<|.ret
theorem Cd.s_l14Divide_k : CK 70 Tryd.f70 Cd.s_l14Divide 46 [.tmp 4, .tmp 5, .tmp 6] := ck Tryd.func70
def Cd.i_copyInts : ACode := s [mn 2] [0]<|s [o 3 (.bslice 1 0 [.v (.int .i64 (0))] []),m 4 0,o 5 (.append 1 8 3 4),m 2 5] [2]<|.ret
theorem Cd.i_copyInts_k : CK 71 Tryd.f71 Cd.i_copyInts 6 [.tmp 2] := ck Tryd.func71
def Cd.i_numberIn_1 : ACode := s [mf 2] [0]<|s [m 3 0,ne 4 3 0,m 2 4] [2]<|.ret
theorem Cd.i_numberIn_1_k : CK 72 Tryd.f72 Cd.i_numberIn_1 5 [.tmp 2] := ck Tryd.func72
def Cd.i_digitOf : ACode := s [mi 2 0] [0]<|.seq (s [mi 4 0] [0,4]<|.block 0 (.loop (s [o 5 (.bin .lss 4 (k 10))] [0,4,5]<|.seq (.cond 5 .skip (.exit 0))<|.seq (.block 1 (s [m 6 4,m 3 6] [0,3,4]<|s [m 7 3,c 8 F.i_bitOf [7],m 9 0,o 10 (.bin .eql 8 9)] [0,3,4,10]<|.cond 10 (s [m 11 3,m 2 11] [2]<|.ret) .skip))<|.region [ad 12
 4 1,m 4 12] [0,4] [])))<|s [mi 2 (-1)] [2]<|.ret
theorem Cd.i_digitOf_k : CK 73 Tryd.f73 Cd.i_digitOf 13 [.tmp 2] := ck Tryd.func73
def Cd.i_isNumber : ACode := s [mf 2] [0]<|s [m 3 0,c 4 F.i_inside [3,(k (-999999999999)),(k 999999999999)],m 2 4] [2]<|.ret
theorem Cd.i_isNumber_k : CK 74 Tryd.f74 Cd.i_isNumber 5 [.tmp 2] := ck Tryd.func74
def Cd.i_ProductBy : ACode := s [mi 4 0,mi 5 0,mi 6 0] [0,1]<|.seq (s [m 10 0,c 11 F.i_isFactor [10],nt 12 11,m 13 12,mg 14 1 13 false,⟨some 15,.call (.func F.i_isFactor) [14] [],some (13,false)⟩,⟨some 16,.un .not 15,some (13,false)⟩,pt 17 13 16] [0,1,17]<|.cond 17 (s [mi 4 0,mi 5 0,mi 6 2] [4,5,6]<|.ret) .skip)<|s [mi 7 1]
 [0,1,7]<|.seq (s [m 18 1,c 19 F.i_digitList [18],ln 20 19,mi 21 0] [0,1,7,19,20,21]<|.block 0 (.loop (s [ls 22 21 20] [0,1,7,19,20,21,22]<|.seq (.cond 22 .skip (.exit 0))<|.seq (.block 1 (s [ix 23 1 19 21,lf 24 1 23,m 9 24] [0,1,7,9,19,20,21]<|s [m 25 9,ne 26 25 0] [0,1,7,19,20,21,26]<|.cond 26
 (.region [m 27 7,ad 28 27 1,m 7 28] [0,1,7,19,20,21] []) .skip))<|.region [ad 29 21 1,m 21 29] [0,1,7,19,20,21] [])))<|s [m 30 0,m 31 1,o 32 (.bin .mul 30 31),m 33 7,m 4 32,m 5 33,mi 6 0] [4,5,6]<|.ret
theorem Cd.i_ProductBy_k : CK 75 Tryd.f75 Cd.i_ProductBy 34 [.tmp 4, .tmp 5, .tmp 6] := ck Tryd.func75
def Cd.i_QuotientBy : ACode := s [mi 4 0,mi 5 0,mi 6 0,mi 7 0] [0,1]<|.seq (.block 0 (s [m 10 0,c 11 F.i_isNumber [10],nt 12 11,m 13 12,mg 14 1 13 false,⟨some 15,.call (.func F.i_isFactor) [14] [],some (13,false)⟩,⟨some 16,.un .not 15,some (13,false)⟩,pt 17 13 16,m 9 17] [0,1,9]<|.cond 9 (s [mi 4 0,mi 5 0,mi 6 0,mi 7 2]
 [4,5,6,7]<|.ret) (s [m 19 1,en 20 19 0,m 18 20] [0,1,18]<|.cond 18 (s [mi 4 0,mi 5 0,mi 6 0,mi 7 6] [4,5,6,7]<|.ret) .skip)))<|s [m 21 0,m 22 1,o 23 (.bin .quo 21 22),m 8 23] [0,1,8]<|r [m 24 8,m 25 0,m 26 1,o 27 (.bin .rem 25 26),m 28 8,c 29 F.i_digitSum [28],m 30 8,c 31 F.i_digitList [30],c
 32 F.i_size_int64_ [31],o 33 (.bin .add 29 32),m 4 24,m 5 27,m 6 33,mi 7 0] [4,5,6,7] [24,25,26,27,28,29,30,31,32,33,4,5]<|.ret
theorem Cd.i_QuotientBy_k : CK 76 Tryd.f76 Cd.i_QuotientBy 34 [.tmp 4, .tmp 5, .tmp 6, .tmp 7] := ck Tryd.func76
def Cd.strconv_FormatInt : ACode := s [o 4 (.mv (.const (.string ⟨#[]⟩)))] [0,1]<|s [m 5 0,m 6 1,c 7 F.internal_strconv_FormatInt [5,6],m 4 7] [4]<|.ret
theorem Cd.strconv_FormatInt_k : CK 77 Tryd.f77 Cd.strconv_FormatInt 8 [.tmp 4] := ck Tryd.func77
def Cd.s_l14Parts : ACode := s [mi 4 0,mi 5 0] [0,1]<|s [mi 6 0] [0,1,6]<|s [mi 7 0] [0,1,6,7]<|s [mi 8 1] [0,1,6,7,8]<|.seq (.block 0 (.loop (.seq (s [m 10 0,o 11 (.bin .gtr 10 (k 0))] [0,1,6,7,8,11]<|.cond 11 .skip (.exit 0))<|.seq (.block 1 (s [m 14 0,o 15 (.bin .rem 14 (k 10)),m 16 1,o 17 (.bin .mul 15 16),m 9 17]
 [0,1,6,7,8,9]<|s [m 18 6,m 19 9,o 20 (.bin .rem 19 (k 10)),m 21 8,o 22 (.bin .mul 20 21),o 23 (.bin .add 18 22),m 6 23] [0,1,6,7,8,9]<|s [m 24 7,m 25 9,o 26 (.bin .quo 25 (k 10)),m 27 8,o 28 (.bin .mul 26 27),o 29 (.bin .add 24 28),m 7 29] [0,1,6,7,8]<|.region [m 30 8,o 31 (.bin .mul 30 (k 10)),m 8
 31] [0,1,6,7,8] []))<|.region [m 12 0,o 13 (.bin .quo 12 (k 10)),m 0 13] [0,1,6,7,8] [])))<|s [m 32 6,m 33 7,m 4 32,m 5 33] [4,5]<|.ret
theorem Cd.s_l14Parts_k : CK 78 Tryd.f78 Cd.s_l14Parts 34 [.tmp 4, .tmp 5] := ck Tryd.func78
def Cd.s_l00Max : ACode := s [mi 4 0] [0,1]<|.seq (s [m 5 0,m 6 1,o 7 (.bin .gtr 5 6)] [0,1,7]<|.cond 7 (s [m 8 0,m 4 8] [4]<|.ret) .skip)<|s [m 9 1,m 4 9] [4]<|.ret
theorem Cd.s_l00Max_k : CK 79 Tryd.f79 Cd.s_l00Max 10 [.tmp 4] := ck Tryd.func79
def Cd.i_isFactor : ACode := s [mf 2] [0]<|s [m 3 0,c 4 F.i_inside [3,(k (-999999)),(k 999999)],m 2 4] [2]<|.ret
theorem Cd.i_isFactor_k : CK 80 Tryd.f80 Cd.i_isFactor 5 [.tmp 2] := ck Tryd.func80
def Cd.i_digitList : ACode := s [mn 2] [0]<|s [m 3 0,c 4 F.i_absOf [3],c 5 F.i_digitsOf [4],m 6 0,c 7 F.i_absOf [6],c 8 F.i_wheelsShow [5,7],o 9 (.field false 0 1 8),m 2 9] [2]<|.ret
theorem Cd.i_digitList_k : CK 81 Tryd.f81 Cd.i_digitList 10 [.tmp 2] := ck Tryd.func81
def Cd.i_digitSum : ACode := s [mi 2 0] [0]<|s [mi 3 0] [0,3]<|.seq (s [m 6 0,c 7 F.i_digitList [6],ln 8 7,mi 9 0] [3,7,8,9]<|.block 0 (.loop (s [ls 10 9 8] [3,7,8,9,10]<|.seq (.cond 10 .skip (.exit 0))<|.seq (.block 1 (s [ix 11 1 7 9,lf 12 1 11,m 5 12] [3,5,7,8,9]<|.region [m 13 3,m 14 5,o 15 (.bin .add 13 14),m 3 15]
 [3,7,8,9] []))<|.region [ad 16 9 1,m 9 16] [3,7,8,9] [])))<|s [m 17 3,m 2 17] [2]<|.ret
theorem Cd.i_digitSum_k : CK 82 Tryd.f82 Cd.i_digitSum 18 [.tmp 2] := ck Tryd.func82
def Cd.i_wheelsShow : ACode := s [o 4 (.alloc [.v (.slice none 0 0)])] [0,1,4]<|s [o 6 (.bslice 1 0 [.v (.int .i64 (0))] []),o 7 (.build [.v (.slice none 0 0)] [(0,1,6)]),o 5 (.alloc [.v (.slice none 0 0)]),⟨none,.store 1 5 7,none⟩] [0,1,4,5]<|.seq (s [m 8 0,mi 9 0] [1,4,5,8,9]<|.block 0 (.loop (s [ls 10 9 8] [1,4,5,8,9,10]<|.seq
 (.cond 10 .skip (.exit 0))<|.seq (.block 1 (s [fa 11 0 5,lf 12 1 11,m 13 1,o 14 (.bin .rem 13 (k 10)),o 15 (.bslice 1 1 [.v (.int .i64 (0))] [(0,14)]),o 16 (.append 1 8 12 15),fa 17 0 5,⟨none,.store 1 17 16,none⟩] [1,4,5,8,9]<|.region [m 18 1,o 19 (.bin .quo 18 (k 10)),m 1 19] [1,4,5,8,9]
 []))<|.region [ad 20 9 1,m 9 20] [1,4,5,8,9] [])))<|s [lt 21 1 5,⟨none,.store 1 4 21,none⟩] [4]<|.ret
theorem Cd.i_wheelsShow_k : CK 84 Tryd.f84 Cd.i_wheelsShow 22 [.cell 4 94] := ck Tryd.func84
attribute [go_sem] Cd.lawCalculateDeck Cd.l_szCardS Cd.s_CalculateDeck Cd.l_toCardS Cd.l_toField Cd.i_CalculateDeck Cd.l_eqCardS Cd.l_markCardS Cd.l_heldCardS Cd.l_szCard Cd.s_l02Deck Cd.s_l14Kind Cd.s_l14Fields Cd.s_l07Width Cd.s_l14Card Cd.l_toCard Cd.i_ValidDeck Cd.i_calcCode Cd.i_deckColumns Cd.i_calculatedCard Cd.l_eqCard Cd.l_markInt64S Cd.l_heldInt64S Cd.l_szInt64S Cd.s_l02Ok Cd.s_l00In Cd.s_l02Field Cd.s_l14Read Cd.s_l14Do Cd.s_l03Put Cd.s_l02Own Cd.l_toInt64S Cd.i_ValidCard Cd._i_Card__columns Cd.i_isCalc Cd.ctf_Field Cd.i_calcCode_1 Cd.i_isNumberField Cd.i_calculated Cd.i_digitsOf Cd.i_absOf Cd.ctf_int64 Cd.i_calculatedCard_1 Cd.i_punchNumber Cd.l_eqInt64S Cd.s_l03Number Cd.s_l02Part Cd.s_ProductBy Cd.s_QuotientBy Cd.s_l14Number Cd.s_l02Bit Cd.s_l00Own Cd.i_inside Cd.i_ValidCard_1 Cd.i_size_int64_ Cd.ixf_Field Cd.i_isField Cd.i_numberIn Cd.i_Calculate Cd.i_Decimal Cd.ixf_int64 Cd.i_newCard Cd.i_bitOf Cd.s_l03Digit Cd.s_l14Factor Cd.s_l14Times Cd.s_l14Size Cd.s_l14Divide Cd.i_copyInts Cd.i_numberIn_1 Cd.i_digitOf Cd.i_isNumber Cd.i_ProductBy Cd.i_QuotientBy Cd.strconv_FormatInt Cd.s_l14Parts Cd.s_l00Max Cd.i_isFactor Cd.i_digitList Cd.i_digitSum Cd.i_wheelsShow
end Go.Proofs.YtimcedhcefcbbaaDoor
