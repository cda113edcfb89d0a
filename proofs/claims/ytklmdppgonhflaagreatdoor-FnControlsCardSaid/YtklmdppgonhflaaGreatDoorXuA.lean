/- The code of each function, resolved. -/
import Derived.Test.YtklmdppgonhflaaGreatDoorVtC
import Derived.Test.YtklmdppgonhflaaGreatDoorRows
set_option linter.all false
set_option maxHeartbeats 8000000
namespace Go.Proofs.YtklmdppgonhflaaGreatDoor
open Go.Vs Go.Vs.Q
set_option maxRecDepth 100000
theorem Tryz.own:ownKnob Tryz.prog.godebug=none:=by kernel_rfl
theorem Tryz.laidOut:laidOutB Tryz.prog=true:=by kernel_rfl
theorem Tryz.mixed:Tryz.prog.follows .mixedOrders=true:=Tryz.checked.mixed
attribute [go_sem] reduceIte reduceCtorEq Nat.reduceEqDiff Nat.reduceLT Nat.reduceLeDiff Nat.reduceAdd Nat.reduceMul Nat.reduceSub Int.reduceToNat Int.reduceNeg
abbrev Fz [Vs.Envs] (f:FuncId) (a:List AV) (r:AV):Prop:=Vs.Fn Tryz.prog f [] a r []
structure CK (f:FuncId) (fn:Func) (ac:aD) (nt:Nat) (rs:List ResultVar):Prop where
 o:l7 Tryz.prog f fn ac
 n:fn.ntmps=nt
 r:fn.results.toList=rs
theorem ck {f:FuncId}{fn:Func}{ac:aD}{nt:Nat}{rs:List ResultVar} (h:Tryz.prog.funcs[f]? = some fn) (F:fn.body.bind (bN Tryz.prog fn.ntmps (dF Tryz.prog))=some ac.bare:=by kernel_rfl) (h2:(fn.name != "runtime.NumGoroutine")=true:=by decide +kernel) (G:fn.ntmps=nt:=by rfl) (H:fn.results.toList=rs:=by rfl):CK f fn ac nt rs:=⟨⟨h,F,h2⟩,G,H⟩
theorem fn0 [Vs.Envs] {f:FuncId}{fn:Func}{ac:aD}{nt:Nat}{rs:List ResultVar} (h:CK f fn ac nt rs) {args:List AV}{r:AV}
 (G:∀C:Ctx,wpc Tryz.prog C (dF Tryz.prog) ac (sZ Tryz.prog rs [] r []) (λe σ=>match e with|.ret=>sZ Tryz.prog rs [] r [] σ|.exit _=>False) ⟨ini 0 args,[]⟩) (F:Nat.ble args.length nt=true:=by rfl):Vs.Fn Tryz.prog f [] args r []:=
 h.o.fn0 Tryz.mixed h.n h.r F G
theorem fn1 [Vs.Envs] {f:FuncId}{fn:Func}{ac:aD}{nt:Nat}{rs:List ResultVar} (h:CK f fn ac nt rs) {hin:List Blk}{args:List AV}{r:AV}{F:List (Option Blk)} (B:List Vs.Name) (hout:List Blk)
 (O:∀C:Ctx,wpc Tryz.prog C (dF Tryz.prog) ac (sZ Tryz.prog rs B r hout) (λe σ=>match e with|.ret=>sZ Tryz.prog rs B r hout σ|.exit _=>False) ⟨ini 0 args,xZ 0 hin⟩) (M:F=hout.map some:=by rfl) (G:Nat.ble args.length nt=true:=by rfl) (H:nodupB B=true:=by rfl) (J:∀j,j<hin.length->B[j]? = some (.b j):=by first|(simp;done)|(intro j I;rcases j with _|_|_|j<;>first|rfl|(simp at I;done)|(simp at I;omega))):Vs.Fn Tryz.prog f hin args r F:=
 h.o.fn Tryz.mixed nt rs B hout h.n h.r M (Bd G) H J O
theorem dM [Vs.Envs]:lX Tryz.prog (dF Tryz.prog):=rE Tryz.mixed
namespace F
abbrev l_FnControls:FuncId:=3
abbrev aBf:FuncId:=4
abbrev pF:FuncId:=5
abbrev iO:FuncId:=6
abbrev iG:FuncId:=7
abbrev jR:FuncId:=8
abbrev nW:FuncId:=9
abbrev qP:FuncId:=10
abbrev uI:FuncId:=11
abbrev mV:FuncId:=12
abbrev j5:FuncId:=13
abbrev gU:FuncId:=14
abbrev lG:FuncId:=15
abbrev iI:FuncId:=16
abbrev kK:FuncId:=17
abbrev kJ:FuncId:=18
abbrev iH:FuncId:=19
abbrev mI:FuncId:=20
abbrev gP:FuncId:=21
abbrev mJ:FuncId:=22
abbrev jA:FuncId:=23
abbrev iX:FuncId:=24
abbrev zH:FuncId:=25
abbrev mG:FuncId:=26
abbrev gJ:FuncId:=27
abbrev aEo:FuncId:=28
abbrev fV:FuncId:=29
abbrev bA:FuncId:=30
abbrev aF:FuncId:=31
abbrev lD:FuncId:=32
abbrev yE:FuncId:=33
abbrev oU:FuncId:=34
abbrev nV:FuncId:=35
abbrev dQ:FuncId:=36
abbrev lN:FuncId:=37
abbrev gN:FuncId:=38
abbrev vD:FuncId:=39
abbrev sD:FuncId:=40
abbrev jI:FuncId:=41
abbrev xA:FuncId:=42
abbrev j4:FuncId:=43
abbrev iW:FuncId:=44
abbrev pU:FuncId:=45
abbrev jF:FuncId:=46
abbrev fE:FuncId:=47
abbrev eP:FuncId:=48
abbrev jZ:FuncId:=49
abbrev pM:FuncId:=50
abbrev jJ:FuncId:=51
abbrev gZ:FuncId:=52
abbrev gK:FuncId:=53
abbrev vC:FuncId:=54
abbrev qF:FuncId:=55
abbrev cZ:FuncId:=56
abbrev l5:FuncId:=57
abbrev strings_Split:FuncId:=58
abbrev qH:FuncId:=59
abbrev pK:FuncId:=60
abbrev aDb:FuncId:=61
abbrev sV:FuncId:=62
abbrev bI:FuncId:=63
abbrev kI:FuncId:=64
abbrev zF:FuncId:=65
abbrev zZ:FuncId:=66
abbrev pR:FuncId:=67
abbrev jY:FuncId:=68
abbrev dU:FuncId:=69
abbrev fG:FuncId:=70
abbrev bE:FuncId:=71
abbrev qK:FuncId:=72
abbrev iN:FuncId:=73
abbrev tV:FuncId:=74
abbrev tQ:FuncId:=75
abbrev nU:FuncId:=76
abbrev iE:FuncId:=77
abbrev bW:FuncId:=78
abbrev iY:FuncId:=79
abbrev nH:FuncId:=80
abbrev uA:FuncId:=81
abbrev kR:FuncId:=82
abbrev pO:FuncId:=83
abbrev fD:FuncId:=84
abbrev vG:FuncId:=85
abbrev sF:FuncId:=86
abbrev lF:FuncId:=87
abbrev nL:FuncId:=88
abbrev qL:FuncId:=89
abbrev mF:FuncId:=90
abbrev gI:FuncId:=91
abbrev sU:FuncId:=92
abbrev vK:FuncId:=93
abbrev lZ:FuncId:=94
abbrev rC:FuncId:=95
abbrev aA0:FuncId:=96
abbrev eZ:FuncId:=97
abbrev strings_genSplit:FuncId:=98
abbrev strings_TrimPrefix:FuncId:=100
abbrev qN:FuncId:=101
abbrev p8:FuncId:=102
abbrev nT:FuncId:=103
abbrev tO:FuncId:=104
abbrev zG:FuncId:=105
abbrev yF:FuncId:=106
abbrev bR:FuncId:=107
abbrev vF:FuncId:=108
abbrev yJ:FuncId:=109
abbrev nC:FuncId:=110
abbrev mR:FuncId:=111
abbrev mQ:FuncId:=112
abbrev lM:FuncId:=113
abbrev l6:FuncId:=114
abbrev fQ:FuncId:=115
abbrev fA:FuncId:=116
abbrev wF:FuncId:=117
abbrev rA:FuncId:=118
abbrev pW:FuncId:=119
abbrev sS:FuncId:=120
abbrev pX:FuncId:=121
abbrev vI:FuncId:=122
abbrev eT:FuncId:=123
abbrev lJ:FuncId:=124
abbrev strings_Count:FuncId:=126
abbrev strings_Index:FuncId:=127
abbrev kG:FuncId:=131
abbrev vY:FuncId:=132
abbrev lL:FuncId:=133
abbrev zD:FuncId:=134
abbrev qZ:FuncId:=135
abbrev uB:FuncId:=136
abbrev oV:FuncId:=137
abbrev mU:FuncId:=138
abbrev jU:FuncId:=139
abbrev oW:FuncId:=140
abbrev pY:FuncId:=141
abbrev sO:FuncId:=142
abbrev xB:FuncId:=143
abbrev strings_IndexByte:FuncId:=144
abbrev kF:FuncId:=145
abbrev oQ:FuncId:=146
abbrev tZ:FuncId:=147
abbrev aAm:FuncId:=148
abbrev jP:FuncId:=149
abbrev internal_strconv_small:FuncId:=150
abbrev internal_strconv_numDigits:FuncId:=151
abbrev internal_strconv_formatBase10:FuncId:=152
abbrev strconv_syntaxError:FuncId:=159
abbrev strconv_rangeError:FuncId:=160
abbrev qD:FuncId:=164
abbrev uG:FuncId:=165
abbrev eO:FuncId:=166
abbrev tX:FuncId:=167
abbrev qE:FuncId:=168
abbrev zC:FuncId:=169
abbrev tT:FuncId:=170
abbrev qC:FuncId:=171
abbrev eQ:FuncId:=172
abbrev gD:FuncId:=173
abbrev jT:FuncId:=174
abbrev lQ:FuncId:=175
abbrev uF:FuncId:=176
abbrev gL:FuncId:=177
abbrev tY:FuncId:=178
abbrev jO:FuncId:=179
abbrev vE:FuncId:=180
abbrev pQ:FuncId:=181
abbrev bQ:FuncId:=182
abbrev internal_strconv_log10Pow2:FuncId:=183
abbrev internal_strconv_lower:FuncId:=192
abbrev strconv_Itoa:FuncId:=196
abbrev mO:FuncId:=197
abbrev jS:FuncId:=198
abbrev dR:FuncId:=199
abbrev qX:FuncId:=200
abbrev vZ:FuncId:=201
abbrev aBk:FuncId:=202
abbrev fB:FuncId:=203
abbrev kH:FuncId:=204
abbrev fT:FuncId:=205
abbrev qO:FuncId:=206
abbrev z8:FuncId:=207
abbrev mY:FuncId:=208
abbrev o6:FuncId:=209
abbrev sW:FuncId:=210
abbrev oF:FuncId:=211
abbrev mH:FuncId:=212
abbrev jQ:FuncId:=213
abbrev oG:FuncId:=214
abbrev internal_strconv_Itoa:FuncId:=219
abbrev bY:FuncId:=220
abbrev iZ:FuncId:=221
abbrev wG:FuncId:=222
abbrev iU:FuncId:=223
abbrev nR:FuncId:=224
abbrev qY:FuncId:=225
abbrev aAZ:FuncId:=226
abbrev jX:FuncId:=227
abbrev nJ:FuncId:=228
abbrev qM:FuncId:=229
abbrev sP:FuncId:=230
abbrev nK:FuncId:=231
abbrev sQ:FuncId:=232
abbrev yH:FuncId:=233
abbrev pV:FuncId:=234
abbrev zI:FuncId:=235
abbrev jW:FuncId:=236
abbrev aAl:FuncId:=237
abbrev yI:FuncId:=238
abbrev fP:FuncId:=239
abbrev yG:FuncId:=240
abbrev wE:FuncId:=241
abbrev fZ:FuncId:=242
abbrev aX:FuncId:=243
abbrev vH:FuncId:=244
abbrev sG:FuncId:=245
abbrev j6:FuncId:=246
abbrev vJ:FuncId:=247
abbrev iF:FuncId:=248
end F
theorem Ld.t27:vQ Tryz.prog 27=some (true,2):=by kernel_rfl
theorem Ld.t31:vQ Tryz.prog 31=some (true,9):=by kernel_rfl
theorem Ld.t29:vQ Tryz.prog 29=some (true,2):=by kernel_rfl
theorem Ld.t35:vQ Tryz.prog 35=some (true,3):=by kernel_rfl
theorem Ld.t104:vQ Tryz.prog 104=some (true,1):=by kernel_rfl
theorem Ld.t164:vQ Tryz.prog 164=some (true,1):=by kernel_rfl
attribute [go_sem] Ld.t27 Ld.t31 Ld.t29 Ld.t35 Ld.t104 Ld.t164
def Cd.l_FnControls:aD:=s [mf 2] [0]<|.seq (s [m 42 0,c 43 F.aBf [42]] [0,43]<|.cond 43 (s [mt 2] [2]<|.ret) .skip)<|s [m 45 0,c 46 F.pF [45],m 44 46,ex 47 44 0,ex 48 44 1,ex 49 44 2,o 3 (.alloc [.v (.slice none 0 0),.v (.slice none 0 0)]),o 4 (.alloc [.v (.int .i64 (0)),.v (.int .i64 (0)),.v
 (.int .i64 (0)),.v (.int .i64 (0)),.v (.int .i64 (0)),.v (.int .i64 (0)),.v (.int .i64 (0)),.v (.int .i64 (0)),.v (.string ⟨#[]⟩)]),o 5 (.alloc [.v (.int .i64 (0)),.v (.int .i64 (0))]),⟨none,.store 2 3 47,none⟩,⟨none,.store 9 4 48,none⟩,⟨none,.store 2 5 49,none⟩] [0,3,4,5]<|s [lt 51 2 3,lt 52 9 4,lt
 53 2 5,c 54 F.iO [51,52,53],m 50 54,ex 55 50 0,ex 56 50 1,o 6 (.alloc [.v (.int .i64 (0)),.v (.int .i64 (0)),.v (.int .i64 (0))]),⟨none,.store 3 6 55,none⟩,m 7 56] [0,3,4,5,6,7]<|s [lt 58 2 3,lt 59 9 4,lt 60 2 5,c 61 F.iG [58,59,60],m 57 61,ex 62 57 0,ex 63 57 1,o
 8 (.alloc [.v (.int .i64 (0)),.v (.int .i64 (0)),.v (.int .i64 (0))]),⟨none,.store 3 8 62,none⟩,m 9 63] [0,3,4,5,6,7,8,9]<|s [m 65 0,c 66 F.jR [65],m 64 66,ex 67 64 0,ex 68 64 1,o 11 (.alloc [.v (.int .i64 (0)),.v (.int .i64 (0))]),m 10 67,⟨none,.store 2 11 68,none⟩]
 [0,3,4,5,6,7,8,9,10,11]<|s [m 70 10,lt 71 2 11,c 72 F.nW [70,71],m 69 72,ex 73 69 0,ex 74 69 1,o 12 (.alloc [.v (.int .i64 (0)),.v (.int .i64 (0)),.v (.int .i64 (0))]),⟨none,.store 3 12 73,none⟩,m 13 74] [0,3,4,5,6,7,8,9,10,11,12,13]<|s [m 76 10,lt 77 2 11,c 78 F.qP [76,77],m
 75 78,ex 79 75 0,ex 80 75 1,o 14 (.alloc [.v (.int .i64 (0)),.v (.int .i64 (0)),.v (.int .i64 (0))]),⟨none,.store 3 14 79,none⟩,m 15 80] [0,3,4,5,6,7,8,9,12,13,14,15]<|s [m 82 0,c 83 F.uI [82],m 81 83,ex 84 81 0,ex 85 81 1,o 16 (.alloc [.v (.int .i64 (0)),.v (.int .i64 (0)),.v (.int
 .i64 (0))]),o 17 (.alloc [.v (.int .i64 (0)),.v (.int .i64 (0)),.v (.int .i64 (0))]),⟨none,.store 3 16 84,none⟩,⟨none,.store 3 17 85,none⟩] [0,3,4,5,6,7,8,9,12,13,14,15,16,17]<|s [lt 87 3 16,lt 88 3 17,c 89 F.mV [87,88],m 86 89,ex 90 86 0,ex 91 86 1,o 18 (.alloc [.v (.int .i64 (0)),.v
 (.int .i64 (0)),.v (.int .i64 (0))]),⟨none,.store 3 18 90,none⟩,m 19 91] [0,3,4,5,6,7,8,9,12,13,14,15,16,17,18,19]<|s [lt 93 3 16,lt 94 3 17,c 95 F.j5 [93,94],m 92 95,ex 96 92 0,ex 97 92 1,o 20 (.alloc [.v (.int .i64 (0)),.v (.int .i64 (0)),.v (.int .i64 (0))]),⟨none,.store 3 20
 96,none⟩,m 21 97] [0,3,4,5,6,7,8,9,12,13,14,15,16,17,18,19,20,21]<|s [lt 99 3 16,lt 100 3 17,c 101 F.gU [99,100],m 98 101,ex 102 98 0,ex 103 98 1,o 22 (.alloc [.v (.int .i64 (0)),.v (.int .i64 (0)),.v (.int .i64 (0))]),⟨none,.store 3 22 102,none⟩,m 23 103]
 [0,3,4,5,6,7,8,9,12,13,14,15,16,17,18,19,20,21,22,23]<|s [lt 105 3 16,lt 106 3 17,c 107 F.lG [105,106],m 104 107,ex 108 104 0,ex 109 104 1,o 24 (.alloc [.v (.int .i64 (0)),.v (.int .i64 (0)),.v (.int .i64 (0))]),⟨none,.store 3 24 108,none⟩,m 25 109]
 [0,3,4,5,6,7,8,9,12,13,14,15,16,17,18,19,20,21,22,23,24,25]<|s [m 110 0,c 111 F.iI [110],o 26 (.alloc [.v (.int .i64 (0)),.v (.int .i64 (0)),.v (.int .i64 (0))]),⟨none,.store 3 26 111,none⟩] [0,3,4,5,6,7,8,9,12,13,14,15,16,17,18,19,20,21,22,23,24,25,26]<|s [lt 112 3 26,c 113
 F.kK [112],m 27 113] [0,3,4,5,6,7,8,9,12,13,14,15,16,17,18,19,20,21,22,23,24,25,26,27]<|s [m 115 27,c 116 F.kJ [115],m 114 116,ex 117 114 0,ex 118 114 1,o 28 (.alloc [.v (.int .i64 (0)),.v (.int .i64 (0)),.v (.int .i64 (0))]),⟨none,.store 3 28 117,none⟩,m 29 118]
 [0,3,4,5,6,7,8,9,12,13,14,15,16,17,18,19,20,21,22,23,24,25,26,27,28,29]<|s [m 119 0,c 120 F.iH [119],m 30 120] [0,3,4,5,6,7,8,9,12,13,14,15,16,17,18,19,20,21,22,23,24,25,26,27,28,29,30]<|s [m 122 30,c 123 F.kJ [122],m 121 123,ex 124 121 0,ex 125 121 1,o 31 (.alloc [.v
 (.int .i64 (0)),.v (.int .i64 (0)),.v (.int .i64 (0))]),⟨none,.store 3 31 124,none⟩,m 32 125] [0,3,4,5,6,7,8,9,12,13,14,15,16,17,18,19,20,21,22,23,24,25,26,27,28,29,30,31,32]<|s [m 127 30,c 128 F.mI [127],m 126 128,ex 129 126 0,ex 130 126 1,o 33 (.alloc [.v (.int .i64 (0)),.v (.int .i64
 (0)),.v (.int .i64 (0))]),⟨none,.store 3 33 129,none⟩,m 34 130] [0,3,4,5,6,7,8,9,12,13,14,15,16,17,18,19,20,21,22,23,24,25,26,27,28,29,31,32,33,34]<|s [m 131 0,c 132 F.gP [131],m 35 132] [3,4,5,6,7,8,9,12,13,14,15,16,17,18,19,20,21,22,23,24,25,26,27,28,29,31,32,33,34,35]<|.seq (s
 [m 133 7,m 134 9,o 135 (.bin .neq 133 134),m 136 135,⟨some 137,.load true 3 6,some (136,false)⟩,⟨some 138,.load true 3 8,some (136,false)⟩,⟨some 139,.eqA true [0,0,0] 137 138,some (136,false)⟩,pt 140 136 139,m 141 140,mg 142 13 141 false,mg 143 15 141 false,⟨some 144,.bin .neq 142 143,some
 (141,false)⟩,pt 145 141 144,m 146 145,⟨some 147,.load true 3 12,some (146,false)⟩,⟨some 148,.load true 3 14,some (146,false)⟩,⟨some 149,.eqA true [0,0,0] 147 148,some (146,false)⟩,pt 150 146 149,m 151 150,mg 152 19 151 false,mg 153 21 151 false,⟨some 154,.bin .neq 152 153,some (151,false)⟩,pt 155 151
 154,m 156 155,⟨some 157,.load true 3 18,some (156,false)⟩,⟨some 158,.load true 3 20,some (156,false)⟩,⟨some 159,.eqA true [0,0,0] 157 158,some (156,false)⟩,pt 160 156 159,m 161 160,mg 162 23 161 false,mg 163 25 161 false,⟨some 164,.bin .neq 162 163,some (161,false)⟩,pt 165 161 164,m 166 165,⟨some
 167,.load true 3 22,some (166,false)⟩,⟨some 168,.load true 3 24,some (166,false)⟩,⟨some 169,.eqA true [0,0,0] 167 168,some (166,false)⟩,pt 170 166 169,m 171 170,mg 172 27 171 false,⟨some 173,.load true 3 26,some (171,false)⟩,⟨some 174,.call (.func F.mJ) [173] [],some (171,false)⟩,⟨some
 175,.binS .neq 172 174,some (171,false)⟩,pt 176 171 175,m 177 176,mg 178 29 177 false,mg 179 27 177 false,⟨some 180,.binS .neq 179 (.const (.string ⟨#[]⟩)),some (177,false)⟩,⟨some 181,.binB .neq 178 180,some (177,false)⟩,pt 182 177 181,m 183 182,mg 184 29 183 false,mg 185 184 183 false,⟨some
 186,.load true 3 28,some (185,true)⟩,⟨some 187,.load true 3 26,some (185,true)⟩,⟨some 188,.eqA true [0,0,0] 186 187,some (185,true)⟩,⟨some 189,.pick 185 188 (.const (.bool false)),some (183,false)⟩,pt 190 183 189,m 191 190,mg 192 32 191 false,mg 193 34 191 false,⟨some 194,.binB .neq 192 193,some
 (191,false)⟩,pt 195 191 194,m 196 195,⟨some 197,.load true 3 31,some (196,false)⟩,⟨some 198,.load true 3 33,some (196,false)⟩,⟨some 199,.eqA true [0,0,0] 197 198,some (196,false)⟩,pt 200 196 199,m 201 200,mg 202 35 201 false,⟨some 203,.call (.func F.jA) [202] [],some (201,false)⟩,mg
 204 35 201 false,⟨some 205,.call (.func F.iX) [204] [],some (201,false)⟩,⟨some 206,.binB .neq 203 205,some (201,false)⟩,pt 207 201 206] [3,4,5,6,7,16,17,18,19,207]<|.cond 207 (s [mf 2] [2]<|.ret) .skip)<|.seq (s [m 208 19,en 209 208 0] [3,4,5,6,7,16,17,18,209]<|.cond 209 (s [lt 211 3
 18,lt 212 3 17,c 213 F.gU [211,212],m 210 213,ex 214 210 0,ex 215 210 1,o 36 (.alloc [.v (.int .i64 (0)),.v (.int .i64 (0)),.v (.int .i64 (0))]),⟨none,.store 3 36 214,none⟩,m 37 215] [3,4,5,6,7,16,36,37]<|s [m 216 37,ne 217 216 0,m 218 217,⟨some 219,.load true 3 36,some
 (218,false)⟩,⟨some 220,.load true 3 16,some (218,false)⟩,⟨some 221,.eqA true [0,0,0] 219 220,some (218,false)⟩,pt 222 218 221] [3,4,5,6,7,222]<|.cond 222 (s [mf 2] [2]<|.ret) .skip) .skip)<|.seq (s [m 223 7,ne 224 223 0] [3,4,5,6,224]<|.cond 224 (s [mt 2] [2]<|.ret) .skip)<|s [lt 226 2 3,lt 227 9 4,c
 228 F.zH [226,227],m 225 228,ex 229 225 0,ex 230 225 1,o 38 (.alloc [.v (.slice none 0 0),.v (.slice none 0 0)]),⟨none,.store 2 38 229,none⟩,m 39 230] [4,5,6,38,39]<|.seq (s [m 231 39,ne 232 231 0] [4,5,6,38,232]<|.cond 232 (s [mt 2] [2]<|.ret) .skip)<|.seq (s [lt 233 2 38,c 234
 F.mG [233],nt 235 234] [4,5,6,38,235]<|.cond 235 (s [mf 2] [2]<|.ret) .skip)<|r [fa 237 0 38,lf 238 1 237,fa 239 3 4,lf 240 1 239,ix 241 1 238 240,lf 242 1 241,lt 243 2 5,c 244 F.nW [242,243],m 236 244,ex 245 236 0,ex 246 236 1,o 40 (.alloc [.v (.int .i64 (0)),.v (.int .i64
 (0)),.v (.int .i64 (0))]),⟨none,.store 3 40 245,none⟩,m 41 246] [6,40,41] [237,239,238,240,241,242,243,244,236,245,246,40]<|s [m 247 41,en 248 247 0,m 249 248,⟨some 250,.load true 3 40,some (249,true)⟩,⟨some 251,.load true 3 6,some (249,true)⟩,⟨some 252,.eqA false [0,0,0] 250 251,some (249,true)⟩,pf
 253 249 252,m 2 253] [2]<|.ret
theorem Cd.l_FnControls_k:CK 3 Tryz.f3 Cd.l_FnControls 254 [.tmp 2]:=ck Tryz.func3
def Cd.aBf:aD:=s [mf 2] [0]<|s [m 3 0,ln 4 3,o 5 (.bin .gtr 4 (k 4096)),m 2 5] [2]<|.ret
theorem Cd.l_f6big_k:CK 4 Tryz.f4 Cd.aBf 6 [.tmp 2]:=ck Tryz.func4
def Cd.iO:aD:=s [bx 3 0,bx 4 1,bx 5 2,o 6 (.alloc [.v (.int .i64 (0)),.v (.int .i64 (0)),.v (.int .i64 (0))]),mi 7 0] [3,4,5,6]<|s [lt 13 2 3,lt 14 2 5,c 15 F.oU [13,(.const (.slice none 0 0)),14],m 8 15] [3,4,5,6,8]<|.seq (.block 0 (s [m 17 8,ne 18 17 0,m 16 18] [3,4,5,6,8,16]<|.cond 16 (s [o 19
 (.build [.v (.int .i64 (0)),.v (.int .i64 (0)),.v (.int .i64 (0))] []),m 20 8,⟨none,.store 3 6 19,none⟩,m 7 20] [6,7]<|.ret) (r [lt 22 9 4,lt 23 2 3,c 24 F.dQ [23],c 25 F.nV [22,24],nt 26 25,m 21 26] [3,4,5,6,21] [22,23,24,25,26,21]<|.cond 21 (s [o 27 (.build [.v (.int
 .i64 (0)),.v (.int .i64 (0)),.v (.int .i64 (0))] []),⟨none,.store 3 6 27,none⟩,mi 7 2] [6,7]<|.ret) (s [fa 29 0 4,lf 30 1 29,c 31 F.jA [30],nt 32 31,m 28 32] [3,4,5,6,28]<|.cond 28 (s [o 33 (.build [.v (.int .i64 (0)),.v (.int .i64 (0)),.v (.int .i64 (0))] []),⟨none,.store 3 6
 33,none⟩,mi 7 6] [6,7]<|.ret) .skip))))<|r [fa 35 0 3,lf 36 1 35,fa 37 1 4,lf 38 1 37,ix 39 1 36 38,lf 40 1 39,lt 41 2 5,c 42 F.lN [40,41],m 34 42,ex 43 34 0,ex 44 34 1,o 9 (.alloc [.v (.int .i64 (0)),.v (.int .i64 (0)),.v (.int .i64 (0))]),⟨none,.store 3 9 43,none⟩,m 10 44]
 [3,4,5,6,9,10] [35,37,36,38,39,40,41,42,34,43,44,9]<|.seq (s [fa 45 0 4,lf 46 1 45,en 47 46 2] [3,4,5,6,9,10,47]<|.cond 47 (r [fa 49 0 3,lf 50 1 49,fa 51 2 4,lf 52 1 51,ix 53 1 50 52,lf 54 1 53,lt 55 2 5,c 56 F.lN [54,55],m 48 56,ex 57 48 0,ex 58 48 1,o 11 (.alloc [.v (.int .i64 (0)),.v
 (.int .i64 (0)),.v (.int .i64 (0))]),⟨none,.store 3 11 57,none⟩,m 12 58] [6,9,10,11,12] [49,51,50,52,53,54,55,56,48,57,58,11]<|.region [lt 59 3 9,lt 60 3 11,c 61 F.gN [59,60,(k 1)],m 62 10,m 63 62,mg 64 12 63 true,pf 65 63 64,⟨none,.store 3 9 61,none⟩,m 10 65] [6,9,10] [])
 .skip)<|.seq (s [m 66 10,nt 67 66] [6,9,67]<|.cond 67 (s [o 68 (.build [.v (.int .i64 (0)),.v (.int .i64 (0)),.v (.int .i64 (0))] []),⟨none,.store 3 6 68,none⟩,mi 7 8] [6,7]<|.ret) .skip)<|s [lt 69 3 9,⟨none,.store 3 6 69,none⟩,mi 7 0] [6,7]<|.ret
theorem Cd.i_ExpectedControl_k:CK 6 Tryz.f6 Cd.iO 70 [.cell 6 35,.tmp 7]:=ck Tryz.func6
def Cd.iG:aD:=s [bx 3 0,bx 4 1,bx 5 2,o 6 (.alloc [.v (.int .i64 (0)),.v (.int .i64 (0)),.v (.int .i64 (0))]),mi 7 0] [3,4,5,6]<|s [lt 13 2 5,c 14 F.vD [3,13],m 8 14] [3,4,5,6,8]<|.seq (s [m 15 8,en 16 15 0,m 17 16,⟨some 18,.call (.func F.jI) [3] [],some (17,true)⟩,⟨some 19,.call (.func
 F.sD) [4,18] [],some (17,true)⟩,⟨some 20,.un .not 19,some (17,true)⟩,pf 21 17 20] [3,4,5,6,8,21]<|.cond 21 (.region [mi 8 2] [3,4,5,6,8] []) .skip)<|.seq (s [m 22 8,en 23 22 0,m 24 23,fg 25 0 4 24 true,lg 26 1 25 24 true,⟨some 27,.call (.func F.iX) [26] [],some
 (24,true)⟩,⟨some 28,.un .not 27,some (24,true)⟩,pf 29 24 28] [3,4,5,6,8,29]<|.cond 29 (.region [mi 8 6] [3,4,5,6,8] []) .skip)<|.seq (s [m 30 8,ne 31 30 0] [3,4,5,6,8,31]<|.cond 31 (s [o 32 (.build [.v (.int .i64 (0)),.v (.int .i64 (0)),.v (.int .i64 (0))] []),m 33 8,⟨none,.store 3 6 32,none⟩,m 7 33]
 [6,7]<|.ret) .skip)<|r [fa 35 0 3,lf 36 1 35,fa 37 1 4,lf 38 1 37,ix 39 1 36 38,lf 40 1 39,lt 41 2 5,c 42 F.xA [40,41],m 34 42,ex 43 34 0,ex 44 34 1,o 9 (.alloc [.v (.int .i64 (0)),.v (.int .i64 (0)),.v (.int .i64 (0))]),⟨none,.store 3 9 43,none⟩,m 10 44] [3,4,5,6,9,10]
 [35,37,36,38,39,40,41,42,34,43,44,9]<|.seq (s [fa 45 0 4,lf 46 1 45,en 47 46 1] [3,4,5,6,9,10,47]<|.cond 47 (.seq (s [m 48 10,nt 49 48] [6,9,49]<|.cond 49 (s [o 50 (.build [.v (.int .i64 (0)),.v (.int .i64 (0)),.v (.int .i64 (0))] []),⟨none,.store 3 6 50,none⟩,mi 7 8] [6,7]<|.ret) .skip)<|s [lt 51 3
 9,⟨none,.store 3 6 51,none⟩,mi 7 0] [6,7]<|.ret) .skip)<|r [fa 53 0 3,lf 54 1 53,fa 55 2 4,lf 56 1 55,ix 57 1 54 56,lf 58 1 57,lt 59 2 5,c 60 F.xA [58,59],m 52 60,ex 61 52 0,ex 62 52 1,o 11 (.alloc [.v (.int .i64 (0)),.v (.int .i64 (0)),.v (.int .i64 (0))]),⟨none,.store 3 11 61,none⟩,m 12 62]
 [6,9,10,11,12] [53,55,54,56,57,58,59,60,52,61,62,11]<|.seq (s [m 63 10,nt 64 63,m 65 64,mg 66 12 65 false,⟨some 67,.un .not 66,some (65,false)⟩,pt 68 65 67] [6,9,11,68]<|.cond 68 (s [o 69 (.build [.v (.int .i64 (0)),.v (.int .i64 (0)),.v (.int .i64 (0))] []),⟨none,.store 3 6 69,none⟩,mi 7 8]
 [6,7]<|.ret) .skip)<|s [lt 70 3 9,lt 71 3 11,c 72 F.j5 [70,71],ex 73 72 0,ex 74 72 1,⟨none,.store 3 6 73,none⟩,m 7 74] [6,7]<|.ret
theorem Cd.s_ExpectedControl_k:CK 7 Tryz.f7 Cd.iG 75 [.cell 6 35,.tmp 7]:=ck Tryz.func7
def Cd.jR:aD:=s [mn 2,o 3 (.alloc [.v (.int .i64 (0)),.v (.int .i64 (0))])] [0,3]<|s [m 6 0,c 7 F.gJ [6],m 4 7] [3,4]<|.seq (s [m 8 4,o 9 (.call (.func F.bA) [8,(k 6)] [0])] [3,4,9]<|.cond 9 (s [m 10 4,o 11 (.call (.func F.j4) [10] [0]),m 12 4,o 13 (.call (.func
 F.iW) [12,(k 4)] [0]),m 2 11,⟨none,.store 2 3 13,none⟩] [2,3]<|.ret) .skip)<|s [m 14 4,o 15 (.call (.func F.pU) [14,(k 8)] [0]),m 5 15] [3,4,5]<|s [m 16 5,m 17 4,o 18 (.call (.func F.yE) [17] [0]),m 2 16,⟨none,.store 2 3 18,none⟩] [2,3]<|.ret
theorem Cd.s_DrawControlOf_k:CK 8 Tryz.f8 Cd.jR 19 [.tmp 2,.cell 3 29]:=ck Tryz.func8
def Cd.nW:aD:=s [bx 3 1,o 4 (.alloc [.v (.int .i64 (0)),.v (.int .i64 (0)),.v (.int .i64 (0))]),mi 5 0] [0,3,4]<|.seq (.block 0 (s [m 9 0,c 10 F.jF [9],nt 11 10,m 8 11] [0,3,4,8]<|.cond 8 (s [o 12 (.build [.v (.int .i64 (0)),.v (.int .i64 (0)),.v (.int .i64 (0))] []),⟨none,.store 3 4 12,none⟩,mi 5 1]
 [4,5]<|.ret) (r [lt 14 2 3,m 15 0,c 16 F.eP [15],c 17 F.fE [14,16],nt 18 17,m 13 18] [0,3,4,13] [14,15,16,17,18,13]<|.cond 13 (s [o 19 (.build [.v (.int .i64 (0)),.v (.int .i64 (0)),.v (.int .i64 (0))] []),⟨none,.store 3 4 19,none⟩,mi 5 2] [4,5]<|.ret) .skip)))<|s [m 21
 0,lt 22 2 3,c 23 F.lN [21,22],m 20 23,ex 24 20 0,ex 25 20 1,o 6 (.alloc [.v (.int .i64 (0)),.v (.int .i64 (0)),.v (.int .i64 (0))]),⟨none,.store 3 6 24,none⟩,m 7 25] [4,6,7]<|.seq (s [m 26 7,nt 27 26] [4,6,27]<|.cond 27 (s [o 28 (.build [.v (.int .i64 (0)),.v (.int .i64 (0)),.v (.int .i64
 (0))] []),⟨none,.store 3 4 28,none⟩,mi 5 8] [4,5]<|.ret) .skip)<|s [lt 29 3 6,⟨none,.store 3 4 29,none⟩,mi 5 0] [4,5]<|.ret
theorem Cd.i_ControlOf_k:CK 9 Tryz.f9 Cd.nW 30 [.cell 4 35,.tmp 5]:=ck Tryz.func9
def Cd.qP:aD:=s [bx 3 1,o 4 (.alloc [.v (.int .i64 (0)),.v (.int .i64 (0)),.v (.int .i64 (0))]),mi 5 0] [0,3,4]<|.seq (s [m 8 0,c 9 F.jZ [8],nt 10 9] [0,3,4,10]<|.cond 10 (s [o 11 (.build [.v (.int .i64 (0)),.v (.int .i64 (0)),.v (.int .i64 (0))] []),⟨none,.store 3 4 11,none⟩,mi 5 1] [4,5]<|.ret)
 .skip)<|.seq (r [lt 12 2 3,m 13 0,c 14 F.jJ [13],c 15 F.pM [12,14],nt 16 15] [0,3,4,16] [12,13,14,15,16]<|.cond 16 (s [o 17 (.build [.v (.int .i64 (0)),.v (.int .i64 (0)),.v (.int .i64 (0))] []),⟨none,.store 3 4 17,none⟩,mi 5 2] [4,5]<|.ret) .skip)<|s [m 19 0,lt 20 2 3,c 21
 F.xA [19,20],m 18 21,ex 22 18 0,ex 23 18 1,o 6 (.alloc [.v (.int .i64 (0)),.v (.int .i64 (0)),.v (.int .i64 (0))]),⟨none,.store 3 6 22,none⟩,m 7 23] [4,6,7]<|.seq (s [m 24 7,nt 25 24] [4,6,25]<|.cond 25 (s [o 26 (.build [.v (.int .i64 (0)),.v (.int .i64 (0)),.v (.int .i64 (0))]
 []),⟨none,.store 3 4 26,none⟩,mi 5 8] [4,5]<|.ret) .skip)<|s [lt 27 3 6,⟨none,.store 3 4 27,none⟩,mi 5 0] [4,5]<|.ret
theorem Cd.s_ControlOf_k:CK 10 Tryz.f10 Cd.qP 28 [.cell 4 35,.tmp 5]:=ck Tryz.func10
def Cd.mV:aD:=s [bx 2 0,bx 3 1,o 4 (.alloc [.v (.int .i64 (0)),.v (.int .i64 (0)),.v (.int .i64 (0))]),mi 5 0] [2,3,4]<|s [lt 6 3 2,lt 7 3 3,c 8 F.gK [6,7,(k 1)],ex 9 8 0,ex 10 8 1,⟨none,.store 3 4 9,none⟩,m 5 10] [4,5]<|.ret
theorem Cd.i_AddControls_k:CK 12 Tryz.f12 Cd.mV 11 [.cell 4 35,.tmp 5]:=ck Tryz.func12
def Cd.j5:aD:=s [bx 2 0,bx 3 1,o 4 (.alloc [.v (.int .i64 (0)),.v (.int .i64 (0)),.v (.int .i64 (0))]),mi 5 0] [2,3,4]<|s [lt 8 3 2,lt 9 3 3,c 10 F.vC [8,9],m 6 10] [2,3,4,6]<|.seq (s [m 11 6,ne 12 11 0] [2,3,4,6,12]<|.cond 12 (s [o 13 (.build [.v (.int .i64 (0)),.v (.int .i64 (0)),.v (.int .i64 (0))]
 []),m 14 6,⟨none,.store 3 4 13,none⟩,m 5 14] [4,5]<|.ret) .skip)<|s [fa 15 0 2,lf 16 1 15,fa 17 0 3,lf 18 1 17,o 19 (.bin .add 16 18),fa 20 1 2,lf 21 1 20,fa 22 1 3,lf 23 1 22,o 24 (.bin .add 21 23),fa 25 2 2,lf 26 1 25,fa 27 2 3,lf 28 1 27,o 29 (.bin .add 26 28),o 30 (.build [.v (.int .i64 (0)),.v
 (.int .i64 (0)),.v (.int .i64 (0))] [(0,1,19),(1,1,24),(2,1,29)]),o 7 (.alloc [.v (.int .i64 (0)),.v (.int .i64 (0)),.v (.int .i64 (0))]),⟨none,.store 3 7 30,none⟩] [4,7]<|.seq (s [lt 31 3 7,c 32 F.qF [31],nt 33 32] [4,7,33]<|.cond 33 (s [o 34 (.build [.v (.int .i64 (0)),.v (.int .i64 (0)),.v
 (.int .i64 (0))] []),⟨none,.store 3 4 34,none⟩,mi 5 5] [4,5]<|.ret) .skip)<|s [lt 35 3 7,⟨none,.store 3 4 35,none⟩,mi 5 0] [4,5]<|.ret
theorem Cd.s_AddControls_k:CK 13 Tryz.f13 Cd.j5 36 [.cell 4 35,.tmp 5]:=ck Tryz.func13
def Cd.gU:aD:=s [bx 2 0,bx 3 1,o 4 (.alloc [.v (.int .i64 (0)),.v (.int .i64 (0)),.v (.int .i64 (0))]),mi 5 0] [2,3,4]<|s [lt 6 3 2,lt 7 3 3,c 8 F.gK [6,7,(k (-1))],ex 9 8 0,ex 10 8 1,⟨none,.store 3 4 9,none⟩,m 5 10] [4,5]<|.ret
theorem Cd.i_TakeControls_k:CK 14 Tryz.f14 Cd.gU 11 [.cell 4 35,.tmp 5]:=ck Tryz.func14
def Cd.lG:aD:=s [bx 2 0,bx 3 1,o 4 (.alloc [.v (.int .i64 (0)),.v (.int .i64 (0)),.v (.int .i64 (0))]),mi 5 0] [2,3,4]<|s [lt 8 3 2,lt 9 3 3,c 10 F.vC [8,9],m 6 10] [2,3,4,6]<|.seq (s [m 11 6,ne 12 11 0] [2,3,4,6,12]<|.cond 12 (s [o 13 (.build [.v (.int .i64 (0)),.v (.int .i64 (0)),.v (.int .i64 (0))]
 []),m 14 6,⟨none,.store 3 4 13,none⟩,m 5 14] [4,5]<|.ret) .skip)<|s [fa 15 0 2,lf 16 1 15,fa 17 0 3,lf 18 1 17,o 19 (.bin .sub 16 18),fa 20 1 2,lf 21 1 20,fa 22 1 3,lf 23 1 22,o 24 (.bin .sub 21 23),fa 25 2 2,lf 26 1 25,fa 27 2 3,lf 28 1 27,o 29 (.bin .sub 26 28),o 30 (.build [.v (.int .i64 (0)),.v
 (.int .i64 (0)),.v (.int .i64 (0))] [(0,1,19),(1,1,24),(2,1,29)]),o 7 (.alloc [.v (.int .i64 (0)),.v (.int .i64 (0)),.v (.int .i64 (0))]),⟨none,.store 3 7 30,none⟩] [4,7]<|.seq (s [lt 31 3 7,c 32 F.qF [31],nt 33 32] [4,7,33]<|.cond 33 (s [o 34 (.build [.v (.int .i64 (0)),.v (.int .i64 (0)),.v
 (.int .i64 (0))] []),⟨none,.store 3 4 34,none⟩,mi 5 5] [4,5]<|.ret) .skip)<|s [lt 35 3 7,⟨none,.store 3 4 35,none⟩,mi 5 0] [4,5]<|.ret
theorem Cd.s_TakeControls_k:CK 15 Tryz.f15 Cd.lG 36 [.cell 4 35,.tmp 5]:=ck Tryz.func15
def Cd.iI:aD:=s [o 2 (.alloc [.v (.int .i64 (0)),.v (.int .i64 (0)),.v (.int .i64 (0))])] [0,2]<|s [m 3 0,c 4 F.gJ [3],o 5 (.call (.func F.gZ) [4] [0]),⟨none,.store 3 2 5,none⟩] [2]<|.ret
theorem Cd.s_DrawControlText_k:CK 16 Tryz.f16 Cd.iI 6 [.cell 2 35]:=ck Tryz.func16
def Cd.kK:aD:=s [bx 1 0,o 2 (.mv (.const (.string ⟨#[]⟩)))] [1]<|.seq (s [lt 3 3 1,c 4 F.cZ [3],nt 5 4] [1,5]<|.cond 5 (s [o 2 (.mv (.const (.string ⟨#[]⟩)))] [2]<|.ret) .skip)<|r [fa 6 0 1,lf 7 1 6,c 8 F.l5 [7],o 9 (.binS .add 8 (.const (.string ⟨#[32,99,97,114,100,115,32]⟩))),fa 10 1
 1,lf 11 1 10,c 12 F.l5 [11],o 13 (.binS .add 9 12),o 14 (.binS .add 13 (.const (.string ⟨#[32,115,117,109,32]⟩))),fa 15 2 1,lf 16 1 15,c 17 F.l5 [16],o 18 (.binS .add 14 17),o 19 (.binS .add 18 (.const (.string ⟨#[32,100,105,103,105,116,115]⟩))),m 2 19] [2]
 [6,8,9,7,10,11,12,13,14,15,16,17,18,19]<|.ret
theorem Cd.i_ControlText_k:CK 17 Tryz.f17 Cd.kK 20 [.tmp 2]:=ck Tryz.func17
def Cd.kJ:aD:=s [o 2 (.alloc [.v (.int .i64 (0)),.v (.int .i64 (0)),.v (.int .i64 (0))]),mf 3] [0,2]<|s [m 12 0,c 13 F.strings_Split [12,(.const (.string ⟨#[32]⟩))],m 4 13] [0,2,4]<|.seq (s [m 14 4,ln 15 14,ne 16 15 6] [0,2,4,16]<|.cond 16 (s [o 17 (.build [.v (.int .i64 (0)),.v (.int .i64 (0)),.v (.int .i64 (0))]
 []),⟨none,.store 3 2 17,none⟩,mf 3] [2,3]<|.ret) .skip)<|s [m 19 4,o 20 (.idxSl 1 19 (k 0)),lf 21 1 20,c 22 F.qH [21],m 18 22,ex 23 18 0,ex 24 18 1,m 5 23,m 6 24] [0,2,4,5,6]<|s [m 26 4,o 27 (.idxSl 1 26 (k 2)),lf 28 1 27,c 29 F.qH [28],m 25 29,ex 30 25 0,ex 31 25 1,m 7
 30,m 8 31] [0,2,4,5,6,7,8]<|s [m 33 4,o 34 (.idxSl 1 33 (k 4)),lf 35 1 34,c 36 F.qH [35],m 32 36,ex 37 32 0,ex 38 32 1,m 9 37,m 10 38] [0,2,5,6,7,8,9,10]<|s [m 39 5,m 40 7,m 41 9,o 42 (.build [.v (.int .i64 (0)),.v (.int .i64 (0)),.v (.int .i64 (0))] [(0,1,39),(1,1,40),(2,1,41)]),o 11
 (.alloc [.v (.int .i64 (0)),.v (.int .i64 (0)),.v (.int .i64 (0))]),⟨none,.store 3 11 42,none⟩] [0,2,6,8,10,11]<|.seq (s [m 43 6,nt 44 43,m 45 44,mg 46 8 45 false,⟨some 47,.un .not 46,some (45,false)⟩,pt 48 45 47,m 49 48,mg 50 10 49 false,⟨some 51,.un .not 50,some (49,false)⟩,pt 52 49 51,m 53
 52,⟨some 54,.load true 3 11,some (53,false)⟩,⟨some 55,.call (.func F.cZ) [54] [],some (53,false)⟩,⟨some 56,.un .not 55,some (53,false)⟩,pt 57 53 56,m 58 57,⟨some 59,.load true 3 11,some (58,false)⟩,⟨some 60,.call (.func F.kK) [59] [],some (58,false)⟩,mg 61 0 58
 false,⟨some 62,.binS .neq 60 61,some (58,false)⟩,pt 63 58 62] [2,11,63]<|.cond 63 (s [o 64 (.build [.v (.int .i64 (0)),.v (.int .i64 (0)),.v (.int .i64 (0))] []),⟨none,.store 3 2 64,none⟩,mf 3] [2,3]<|.ret) .skip)<|s [lt 65 3 11,⟨none,.store 3 2 65,none⟩,mt 3] [2,3]<|.ret
theorem Cd.i_ReadControl_k:CK 18 Tryz.f18 Cd.kJ 66 [.cell 2 35,.tmp 3]:=ck Tryz.func18
def Cd.iH:aD:=s [o 2 (.mv (.const (.string ⟨#[]⟩)))] [0]<|s [m 5 0,c 6 F.gJ [5],m 3 6] [3]<|s [m 7 3,o 8 (.call (.func F.gZ) [7] [0]),c 9 F.pK [8],m 4 9] [3,4]<|.seq (s [m 10 3,o 11 (.call (.func F.bA) [10,(k 3)] [0])] [3,4,11]<|.cond 11 (s [m 12 3,m 13 4,o 14 (.call
 (.func F.aDb) [12,13] [0]),m 2 14] [2]<|.ret) .skip)<|s [m 15 4,m 2 15] [2]<|.ret
theorem Cd.s_DrawReadControl_k:CK 19 Tryz.f19 Cd.iH 16 [.tmp 2]:=ck Tryz.func19
def Cd.mI:aD:=s [o 2 (.alloc [.v (.int .i64 (0)),.v (.int .i64 (0)),.v (.int .i64 (0))]),mf 3] [0,2]<|s [m 12 0,c 13 F.sV [12,(.const (.int .u8 (32)))],m 4 13] [2,4]<|.seq (s [m 14 4,ln 15 14,ne 16 15 6,m 17 16,mg 18 4 17 false,⟨some 19,.idxSl 1 18 (k 1),some (17,false)⟩,lg 20 1 19 17 false,⟨some
 21,.binS .neq 20 (.const (.string ⟨#[99,97,114,100,115]⟩)),some (17,false)⟩,pt 22 17 21,m 23 22,mg 24 4 23 false,⟨some 25,.idxSl 1 24 (k 3),some (23,false)⟩,lg 26 1 25 23 false,⟨some 27,.binS .neq 26 (.const (.string ⟨#[115,117,109]⟩)),some (23,false)⟩,pt 28 23 27,m 29 28,mg 30 4 29 false,⟨some
 31,.idxSl 1 30 (k 5),some (29,false)⟩,lg 32 1 31 29 false,⟨some 33,.binS .neq 32 (.const (.string ⟨#[100,105,103,105,116,115]⟩)),some (29,false)⟩,pt 34 29 33] [2,4,34]<|.cond 34 (s [o 35 (.build [.v (.int .i64 (0)),.v (.int .i64 (0)),.v (.int .i64 (0))] []),⟨none,.store 3 2 35,none⟩,mf 3]
 [2,3]<|.ret) .skip)<|s [m 37 4,o 38 (.idxSl 1 37 (k 0)),lf 39 1 38,c 40 F.bI [39],m 36 40,ex 41 36 0,ex 42 36 1,m 5 41,m 6 42] [2,4,5,6]<|s [m 44 4,o 45 (.idxSl 1 44 (k 2)),lf 46 1 45,c 47 F.bI [46],m 43 47,ex 48 43 0,ex 49 43 1,m 7 48,m 8 49] [2,4,5,6,7,8]<|s [m 51 4,o 52
 (.idxSl 1 51 (k 4)),lf 53 1 52,c 54 F.bI [53],m 50 54,ex 55 50 0,ex 56 50 1,m 9 55,m 10 56] [2,5,6,7,8,9,10]<|s [m 57 5,m 58 7,m 59 9,o 60 (.build [.v (.int .i64 (0)),.v (.int .i64 (0)),.v (.int .i64 (0))] [(0,1,57),(1,1,58),(2,1,59)]),o 11 (.alloc [.v (.int .i64 (0)),.v (.int .i64
 (0)),.v (.int .i64 (0))]),⟨none,.store 3 11 60,none⟩] [2,6,8,10,11]<|.seq (s [m 61 6,nt 62 61,m 63 62,mg 64 8 63 false,⟨some 65,.un .not 64,some (63,false)⟩,pt 66 63 65,m 67 66,mg 68 10 67 false,⟨some 69,.un .not 68,some (67,false)⟩,pt 70 67 69,m 71 70,⟨some 72,.load true 3 11,some (71,false)⟩,⟨some
 73,.call (.func F.qF) [72] [],some (71,false)⟩,⟨some 74,.un .not 73,some (71,false)⟩,pt 75 71 74] [2,11,75]<|.cond 75 (s [o 76 (.build [.v (.int .i64 (0)),.v (.int .i64 (0)),.v (.int .i64 (0))] []),⟨none,.store 3 2 76,none⟩,mf 3] [2,3]<|.ret) .skip)<|s [lt 77 3 11,⟨none,.store 3 2 77,none⟩,mt
 3] [2,3]<|.ret
theorem Cd.s_ReadControl_k:CK 20 Tryz.f20 Cd.mI 78 [.cell 2 35,.tmp 3]:=ck Tryz.func20
def Cd.gP:aD:=s [mi 2 0] [0]<|s [m 4 0,c 5 F.gJ [4],m 3 5] [3]<|s [m 6 3,o 7 (.call (.func F.aF) [6,(k 10)] [0]),o 8 (.bin .sub 7 (k 1)),m 2 8] [2]<|.ret
theorem Cd.s_DrawKeepsControl_k:CK 21 Tryz.f21 Cd.gP 9 [.tmp 2]:=ck Tryz.func21
def Cd.mJ:aD:=s [bx 1 0,o 2 (.mv (.const (.string ⟨#[]⟩)))] [1]<|.seq (s [lt 3 3 1,c 4 F.qF [3],nt 5 4] [1,5]<|.cond 5 (s [o 2 (.mv (.const (.string ⟨#[]⟩)))] [2]<|.ret) .skip)<|s [lt 6 3 1,c 7 F.pK [6],m 2 7] [2]<|.ret
theorem Cd.s_ControlText_k:CK 22 Tryz.f22 Cd.mJ 8 [.tmp 2]:=ck Tryz.func22
def Cd.jA:aD:=s [mf 2] [0]<|s [m 3 0,en 4 3 1,m 5 4,mg 6 0 5 false,⟨some 7,.bin .eql 6 (k 2),some (5,false)⟩,pt 8 5 7,m 2 8] [2]<|.ret
theorem Cd.i_KeepsControl_k:CK 23 Tryz.f23 Cd.jA 9 [.tmp 2]:=ck Tryz.func23
def Cd.iX:aD:=s [mf 2] [0]<|s [m 3 0,en 4 3 1,m 5 4,mg 6 0 5 false,⟨some 7,.bin .eql 6 (k 2),some (5,false)⟩,pt 8 5 7,m 2 8] [2]<|.ret
theorem Cd.s_KeepsControl_k:CK 24 Tryz.f24 Cd.iX 9 [.tmp 2]:=ck Tryz.func24
def Cd.zH:aD:=s [bx 2 0,bx 3 1,o 4 (.alloc [.v (.slice none 0 0),.v (.slice none 0 0)]),mi 5 0] [2,3,4]<|.seq (s [lt 6 2 2,c 7 F.kI [6],nt 8 7] [2,3,4,8]<|.cond 8 (s [o 9 (.build [.v (.slice none 0 0),.v (.slice none 0 0)] []),⟨none,.store 2 4 9,none⟩,mi 5 1] [4,5]<|.ret) .skip)<|s [lt 10 2 2,lt 11 9
 3,c 12 F.zF [10,11],ex 13 12 0,ex 14 12 1,⟨none,.store 2 4 13,none⟩,m 5 14] [4,5]<|.ret
theorem Cd.i_DoStep_k:CK 25 Tryz.f25 Cd.zH 15 [.cell 4 27,.tmp 5]:=ck Tryz.func25
def Cd.mG:aD:=s [bx 1 0,mf 2] [1]<|s [c 3 F.zZ [1],m 2 3] [2]<|.ret
theorem Cd.s_ValidOffice_k:CK 26 Tryz.f26 Cd.mG 4 [.tmp 2]:=ck Tryz.func26
def Cd.gJ:aD:=s [o 2 (.mv (.const (.pointer none)))] [0]<|s [m 3 0,o 4 (.build [.v (.slice none 0 0),.v (.int .i64 (0)),.v (.int .u64 (0))] [(0,1,3)]),bx 5 4,m 2 5] [2]<|.ret
theorem Cd.s_l00From_k:CK 27 Tryz.f27 Cd.gJ 6 [.tmp 2]:=ck Tryz.func27
def Cd.fV:aD:=s [o 2 (.alloc [.v (.int .i64 (0)),.v (.int .i64 (0)),.v (.int .i64 (0)),.v (.int .i64 (0)),.v (.int .i64 (0)),.v (.int .i64 (0)),.v (.int .i64 (0)),.v (.int .i64 (0)),.v (.string ⟨#[]⟩)])] [0,2]<|s [m 4 0,o 5 (.call (.func F.aF) [4,(k 7)] [0]),o 6 (.bin .add (k 1) 5),o 7 (.build [.v
 (.int .i64 (0)),.v (.int .i64 (0))] [(1,1,(k 1))]),o 8 (.build [.v (.int .i64 (0)),.v (.int .i64 (0)),.v (.int .i64 (0)),.v (.int .i64 (0)),.v (.int .i64 (0)),.v (.int .i64 (0)),.v (.int .i64 (0)),.v (.int .i64 (0)),.v (.string ⟨#[]⟩)] [(0,1,6),(4,2,7)]),o 3 (.alloc [.v (.int .i64 (0)),.v (.int .i64
 (0)),.v (.int .i64 (0)),.v (.int .i64 (0)),.v (.int .i64 (0)),.v (.int .i64 (0)),.v (.int .i64 (0)),.v (.int .i64 (0)),.v (.string ⟨#[]⟩)]),⟨none,.store 9 3 8,none⟩] [0,2,3]<|s [m 9 0,o 10 (.call (.func F.aF) [9,(k 3)] [0]),fa 11 1 3,⟨none,.store 1 11 10,none⟩] [0,2,3]<|.seq (s [m 12
 0,o 13 (.call (.func F.bA) [12,(k 4)] [0])] [0,2,3,13]<|.cond 13 (.region [o 14 (.build [.v (.int .i64 (0)),.v (.int .i64 (0))] [(0,1,(k 1)),(1,1,(k 3))]),fa 15 4 3,⟨none,.store 2 15 14,none⟩] [0,2,3] []) .skip)<|.seq (s [fa 16 0 3,lf 17 1 16] [0,2,3,17]<|.block 0 (s [en 19 17 7,m 18
 19] [0,2,3,17,18]<|.cond 18 (s [m 20 0,o 21 (.call (.func F.aF) [20,(k 2)] [0]),o 22 (.bin .mul (k 2) 21),o 23 (.bin .add (k 1) 22),o 24 (.build [.v (.int .i64 (0)),.v (.int .i64 (0))] [(0,1,23)]),fa 25 6 3,⟨none,.store 2 25 24,none⟩] [2,3]<|s [fa 26 6 3,fa 27 0 26,lf 28 1 27,ad 29
 28 2,fa 30 6 3,fa 31 1 30,⟨none,.store 1 31 29,none⟩] [2,3]<|s [lt 32 9 3,⟨none,.store 9 2 32,none⟩] [2]<|.ret) (s [en 34 17 5,m 33 34] [0,2,3,17,33]<|.cond 33 (s [m 35 0,fa 36 4 3,fa 37 1 36,lf 38 1 37,fa 39 4 3,fa 40 0 39,lf 41 1 40,o 42 (.bin .sub 38 41),o 43 (.call (.func F.jY)
 [35,42] [0]),fa 44 8 3,⟨none,.store 1 44 43,none⟩] [0,2,3]<|s [fa 45 4 3,fa 46 1 45,lf 47 1 46,en 48 47 1] [0,2,3,48]<|.cond 48 (.region [m 49 0,o 50 (.bslice 1 3 [.v (.string ⟨#[]⟩)] [(0,(.const (.string ⟨#[65]⟩))),(1,(.const (.string ⟨#[66]⟩))),(2,(.const (.string ⟨#[49]⟩)))]),o 51 (.call (.func
 F.dU) [49,50] [0]),fa 52 8 3,⟨none,.store 1 52 51,none⟩] [0,2,3] []) .skip) (.seq (s [en 54 17 2,m 53 54] [0,2,3,17,53]<|.cond 53 .skip (s [en 55 17 3,m 53 55] [0,2,3,17,53]<|.cond 53 .skip (.region [en 56 17 4,m 53 56] [0,2,3,53] [])))<|.cond 53 (.region [m 57 0,o 58 (.call (.func
 F.aF) [57,(k 3)] [0]),fa 59 2 3,⟨none,.store 1 59 58,none⟩] [0,2,3] []) .skip))))<|s [m 60 0,o 61 (.call (.func F.aF) [60,(k 3)] [0]),fa 62 3 3,⟨none,.store 1 62 61,none⟩] [2,3]<|s [lt 63 9 3,⟨none,.store 9 2 63,none⟩] [2]<|.ret
theorem Cd.s_l15DrawStep_k:CK 29 Tryz.f29 Cd.fV 64 [.cell 2 31]:=ck Tryz.func29
def Cd.bA:aD:=s [mf 4] [0,1]<|s [m 5 0,m 6 1,o 7 (.call (.func F.aF) [5,6] [0]),en 8 7 0,m 4 8] [4]<|.ret
theorem Cd._s_l00Src__one_k:CK 30 Tryz.f30 Cd.bA 9 [.tmp 4]:=ck Tryz.func30
def Cd.aF:aD:=s [mi 4 0] [0,1]<|.seq (s [m 6 1,o 7 (.bin .leq 6 (k 1))] [0,1,7]<|.cond 7 (s [mi 4 0] [4]<|.ret) .skip)<|s [m 8 0,o 9 (.call (.func F.fG) [8] [0]),m 5 9] [0,1,5]<|.seq (s [m 10 1,o 11 (.bin .gtr 10 (k 200))] [0,1,5,11]<|.cond 11 (.region [m 12 5,o 13 (.bin .mul 12 (k 256)),m 14 0,o
 15 (.call (.func F.fG) [14] [0]),o 16 (.bin .add 13 15),m 5 16] [1,5] []) .skip)<|s [m 17 5,m 18 1,o 19 (.bin .rem 17 18),m 4 19] [4]<|.ret
theorem Cd._s_l00Src__pick_k:CK 31 Tryz.f31 Cd.aF 20 [.tmp 4]:=ck Tryz.func31
def Cd.oU:aD:=s [bx 3 0,bx 5 2,mi 6 0] [1,3,5]<|.seq (.block 0 (s [lt 8 2 3,c 9 F.kI [8],nt 10 9,m 7 10] [1,3,5,7]<|.cond 7 (s [mi 6 1] [6]<|.ret) (r [lt 12 2 5,lt 13 2 3,c 14 F.dQ [13],c 15 F.fE [12,14],nt 16 15,m 17 16,mg 18 1 17 false,⟨some 19,.len 18,some
 (17,false)⟩,⟨some 20,.bin .gtr 19 (k 20),some (17,false)⟩,pt 21 17 20,m 11 21] [11] [12,13,14,15,16,17,18,19,20,21,11]<|.cond 11 (s [mi 6 2] [6]<|.ret) .skip)))<|s [mi 6 0] [6]<|.ret
theorem Cd.i_officeCode_k:CK 34 Tryz.f34 Cd.oU 22 [.tmp 6]:=ck Tryz.func34
def Cd.nV:aD:=s [bx 2 0,mf 4] [1,2]<|.seq (.block 0 (s [m 6 1,c 7 F.iN [6,(k 1),(k 20)],nt 8 7,m 9 8,fg 10 0 2 9 false,lg 11 1 10 9 false,⟨some 12,.call (.func F.iN) [11,(k 1),(k 7)] [],some (9,false)⟩,⟨some 13,.un .not 12,some (9,false)⟩,pt 14 9 13,m 15 14,fg 16 1 2 15 false,lg 17 1 16 15
 false,⟨some 18,.call (.func F.tV) [17] [],some (15,false)⟩,⟨some 19,.un .not 18,some (15,false)⟩,pt 20 15 19,m 21 20,fg 22 2 2 21 false,lg 23 1 22 21 false,⟨some 24,.call (.func F.tV) [23] [],some (21,false)⟩,⟨some 25,.un .not 24,some (21,false)⟩,pt 26 21 25,m 27 26,fg 28 3 2 27
 false,lg 29 1 28 27 false,⟨some 30,.call (.func F.tV) [29] [],some (27,false)⟩,⟨some 31,.un .not 30,some (27,false)⟩,pt 32 27 31,m 5 32] [1,2,5]<|.cond 5 (s [mf 4] [4]<|.ret) (s [fa 34 2 2,lf 35 1 34,ne 36 35 0,m 37 36,fg 38 0 2 37 true,lg 39 1 38 37 true,⟨some 40,.call (.func
 F.tQ) [39] [],some (37,true)⟩,⟨some 41,.un .not 40,some (37,true)⟩,pf 42 37 41,m 43 42,fg 44 3 2 43 false,lg 45 1 44 43 false,⟨some 46,.bin .neq 45 (k 0),some (43,false)⟩,mg 47 46 43 false,fg 48 0 2 47 true,lg 49 1 48 47 true,⟨some 50,.bin .eql 49 (k 7),some (47,true)⟩,⟨some 51,.pick 47 50
 (.const (.bool false)),some (43,false)⟩,pt 52 43 51,m 53 52,fg 54 4 2 53 false,⟨some 55,.load true 2 54,some (53,false)⟩,mg 56 1 53 false,⟨some 57,.call (.func F.nU) [55,56] [],some (53,false)⟩,⟨some 58,.un .not 57,some (53,false)⟩,pt 59 53 58,m 33 59] [1,2,33]<|.cond 33 (s [mf 4]
 [4]<|.ret) (s [fa 61 0 2,lf 62 1 61,en 63 62 7,m 64 63,fg 65 6 2 64 true,⟨some 66,.load true 2 65,some (64,true)⟩,mg 67 1 64 true,⟨some 68,.call (.func F.fE) [66,67] [],some (64,true)⟩,⟨some 69,.un .not 68,some (64,true)⟩,pf 70 64 69,m 71 70,fg 72 0 2 71 false,lg 73 1 72 71
 false,⟨some 74,.bin .neq 73 (k 7),some (71,false)⟩,mg 75 74 71 false,fg 76 6 2 75 true,⟨some 77,.load true 2 76,some (75,true)⟩,⟨some 78,.build [.v (.int .i64 (0)),.v (.int .i64 (0))] [],some (75,true)⟩,⟨some 79,.eqA true [0,0] 77 78,some (75,true)⟩,⟨some 80,.pick 75 79 (.const (.bool false)),some
 (71,false)⟩,pt 81 71 80,m 60 81] [2,60]<|.cond 60 (s [mf 4] [4]<|.ret) (s [fa 83 0 2,lf 84 1 83,en 85 84 5,m 82 85] [2,82]<|.cond 82 (s [fa 86 8 2,lf 87 1 86,c 88 F.iE [87],m 89 88,fg 90 8 2 89 true,lg 91 1 90 89 true,⟨some 92,.lenS 91,some (89,true)⟩,fg 93 4 2 89 true,fg 94 1 93 89
 true,lg 95 1 94 89 true,fg 96 4 2 89 true,fg 97 0 96 89 true,lg 98 1 97 89 true,⟨some 99,.bin .sub 95 98,some (89,true)⟩,⟨some 100,.bin .eql 92 99,some (89,true)⟩,pf 101 89 100,m 4 101] [4]<|.ret) .skip)))))<|s [fa 102 8 2,lf 103 1 102,o 104 (.binS .eql 103 (.const (.string ⟨#[]⟩))),m 4 104]
 [4]<|.ret
theorem Cd.i_ValidStep_k:CK 35 Tryz.f35 Cd.nV 105 [.tmp 4]:=ck Tryz.func35
def Cd.dQ:aD:=s [bx 1 0,mi 2 0] [1]<|.seq (s [fa 5 0 1,lf 6 1 5,ln 7 6,mi 8 0] [6,7,8]<|.block 0 (.loop (s [ls 9 8 7] [6,7,8,9]<|.seq (.cond 9 .skip (.exit 0))<|.seq (.block 1 (s [ix 10 1 6 8,lf 11 1 10,m 4 11] [4,6,7,8]<|s [m 12 4,ln 13 12,o 14 (.bin .gtr 13 (k 0))] [4,6,7,8,14]<|.cond 14 (s [m 15 4,o 16 (.idxSl
 1 15 (k 0)),lt 17 1 16,c 18 F.bW [17],m 2 18] [2]<|.ret) .skip))<|.region [ad 19 8 1,m 8 19] [6,7,8] [])))<|s [mi 2 20] [2]<|.ret
theorem Cd.i_officeColumns_k:CK 36 Tryz.f36 Cd.dQ 20 [.tmp 2]:=ck Tryz.func36
def Cd.lN:aD:=s [bx 3 1,o 4 (.alloc [.v (.int .i64 (0)),.v (.int .i64 (0)),.v (.int .i64 (0))]),mf 5] [0,3,4]<|s [m 11 0,c 12 F.iY [11],o 13 (.build [.v (.int .i64 (0)),.v (.int .i64 (0)),.v (.int .i64 (0))] [(0,1,12)]),o 6 (.alloc [.v (.int .i64 (0)),.v (.int .i64 (0)),.v (.int .i64
 (0))]),⟨none,.store 3 6 13,none⟩] [0,3,4,6]<|.seq (s [m 14 0,ln 15 14,mi 16 0] [3,4,6,14,15,16]<|.block 0 (.loop (s [ls 17 16 15] [3,4,6,14,15,16,17]<|.seq (.cond 17 .skip (.exit 0))<|.seq (.block 1 (s [ix 18 1 14 16,lt 19 1 18,o 8 (.alloc [.v (.slice none 0 0)]),⟨none,.store 1 8 19,none⟩]
 [3,4,6,8,14,15,16]<|s [lt 21 1 8,lt 22 2 3,c 23 F.nH [21,22],m 20 23,ex 24 20 0,ex 25 20 1,m 9 24,m 10 25] [3,4,6,9,10,14,15,16]<|.seq (s [m 26 10,nt 27 26] [3,4,6,9,14,15,16,27]<|.cond 27 (s [o 28 (.build [.v (.int .i64 (0)),.v (.int .i64 (0)),.v (.int .i64 (0))] []),⟨none,.store 3 4
 28,none⟩,mf 5] [4,5]<|.ret) .skip)<|s [fa 29 1 6,lf 30 1 29,m 31 9,o 32 (.bin .add 30 31),fa 33 1 6,⟨none,.store 1 33 32,none⟩] [3,4,6,9,14,15,16]<|.region [fa 34 2 6,lf 35 1 34,m 36 9,c 37 F.uA [36],o 38 (.bin .add 35 37),fa 39 2 6,⟨none,.store 1 39 38,none⟩] [3,4,6,14,15,16]
 [34,36,35,37,38]))<|.region [ad 40 16 1,m 16 40] [3,4,6,14,15,16] [])))<|s [lt 41 3 6,⟨none,.store 3 4 41,none⟩,mt 5] [4,5]<|.ret
theorem Cd.i_controlOf_k:CK 37 Tryz.f37 Cd.lN 42 [.cell 4 35,.tmp 5]:=ck Tryz.func37
def Cd.gN:aD:=s [bx 3 0,bx 4 1,o 6 (.alloc [.v (.int .i64 (0)),.v (.int .i64 (0)),.v (.int .i64 (0))])] [2,3,4,6]<|s [fa 7 0 3,lf 8 1 7,m 9 2,fa 10 0 4,lf 11 1 10,o 12 (.bin .mul 9 11),o 13 (.bin .add 8 12),fa 14 1 3,lf 15 1 14,m 16 2,fa 17 1 4,lf 18 1 17,o 19 (.bin .mul 16 18),o 20 (.bin .add 15 19),fa 21 2 3,lf
 22 1 21,m 23 2,fa 24 2 4,lf 25 1 24,o 26 (.bin .mul 23 25),o 27 (.bin .add 22 26),o 28 (.build [.v (.int .i64 (0)),.v (.int .i64 (0)),.v (.int .i64 (0))] [(0,1,13),(1,1,20),(2,1,27)]),⟨none,.store 3 6 28,none⟩] [6]<|.ret
theorem Cd._i_Control__plus_k:CK 38 Tryz.f38 Cd.gN 29 [.cell 6 35]:=ck Tryz.func38
def Cd.vD:aD:=s [bx 3 1,mi 4 0] [0,3]<|.seq (s [m 5 0,c 6 F.zZ [5],nt 7 6] [0,3,7]<|.cond 7 (s [mi 4 1] [4]<|.ret) .skip)<|.seq (r [lt 8 2 3,m 9 0,c 10 F.jI [9],c 11 F.pM [8,10],nt 12 11] [12] [8,9,10,11,12]<|.cond 12 (s [mi 4 2] [4]<|.ret) .skip)<|s [mi 4 0] [4]<|.ret
theorem Cd.s_l18Code_k:CK 39 Tryz.f39 Cd.vD 13 [.tmp 4]:=ck Tryz.func39
def Cd.sD:aD:=s [mf 4] [0,1]<|.seq (s [m 5 0,nc 6 5,fa 7 0 6,lf 8 1 7,c 9 F.kR [8,(k 1),(k 7)],nt 10 9,m 11 10,mg 12 0 11 false,⟨some 13,.nilc 12,some (11,false)⟩,fg 14 1 13 11 false,lg 15 1 14 11 false,⟨some 16,.call (.func F.pO) [15] [],some (11,false)⟩,⟨some 17,.un .not 16,some (11,false)⟩,pt
 18 11 17,m 19 18,mg 20 0 19 false,⟨some 21,.nilc 20,some (19,false)⟩,fg 22 2 21 19 false,lg 23 1 22 19 false,⟨some 24,.call (.func F.pO) [23] [],some (19,false)⟩,⟨some 25,.un .not 24,some (19,false)⟩,pt 26 19 25,m 27 26,mg 28 0 27 false,⟨some 29,.nilc 28,some (27,false)⟩,fg 30 3 29 27
 false,lg 31 1 30 27 false,⟨some 32,.call (.func F.pO) [31] [],some (27,false)⟩,⟨some 33,.un .not 32,some (27,false)⟩,pt 34 27 33,m 35 34,mg 36 0 35 false,⟨some 37,.nilc 36,some (35,false)⟩,fg 38 4 37 35 false,⟨some 39,.load true 2 38,some (35,false)⟩,mg 40 1 35 false,⟨some 41,.call (.func
 F.fD) [39,40] [],some (35,false)⟩,⟨some 42,.un .not 41,some (35,false)⟩,pt 43 35 42] [0,1,43]<|.cond 43 (s [mf 4] [4]<|.ret) .skip)<|.seq (s [m 44 0,nc 45 44,fa 46 2 45,lf 47 1 46,ne 48 47 0,m 49 48,mg 50 0 49 true,⟨some 51,.nilc 50,some (49,true)⟩,fg 52 0 51 49 true,lg 53 1 52 49
 true,⟨some 54,.call (.func F.vG) [53] [],some (49,true)⟩,⟨some 55,.un .not 54,some (49,true)⟩,pf 56 49 55] [0,1,56]<|.cond 56 (s [mf 4] [4]<|.ret) .skip)<|.seq (s [m 57 0,nc 58 57,fa 59 0 58,lf 60 1 59,en 61 60 7] [0,1,61]<|.cond 61 (r [m 62 0,nc 63 62,fa 64 3 63,lf 65 1 64,en 66 65 0,m 67
 66,mg 68 0 67 true,⟨some 69,.nilc 68,some (67,true)⟩,fg 70 6 69 67 true,⟨some 71,.load true 2 70,some (67,true)⟩,mg 72 1 67 true,⟨some 73,.call (.func F.fD) [71,72] [],some (67,true)⟩,pf 74 67 73,m 75 74,mg 76 0 75 true,⟨some 77,.nilc 76,some (75,true)⟩,fg 78 6 77 75 true,fg 79 1 78 75
 true,lg 80 1 79 75 true,mg 81 0 75 true,⟨some 82,.nilc 81,some (75,true)⟩,fg 83 6 82 75 true,fg 84 0 83 75 true,lg 85 1 84 75 true,⟨some 86,.bin .sub 80 85,some (75,true)⟩,⟨some 87,.bin .leq 86 (k 12),some (75,true)⟩,pf 88 75 87,m 89 88,mg 90 0 89 true,⟨some 91,.nilc 90,some (89,true)⟩,fg 92 8 91 89
 true,lg 93 1 92 89 true,⟨some 94,.binS .eql 93 (.const (.string ⟨#[]⟩)),some (89,true)⟩,pf 95 89 94,m 4 95] [4] [62,64,65,63,66,67,68,69,70,71,72,73,74,75,76,77,78,79,80,81,82,83,84,85,86,87,88,89,90,91,92,93,94,95]<|.ret) .skip)<|.seq (s [m 96 0,nc 97 96,fa 98 6 97,lt 99 2 98,o 100 (.build [.v (.int
 .i64 (0)),.v (.int .i64 (0))] []),o 101 (.eqA true [0,0] 99 100)] [0,101]<|.cond 101 (s [mf 4] [4]<|.ret) .skip)<|.seq (s [m 102 0,nc 103 102,fa 104 0 103,lf 105 1 104,en 106 105 5] [0,106]<|.cond 106 (r [m 107 0,nc 108 107,fa 109 8 108,lf 110 1 109,m 111 0,nc 112 111,fa 113 4 112,lt 114 2 113,c 115
 F.sF [110,114],en 116 115 0,m 4 116] [4] [107,109,110,108,111,112,113,114,115,116]<|.ret) .skip)<|s [m 117 0,nc 118 117,fa 119 8 118,lf 120 1 119,o 121 (.binS .eql 120 (.const (.string ⟨#[]⟩))),m 4 121] [4]<|.ret
theorem Cd.s_l15Step_k:CK 40 Tryz.f40 Cd.sD 122 [.tmp 4]:=ck Tryz.func40
def Cd.jI:aD:=s [mi 2 0] [0]<|.seq (s [mi 3 0] [0,3]<|.block 0 (.loop (.seq (s [m 4 3,m 5 0,nc 6 5,fa 7 0 6,lf 8 1 7,ln 9 8,ls 10 4 9] [0,3,10]<|.cond 10 .skip (.exit 0))<|.seq (.block 1 (s [m 13 0,nc 14 13,fa 15 0 14,lf 16 1 15,m 17 3,ix 18 1 16 17,lf 19 1 18,ln 20 19,o 21 (.bin .gtr 20 (k 0))] [0,3,21]<|.cond 21
 (s [m 22 0,nc 23 22,fa 24 0 23,lf 25 1 24,m 26 3,ix 27 1 25 26,lf 28 1 27,o 29 (.idxSl 1 28 (k 0)),fa 30 0 29,lf 31 1 30,ln 32 31,m 2 32] [2]<|.ret) .skip))<|.region [m 11 3,ad 12 11 1,m 3 12] [0,3] [])))<|s [mi 2 20] [2]<|.ret
theorem Cd.s_l15Width_k:CK 41 Tryz.f41 Cd.jI 33 [.tmp 2]:=ck Tryz.func41
def Cd.xA:aD:=s [bx 3 1,o 4 (.alloc [.v (.int .i64 (0)),.v (.int .i64 (0)),.v (.int .i64 (0))]),mf 5] [0,3,4]<|s [m 10 0,ln 11 10,o 12 (.build [.v (.int .i64 (0)),.v (.int .i64 (0)),.v (.int .i64 (0))] [(0,1,11)]),o 6 (.alloc [.v (.int .i64 (0)),.v (.int .i64 (0)),.v (.int .i64 (0))]),⟨none,.store 3 6 12,none⟩]
 [0,3,4,6]<|.seq (s [mi 7 0] [0,3,4,6,7]<|.block 0 (.loop (.seq (s [m 13 7,m 14 0,ln 15 14,ls 16 13 15] [0,3,4,6,7,16]<|.cond 16 .skip (.exit 0))<|.seq (.block 1 (r [m 20 0,m 21 7,ix 22 1 20 21,lt 23 2 3,c 24 F.nL [22,23],c 25 F.lF [24],m 19 25,ex 26 19 0,ex 27 19 1,m 8 26,m 9
 27] [0,3,4,6,7,8,9] [20,21,23,22,24,25,19,26,27,8]<|.seq (s [m 28 9,nt 29 28] [0,3,4,6,7,8,29]<|.cond 29 (s [o 30 (.build [.v (.int .i64 (0)),.v (.int .i64 (0)),.v (.int .i64 (0))] []),⟨none,.store 3 4 30,none⟩,mf 5] [4,5]<|.ret) .skip)<|s [fa 31 1 6,lf 32 1 31,m 33 8,o 34 (.bin .add 32 33),fa 35 1
 6,⟨none,.store 1 35 34,none⟩] [0,3,4,6,7,8]<|.region [fa 36 2 6,lf 37 1 36,m 38 8,c 39 F.qL [38],o 40 (.bin .add 37 39),fa 41 2 6,⟨none,.store 1 41 40,none⟩] [0,3,4,6,7] [36,38,37,39,40]))<|.region [m 17 7,ad 18 17 1,m 7 18] [0,3,4,6,7] [])))<|s [lt 42 3 6,⟨none,.store 3 4 42,none⟩,mt 5]
 [4,5]<|.ret
theorem Cd.s_l18Of_k:CK 42 Tryz.f42 Cd.xA 43 [.cell 4 35,.tmp 5]:=ck Tryz.func42
def Cd.pU:aD:=s [mn 4] [0,1]<|.seq (.naming 5 (.region [o 7 (.bslice 1 0 [.v (.slice none 0 0)] []),m 5 7] [0,1,5] []))<|.seq (s [m 8 0,m 9 1,ad 10 9 1,o 11 (.call (.func F.aF) [8,10] [0]),m 6 11] [0,5,6]<|.block 0 (.loop (.seq (s [m 12 6,o 13 (.bin .gtr 12 (k 0))] [0,5,6,13]<|.cond 13 .skip
 (.exit 0))<|.seq (.block 1 (.naming 5 (.region [m 16 5,m 17 0,o 18 (.call (.func F.lZ) [17] [0]),o 19 (.bslice 1 1 [.v (.slice none 0 0)] [(0,18)]),o 20 (.append 1 24 16 19),m 5 20] [0,5,6] [])))<|.region [m 14 6,o 15 (.bin .sub 14 (k 1)),m 6 15] [0,5,6] [])))<|s [m 21 5,m 4 21] [4]<|.ret
theorem Cd.s_l13Deck_k:CK 45 Tryz.f45 Cd.pU 22 [.tmp 4]:=ck Tryz.func45
def Cd.jF:aD:=s [mf 2] [0]<|.seq (s [m 5 0,ln 6 5,mi 7 0] [0,5,6,7]<|.block 0 (.loop (s [ls 8 7 6] [0,5,6,7,8]<|.seq (.cond 8 .skip (.exit 0))<|.seq (.block 1 (s [ix 9 1 5 7,lt 10 1 9,o 4 (.alloc [.v (.slice none 0 0)]),⟨none,.store 1 4 10,none⟩] [0,4,5,6,7]<|r [lt 11 1 4,c 12 F.rC [11],nt 13 12,m 14
 13,⟨some 15,.load true 1 4,some (14,false)⟩,⟨some 16,.call (.func F.bW) [15] [],some (14,false)⟩,mg 17 0 14 false,⟨some 18,.idxSl 1 17 (k 0),some (14,false)⟩,⟨some 19,.load true 1 18,some (14,false)⟩,⟨some 20,.call (.func F.bW) [19] [],some (14,false)⟩,⟨some 21,.bin
 .neq 16 20,some (14,false)⟩,pt 22 14 21] [0,5,6,7,22] [11,13,14,15,12,16,17,18,19,20,21,22]<|.cond 22 (s [mf 2] [2]<|.ret) .skip))<|.region [ad 23 7 1,m 7 23] [0,5,6,7] [])))<|s [m 24 0,ln 25 24,o 26 (.bin .leq 25 (k 40)),m 2 26] [2]<|.ret
theorem Cd.i_ValidDeck_k:CK 46 Tryz.f46 Cd.jF 27 [.tmp 2]:=ck Tryz.func46
def Cd.fE:aD:=s [bx 2 0,mf 4] [1,2]<|s [lt 5 2 2,m 6 1,c 7 F.nU [5,6],m 8 7,fg 9 1 2 8 true,lg 10 1 9 8 true,fg 11 0 2 8 true,lg 12 1 11 8 true,⟨some 13,.bin .sub 10 12,some (8,true)⟩,⟨some 14,.bin .leq 13 (k 12),some (8,true)⟩,pf 15 8 14,m 4 15] [4]<|.ret
theorem Cd.i_isNumberField_k:CK 47 Tryz.f47 Cd.fE 16 [.tmp 4]:=ck Tryz.func47
def Cd.eP:aD:=s [mi 2 0] [0]<|.seq (s [m 3 0,ln 4 3,en 5 4 0] [0,5]<|.cond 5 (s [mi 2 20] [2]<|.ret) .skip)<|s [m 6 0,o 7 (.idxSl 1 6 (k 0)),lt 8 1 7,c 9 F.bW [8],m 2 9] [2]<|.ret
theorem Cd.i_deckColumns_k:CK 48 Tryz.f48 Cd.eP 10 [.tmp 2]:=ck Tryz.func48
def Cd.jZ:aD:=s [mf 2] [0]<|.seq (s [mi 3 0] [0,3]<|.block 0 (.loop (.seq (s [m 4 3,m 5 0,ln 6 5,ls 7 4 6] [0,3,7]<|.cond 7 .skip (.exit 0))<|.seq (.block 1 (r [m 10 0,m 11 3,ix 12 1 10 11,c 13 F.aA0 [12],nt 14 13,m 15 14,mg 16 0 15 false,mg 17 3 15 false,⟨some 18,.idxSl 1 16 17,some (15,false)⟩,fg 19 0 18
 15 false,lg 20 1 19 15 false,⟨some 21,.len 20,some (15,false)⟩,mg 22 0 15 false,⟨some 23,.idxSl 1 22 (k 0),some (15,false)⟩,fg 24 0 23 15 false,lg 25 1 24 15 false,⟨some 26,.len 25,some (15,false)⟩,⟨some 27,.bin .neq 21 26,some (15,false)⟩,pt 28 15 27] [0,3,28]
 [10,11,13,14,12,15,16,17,18,19,20,21,22,23,24,25,26,27,28]<|.cond 28 (s [mf 2] [2]<|.ret) .skip))<|.region [m 8 3,ad 9 8 1,m 3 9] [0,3] [])))<|s [m 29 0,ln 30 29,o 31 (.bin .leq 30 (k 40)),m 2 31] [2]<|.ret
theorem Cd.s_l02Deck_k:CK 49 Tryz.f49 Cd.jZ 32 [.tmp 2]:=ck Tryz.func49
def Cd.pM:aD:=s [bx 2 0,mf 4] [1,2]<|s [lt 5 2 2,m 6 1,c 7 F.fD [5,6],m 8 7,fg 9 1 2 8 true,lg 10 1 9 8 true,fg 11 0 2 8 true,lg 12 1 11 8 true,⟨some 13,.bin .sub 10 12,some (8,true)⟩,⟨some 14,.bin .leq 13 (k 12),some (8,true)⟩,pf 15 8 14,m 4 15] [4]<|.ret
theorem Cd.s_l18Field_k:CK 50 Tryz.f50 Cd.pM 16 [.tmp 4]:=ck Tryz.func50
def Cd.jJ:aD:=s [mi 2 0] [0]<|.seq (s [m 3 0,ln 4 3,en 5 4 0] [0,5]<|.cond 5 (s [mi 2 20] [2]<|.ret) .skip)<|s [m 6 0,o 7 (.idxSl 1 6 (k 0)),fa 8 0 7,lf 9 1 8,ln 10 9,m 2 10] [2]<|.ret
theorem Cd.s_l07Width_k:CK 51 Tryz.f51 Cd.jJ 11 [.tmp 2]:=ck Tryz.func51
def Cd.gZ:aD:=s [o 2 (.alloc [.v (.int .i64 (0)),.v (.int .i64 (0)),.v (.int .i64 (0))])] [0,2]<|s [m 4 0,o 5 (.call (.func F.aF) [4,(k 100)] [0]),m 6 0,o 7 (.call (.func F.aF) [6,(k 10000)] [0]),o 8 (.bin .sub 7 (k 2000)),m 9 0,o 10 (.call (.func F.aF) [9,(k
 1000)] [0]),o 11 (.build [.v (.int .i64 (0)),.v (.int .i64 (0)),.v (.int .i64 (0))] [(0,1,5),(1,1,8),(2,1,10)]),o 3 (.alloc [.v (.int .i64 (0)),.v (.int .i64 (0)),.v (.int .i64 (0))]),⟨none,.store 3 3 11,none⟩] [0,2,3]<|.seq (s [m 12 0,o 13 (.call (.func F.aF) [12,(k 16)] [0])]
 [0,2,3,13]<|.block 0 (s [en 15 13 0,m 14 15] [0,2,3,13,14]<|.cond 14 (.region [m 16 0,o 17 (.bslice 1 4 [.v (.int .i64 (0))] [(0,(k (-1))),(1,(k 0)),(2,(k 1000000)),(3,(k 1000001))]),o 18 (.call (.func F.bE) [16,17] [0]),fa 19 0 3,⟨none,.store 1 19 18,none⟩] [2,3] []) (s [en 21 13
 1,m 20 21] [0,2,3,13,20]<|.cond 20 (.region [m 22 0,o 23 (.bslice 1 4 [.v (.int .i64 (0))] [(0,(k (-1000000000000001))),(1,(k (-1000000000000000))),(2,(k 1000000000000000)),(3,(k 1000000000000001))]),o 24 (.call (.func F.bE) [22,23] [0]),fa 25 1 3,⟨none,.store 1 25 24,none⟩] [2,3]
 []) (s [en 27 13 2,m 26 27] [0,2,3,26]<|.cond 26 (.region [m 28 0,o 29 (.bslice 1 5 [.v (.int .i64 (0))] [(0,(k (-1))),(1,(k 0)),(2,(k 1000000000)),(3,(k 1000000001)),(4,(k 9223372036854775807))]),o 30 (.call (.func F.bE) [28,29] [0]),fa 31 2 3,⟨none,.store 1 31 30,none⟩] [2,3] [])
 .skip))))<|s [lt 32 3 3,⟨none,.store 3 2 32,none⟩] [2]<|.ret
theorem Cd.s_l18Draw_k:CK 52 Tryz.f52 Cd.gZ 33 [.cell 2 35]:=ck Tryz.func52
def Cd.gK:aD:=s [bx 3 0,bx 4 1,o 6 (.alloc [.v (.int .i64 (0)),.v (.int .i64 (0)),.v (.int .i64 (0))]),mi 7 0] [2,3,4,6]<|.seq (s [lt 9 3 3,c 10 F.cZ [9],nt 11 10,m 12 11,⟨some 13,.load true 3 4,some (12,false)⟩,⟨some 14,.call (.func F.cZ) [13] [],some (12,false)⟩,⟨some 15,.un
 .not 14,some (12,false)⟩,pt 16 12 15] [2,3,4,6,16]<|.cond 16 (s [o 17 (.build [.v (.int .i64 (0)),.v (.int .i64 (0)),.v (.int .i64 (0))] []),⟨none,.store 3 6 17,none⟩,mi 7 1] [6,7]<|.ret) .skip)<|s [lt 18 3 3,lt 19 3 4,m 20 2,c 21 F.gN [18,19,20],o 8 (.alloc [.v (.int .i64 (0)),.v
 (.int .i64 (0)),.v (.int .i64 (0))]),⟨none,.store 3 8 21,none⟩] [6,8]<|.seq (s [lt 22 3 8,c 23 F.cZ [22],nt 24 23] [6,8,24]<|.cond 24 (s [o 25 (.build [.v (.int .i64 (0)),.v (.int .i64 (0)),.v (.int .i64 (0))] []),⟨none,.store 3 6 25,none⟩,mi 7 5] [6,7]<|.ret) .skip)<|s [lt 26 3
 8,⟨none,.store 3 6 26,none⟩,mi 7 0] [6,7]<|.ret
theorem Cd.i_joinedControls_k:CK 53 Tryz.f53 Cd.gK 27 [.cell 6 35,.tmp 7]:=ck Tryz.func53
def Cd.vC:aD:=s [bx 2 0,bx 3 1,mi 4 0] [2,3]<|.seq (s [lt 5 3 2,c 6 F.qF [5],nt 7 6,m 8 7,⟨some 9,.load true 3 3,some (8,false)⟩,⟨some 10,.call (.func F.qF) [9] [],some (8,false)⟩,⟨some 11,.un .not 10,some (8,false)⟩,pt 12 8 11] [12]<|.cond 12 (s [mi 4 1] [4]<|.ret) .skip)<|s [mi 4 0] [4]<|.ret
theorem Cd.s_l18Two_k:CK 54 Tryz.f54 Cd.vC 13 [.tmp 4]:=ck Tryz.func54
def Cd.qF:aD:=s [bx 1 0,mf 2] [1]<|s [fa 3 0 1,lf 4 1 3,c 5 F.kR [4,(k 0),(k 1000000)],m 6 5,fg 7 1 1 6 true,lg 8 1 7 6 true,⟨some 9,.call (.func F.kR) [8,(k (-1000000000000000)),(k 1000000000000000)] [],some (6,true)⟩,pf 10 6 9,m 11 10,fg 12 2 1 11 true,lg 13 1 12 11 true,⟨some 14,.call (.func
 F.kR) [13,(k 0),(k 1000000000)] [],some (11,true)⟩,pf 15 11 14,m 2 15] [2]<|.ret
theorem Cd.s_l18Ok_k:CK 55 Tryz.f55 Cd.qF 16 [.tmp 2]:=ck Tryz.func55
def Cd.cZ:aD:=s [bx 1 0,mf 2] [1]<|s [fa 3 0 1,lf 4 1 3,c 5 F.iN [4,(k 0),(k 1000000)],m 6 5,fg 7 1 1 6 true,lg 8 1 7 6 true,⟨some 9,.call (.func F.iN) [8,(k (-1000000000000000)),(k 1000000000000000)] [],some (6,true)⟩,pf 10 6 9,m 11 10,fg 12 2 1 11 true,lg 13 1 12 11 true,⟨some 14,.call (.func
 F.iN) [13,(k 0),(k 1000000000)] [],some (11,true)⟩,pf 15 11 14,m 2 15] [2]<|.ret
theorem Cd.i_isPlainControl_k:CK 56 Tryz.f56 Cd.cZ 16 [.tmp 2]:=ck Tryz.func56
def Cd.l5:aD:=s [o 2 (.mv (.const (.string ⟨#[]⟩)))] [0]<|s [m 3 0,c 4 F.eZ [3,(k 10)],m 2 4] [2]<|.ret
theorem Cd.i_Decimal_k:CK 57 Tryz.f57 Cd.l5 5 [.tmp 2]:=ck Tryz.func57
def Cd.pK:aD:=s [bx 1 0,o 2 (.mv (.const (.string ⟨#[]⟩)))] [1]<|r [fa 3 0 1,lf 4 1 3,c 5 F.qN [4],o 6 (.binS .add 5 (.const (.string ⟨#[32,99,97,114,100,115,32]⟩))),fa 7 1 1,lf 8 1 7,c 9 F.qN [8],o 10 (.binS .add 6 9),o 11 (.binS .add 10 (.const (.string ⟨#[32,115,117,109,32]⟩))),fa 12 2 1,lf 13
 1 12,c 14 F.qN [13],o 15 (.binS .add 11 14),o 16 (.binS .add 15 (.const (.string ⟨#[32,100,105,103,105,116,115]⟩))),m 2 16] [2] [3,5,6,4,7,8,9,10,11,12,13,14,15,16]<|.ret
theorem Cd.s_l18Text_k:CK 60 Tryz.f60 Cd.pK 17 [.tmp 2]:=ck Tryz.func60
def Cd.sV:aD:=s [mn 4] [0,1]<|.seq (.naming 5 (.region [o 8 (.bslice 1 0 [.v (.string ⟨#[]⟩)] []),m 5 8] [0,1,5] []))<|s [mi 6 0] [0,1,5,6]<|.seq (s [mi 7 0] [0,1,5,6,7]<|.block 0 (.loop (.seq (s [m 9 7,m 10 0,o 11 (.lenS 10),ls 12 9 11] [0,1,5,6,7,12]<|.cond 12 .skip (.exit 0))<|.seq (.block 1 (s [m 15 0,m 16 7,o
 17 (.idxStr 15 16),m 18 1,o 19 (.bin .eql 17 18)] [0,1,5,6,7,19]<|.cond 19 (.seq (.naming 5 (.region [m 20 5,m 21 0,m 22 6,m 23 7,o 24 (.sstr 21 (some 22) (some 23)),o 25 (.bslice 1 1 [.v (.string ⟨#[]⟩)] [(0,24)]),o 26 (.append 1 16 20 25),m 5 26] [0,1,5,7] []))<|.region [m 27 7,ad 28 27 1,m 6 28]
 [0,1,5,6,7] []) .skip))<|.region [m 13 7,ad 14 13 1,m 7 14] [0,1,5,6,7] [])))<|s [m 29 5,m 30 0,m 31 6,o 32 (.sstr 30 (some 31) none),o 33 (.bslice 1 1 [.v (.string ⟨#[]⟩)] [(0,32)]),o 34 (.append 1 16 29 33),m 4 34] [4]<|.ret
theorem Cd.s_l01Split_k:CK 62 Tryz.f62 Cd.sV 35 [.tmp 4]:=ck Tryz.func62
def Cd.bI:aD:=s [mi 2 0,mf 3] [0]<|s [m 7 0,m 4 7] [0,4]<|.seq (s [m 8 4,o 9 (.binS .neq 8 (.const (.string ⟨#[]⟩))),m 10 9,mg 11 4 10 true,⟨some 12,.idxStr 11 (k 0),some (10,true)⟩,⟨some 13,.bin .eql 12 (.const (.int .u8 (45))),some (10,true)⟩,pf 14 10 13] [0,4,14]<|.cond 14 (.region [m 15 4,o 16 (.sstr 15 (some
 (k 1)) none),m 4 16] [0,4] []) .skip)<|.seq (s [m 17 4,o 18 (.lenS 17),o 19 (.bin .lss 18 (k 1)),m 20 19,mg 21 4 20 false,⟨some 22,.lenS 21,some (20,false)⟩,⟨some 23,.bin .gtr 22 (k 18),some (20,false)⟩,pt 24 20 23] [0,4,24]<|.cond 24 (s [mi 2 0,mf 3] [2,3]<|.ret) .skip)<|s [mi 5 0] [0,4,5]<|.seq (s
 [mi 6 0] [0,4,5,6]<|.block 0 (.loop (.seq (s [m 25 6,m 26 4,o 27 (.lenS 26),ls 28 25 27] [0,4,5,6,28]<|.cond 28 .skip (.exit 0))<|.seq (.block 1 (.seq (s [m 31 4,m 32 6,o 33 (.idxStr 31 32),c 34 F.p8 [33],nt 35 34] [0,4,5,6,35]<|.cond 35 (s [mi 2 0,mf 3] [2,3]<|.ret) .skip)<|.region [m 36
 5,o 37 (.bin .mul (k 10) 36),m 38 4,m 39 6,o 40 (.idxStr 38 39),o 41 (.bin .sub 40 (.const (.int .u8 (48)))),o 42 (.conv .i64 41),o 43 (.bin .add 37 42),m 5 43] [0,4,5,6] []))<|.region [m 29 6,ad 30 29 1,m 6 30] [0,4,5,6] [])))<|.seq (s [m 44 4,o 45 (.lenS 44),m 46 0,o 47 (.lenS 46),ls 48 45 47]
 [0,5,48]<|.cond 48 (.region [m 49 5,o 50 (.un .neg 49),m 5 50] [0,5] []) .skip)<|.seq (s [m 51 5,c 52 F.qN [51],m 53 0,o 54 (.binS .neq 52 53)] [5,54]<|.cond 54 (s [mi 2 0,mf 3] [2,3]<|.ret) .skip)<|s [m 55 5,m 2 55,mt 3] [2,3]<|.ret
theorem Cd.s_l01Number_k:CK 63 Tryz.f63 Cd.bI 56 [.tmp 2,.tmp 3]:=ck Tryz.func63
def Cd.kI:aD:=s [bx 1 0,mf 2] [1]<|.seq (s [fa 5 0 1,lf 6 1 5,ln 7 6,ne 8 7 6,m 9 8,fg 10 1 1 9 false,lg 11 1 10 9 false,⟨some 12,.len 11,some (9,false)⟩,⟨some 13,.bin .gtr 12 (k 20),some (9,false)⟩,pt 14 9 13] [1,14]<|.cond 14 (s [mf 2] [2]<|.ret) .skip)<|.seq (s [fa 15 0 1,lf 16 1 15,ln 17 16,mi 18 0]
 [1,16,17,18]<|.block 0 (.loop (s [ls 19 18 17] [1,16,17,18,19]<|.seq (.cond 19 .skip (.exit 0))<|.seq (.block 1 (s [ix 20 1 16 18,lf 21 1 20,m 4 21] [1,4,16,17,18]<|r [m 22 4,c 23 F.jF [22],nt 24 23,m 25 24,mg 26 4 25 false,⟨some 27,.len 26,some (25,false)⟩,⟨some 28,.bin .gtr 27 (k
 0),some (25,false)⟩,mg 29 28 25 false,mg 30 4 29 true,⟨some 31,.idxSl 1 30 (k 0),some (29,true)⟩,⟨some 32,.load true 1 31,some (29,true)⟩,⟨some 33,.call (.func F.bW) [32] [],some (29,true)⟩,⟨some 34,.load true 2 1,some (29,true)⟩,⟨some 35,.call (.func F.dQ) [34]
 [],some (29,true)⟩,⟨some 36,.bin .neq 33 35,some (29,true)⟩,⟨some 37,.pick 29 36 (.const (.bool false)),some (25,false)⟩,pt 38 25 37] [1,16,17,18,38] [22,24,25,26,23,27,28,29,30,31,32,33,34,35,36,37,38]<|.cond 38 (s [mf 2] [2]<|.ret) .skip))<|.region [ad 39 18 1,m 18 39] [1,16,17,18] [])))<|s [mt 2]
 [2]<|.ret
theorem Cd.i_ValidOffice_k:CK 64 Tryz.f64 Cd.kI 40 [.tmp 2]:=ck Tryz.func64
def Cd.zF:aD:=s [bx 2 0,bx 3 1,o 4 (.alloc [.v (.slice none 0 0),.v (.slice none 0 0)]),mi 5 0] [2,3,4]<|.seq (.block 0 (r [lt 12 9 3,lt 13 2 2,c 14 F.dQ [13],c 15 F.nV [12,14],nt 16 15,m 11 16] [2,3,4,11] [12,13,14,15,16,11]<|.cond 11 (s [o 17 (.build [.v (.slice none 0 0),.v (.slice
 none 0 0)] []),⟨none,.store 2 4 17,none⟩,mi 5 2] [4,5]<|.ret) (s [fa 19 0 3,lf 20 1 19,en 21 20 7,m 22 21,fg 23 1 2 22 true,lg 24 1 23 22 true,⟨some 25,.len 24,some (22,true)⟩,⟨some 26,.bin .eql 25 (k 20),some (22,true)⟩,pf 27 22 26,m 18 27] [2,3,4,18]<|.cond 18 (s [o 28 (.build [.v (.slice none 0
 0),.v (.slice none 0 0)] []),⟨none,.store 2 4 28,none⟩,mi 5 5] [4,5]<|.ret) .skip)))<|s [lt 29 2 2,c 30 F.nT [29],o 6 (.alloc [.v (.slice none 0 0),.v (.slice none 0 0)]),⟨none,.store 2 6 30,none⟩] [2,3,4,6]<|.seq (s [fa 31 0 3,lf 32 1 31,en 33 32 7] [2,3,4,6,33]<|.cond 33 (r [fa 35 0
 2,lf 36 1 35,fa 37 1 3,lf 38 1 37,ix 39 1 36 38,lf 40 1 39,fa 41 4 3,lt 42 2 41,fa 43 6 3,lt 44 2 43,c 45 F.tO [40,42,44],m 34 45,ex 46 34 0,ex 47 34 1,m 7 46,m 8 47] [4,6,7,8] [35,37,36,38,39,40,41,42,43,44,45,34,46,47,7]<|.seq (s [m 48 8,ne 49 48 0] [4,6,7,8,49]<|.cond 49 (s [o 50
 (.build [.v (.slice none 0 0),.v (.slice none 0 0)] []),m 51 8,⟨none,.store 2 4 50,none⟩,m 5 51] [4,5]<|.ret) .skip)<|s [fa 52 1 6,lf 53 1 52,m 54 7,o 55 (.bslice 1 1 [.v (.slice none 0 0)] [(0,54)]),o 56 (.append 1 24 53 55),fa 57 1 6,⟨none,.store 1 57 56,none⟩] [4,6]<|s [lt 58 2 6,⟨none,.store 2 4
 58,none⟩,mi 5 0] [4,5]<|.ret) .skip)<|s [lt 60 2 2,lt 61 9 3,c 62 F.zG [60,61],m 59 62,ex 63 59 0,ex 64 59 1,m 9 63,m 10 64] [3,4,6,9,10]<|.seq (s [m 65 10,ne 66 65 0] [3,4,6,9,10,66]<|.cond 66 (s [o 67 (.build [.v (.slice none 0 0),.v (.slice none 0 0)] []),m 68 10,⟨none,.store 2 4
 67,none⟩,m 5 68] [4,5]<|.ret) .skip)<|s [fa 69 0 6,lf 70 1 69,fa 71 3 3,lf 72 1 71,m 73 9,ix 74 1 70 72,⟨none,.store 1 74 73,none⟩] [4,6]<|s [lt 75 2 6,⟨none,.store 2 4 75,none⟩,mi 5 0] [4,5]<|.ret
theorem Cd.i_doStep_k:CK 65 Tryz.f65 Cd.zF 76 [.cell 4 27,.tmp 5]:=ck Tryz.func65
def Cd.zZ:aD:=s [mf 2] [0]<|.seq (s [mi 3 0] [0,3]<|.block 0 (.loop (.seq (s [m 4 3,m 5 0,nc 6 5,fa 7 0 6,lf 8 1 7,ln 9 8,ls 10 4 9] [0,3,10]<|.cond 10 .skip (.exit 0))<|.seq (.block 1 (r [m 13 0,nc 14 13,fa 15 0 14,lf 16 1 15,m 17 3,ix 18 1 16 17,lf 19 1 18,c 20 F.jZ [19],nt 21 20,m 22 21,mg 23 0 22
 false,⟨some 24,.nilc 23,some (22,false)⟩,fg 25 0 24 22 false,lg 26 1 25 22 false,mg 27 3 22 false,⟨some 28,.idxSl 1 26 27,some (22,false)⟩,lg 29 1 28 22 false,⟨some 30,.len 29,some (22,false)⟩,⟨some 31,.bin .gtr 30 (k 0),some (22,false)⟩,mg 32 31 22 false,mg 33 0 32 true,⟨some 34,.nilc 33,some
 (32,true)⟩,fg 35 0 34 32 true,lg 36 1 35 32 true,mg 37 3 32 true,⟨some 38,.idxSl 1 36 37,some (32,true)⟩,lg 39 1 38 32 true,⟨some 40,.idxSl 1 39 (k 0),some (32,true)⟩,fg 41 0 40 32 true,lg 42 1 41 32 true,⟨some 43,.len 42,some (32,true)⟩,mg 44 0 32 true,⟨some 45,.call (.func F.jI) [44]
 [],some (32,true)⟩,⟨some 46,.bin .neq 43 45,some (32,true)⟩,⟨some 47,.pick 32 46 (.const (.bool false)),some (22,false)⟩,pt 48 22 47] [0,3,48] [13,15,16,14,17,18,19,20,21,22,23,24,25,26,27,28,29,30,31,32,33,34,35,36,37,38,39,40,41,42,43,44,45,46,47,48]<|.cond 48 (s [mf 2] [2]<|.ret) .skip))<|.region
 [m 11 3,ad 12 11 1,m 3 12] [0,3] [])))<|s [m 49 0,nc 50 49,fa 51 0 50,lf 52 1 51,ln 53 52,en 54 53 6,m 55 54,mg 56 0 55 true,⟨some 57,.nilc 56,some (55,true)⟩,fg 58 1 57 55 true,lg 59 1 58 55 true,⟨some 60,.len 59,some (55,true)⟩,⟨some 61,.bin .leq 60 (k 20),some (55,true)⟩,pf 62 55 61,m 2 62]
 [2]<|.ret
theorem Cd.s_l15Ok_k:CK 66 Tryz.f66 Cd.zZ 63 [.tmp 2]:=ck Tryz.func66
def Cd.pR:aD:=s [o 2 (.alloc [.v (.slice none 0 0),.v (.slice none 0 0)])] [0,2]<|s [m 7 0,o 8 (.call (.func F.pU) [7,(k 6)] [0]),c 9 F.yF [8],o 3 (.alloc [.v (.slice none 0 0),.v (.slice none 0 0)]),⟨none,.store 2 3 9,none⟩] [0,2,3]<|s [m 10 0,o 11 (.call (.func F.bR) [10] [0]),m
 4 11] [2,3,4]<|s [m 13 4,m 14 4,ln 15 14,c 16 F.yJ [(k 4),15],o 17 (.slc 9 13 none (some 16)),c 18 F.vF [3,17],m 12 18,ex 19 12 0,ex 20 12 1,o 5 (.alloc [.v (.slice none 0 0),.v (.slice none 0 0)]),⟨none,.store 2 5 19,none⟩,m 6 20] [2,5]<|s [lt 21 2 5,⟨none,.store 2 2 21,none⟩]
 [2]<|.ret
theorem Cd.s_l15Draw_k:CK 67 Tryz.f67 Cd.pR 22 [.cell 2 27]:=ck Tryz.func67
def Cd.jY:aD:=s [o 4 (.mv (.const (.string ⟨#[]⟩)))] [0,1]<|s [c 8 F.nC [],m 5 8] [0,1,5]<|.seq (.naming 6 (.region [o 9 (.bslice 1 0 [.v (.int .u8 (0))] []),m 6 9] [0,1,5,6] []))<|.seq (s [mi 7 0] [0,1,5,6,7]<|.block 0 (.loop (.seq (s [m 10 7,m 11 1,ls 12 10 11] [0,1,5,6,7,12]<|.cond 12 .skip (.exit
 0))<|.seq (.block 1 (s [m 15 0,o 16 (.call (.func F.bA) [15,(k 3)] [0])] [0,1,5,6,7,16]<|.cond 16 (.naming 6 (.region [m 17 6,m 18 5,m 19 0,m 20 5,o 21 (.lenS 20),o 22 (.call (.func F.aF) [19,21] [0]),o 23 (.idxStr 18 22),o 24 (.bslice 1 1 [.v (.int .u8 (0))]
 [(0,23)]),o 25 (.append 1 1 17 24),m 6 25] [0,1,5,6,7] [])) (.naming 6 (.region [m 26 6,m 27 0,o 28 (.call (.func F.aF) [27,(k 7)] [0]),o 29 (.idxStr (.const (.string ⟨#[65,66,48,49,32,74,90]⟩)) 28),o 30 (.bslice 1 1 [.v (.int .u8 (0))] [(0,29)]),o 31 (.append 1 1 26 30),m 6 31]
 [0,1,5,6,7] []))))<|.region [m 13 7,ad 14 13 1,m 7 14] [0,1,5,6,7] [])))<|s [m 32 6,o 33 (.b2s 32),m 4 33] [4]<|.ret
theorem Cd.s_l03DrawText_k:CK 68 Tryz.f68 Cd.jY 34 [.tmp 4]:=ck Tryz.func68
def Cd.dU:aD:=s [o 4 (.mv (.const (.string ⟨#[]⟩)))] [0,1]<|s [m 5 1,m 6 0,m 7 1,ln 8 7,o 9 (.call (.func F.aF) [6,8] [0]),ix 10 1 5 9,lf 11 1 10,m 4 11] [4]<|.ret
theorem Cd._s_l00Src__text_k:CK 69 Tryz.f69 Cd.dU 12 [.tmp 4]:=ck Tryz.func69
def Cd.fG:aD:=s [mi 2 0] [0]<|s [mi 3 0] [0,3]<|.seq (r [m 4 0,nc 5 4,fa 6 1 5,lf 7 1 6,m 8 0,nc 9 8,fa 10 0 9,lf 11 1 10,ln 12 11,ls 13 7 12] [0,3,13] [4,6,7,5,8,9,10,11,12,13]<|.cond 13 (.region [m 14 0,nc 15 14,fa 16 0 15,lf 17 1 16,m 18 0,nc 19 18,fa 20 1 19,lf 21 1 20,ix 22 1 17 21,lf 23 1 22,o 24 (.conv .i64
 23),m 3 24] [0,3] [14,16,17,15,18,19,20,21,22,23,24]) .skip)<|s [m 25 0,nc 26 25,fa 27 1 26,lf 28 1 27,ad 29 28 1,nc 30 25,fa 31 1 30,⟨none,.store 1 31 29,none⟩] [0,3]<|s [m 32 0,m 33 0,nc 34 33,fa 35 2 34,lf 36 1 35,o 37 (.bin .mul 36 (.const (.int .u64 (6364136223846793005)))),m 38 3,o 39 (.conv
 .u64 38),o 40 (.bin .add 37 39),o 41 (.bin .add 40 (.const (.int .u64 (1442695040888963407)))),nc 42 32,fa 43 2 42,⟨none,.store 1 43 41,none⟩] [0,3]<|.seq (r [m 44 0,nc 45 44,fa 46 1 45,lf 47 1 46,m 48 0,nc 49 48,fa 50 0 49,lf 51 1 50,ln 52 51,o 53 (.bin .leq 47 52)] [0,3,53]
 [44,46,47,45,48,49,50,51,52,53]<|.cond 53 (s [m 54 3,m 2 54] [2]<|.ret) .skip)<|s [m 55 0,nc 56 55,fa 57 2 56,lf 58 1 57,o 59 (.bin .shr 58 (.const (.int .u64 (40)))),o 60 (.bin .and 59 (.const (.int .u64 (255)))),o 61 (.conv .i64 60),m 2 61] [2]<|.ret
theorem Cd._s_l00Src__next_k:CK 70 Tryz.f70 Cd.fG 62 [.tmp 2]:=ck Tryz.func70
def Cd.bE:aD:=s [mi 4 0] [0,1]<|s [m 5 1,m 6 0,m 7 1,ln 8 7,o 9 (.call (.func F.aF) [6,8] [0]),ix 10 1 5 9,lf 11 1 10,m 4 11] [4]<|.ret
theorem Cd._s_l00Src__among_k:CK 71 Tryz.f71 Cd.bE 12 [.tmp 4]:=ck Tryz.func71
def Cd.qK:aD:=s [o 2 (.alloc [.v (.int .i64 (0)),.v (.int .i64 (0))])] [0,2]<|.seq (s [m 3 0,o 4 (.call (.func F.bA) [3,(k 10)] [0])] [0,2,4]<|.cond 4 (s [m 5 0,o 6 (.call (.func F.iW) [5,(k 5)] [0]),⟨none,.store 2 2 6,none⟩] [2]<|.ret) .skip)<|.seq (s [m 7 0,o 8 (.call (.func
 F.bA) [7,(k 12)] [0])] [0,2,8]<|.cond 8 (s [m 9 0,o 10 (.call (.func F.aF) [9,(k 2)] [0]),o 11 (.bin .add (k 13) 10),o 12 (.build [.v (.int .i64 (0)),.v (.int .i64 (0))] [(0,1,(k 1)),(1,1,11)]),⟨none,.store 2 2 12,none⟩] [2]<|.ret) .skip)<|s [m 13 0,o 14 (.call (.func
 F.aF) [13,(k 2)] [0]),o 15 (.bin .mul (k 2) 14),o 16 (.bin .add (k 1) 15),o 17 (.build [.v (.int .i64 (0)),.v (.int .i64 (0))] [(0,1,16),(1,1,(k 5))]),⟨none,.store 2 2 17,none⟩] [2]<|.ret
theorem Cd.s_l18Sum_k:CK 72 Tryz.f72 Cd.qK 18 [.cell 2 29]:=ck Tryz.func72
def Cd.iN:aD:=s [mf 6] [0,1,2]<|s [m 7 0,m 8 1,o 9 (.bin .geq 7 8),m 10 9,mg 11 0 10 true,mg 12 2 10 true,⟨some 13,.bin .leq 11 12,some (10,true)⟩,pf 14 10 13,m 6 14] [6]<|.ret
theorem Cd.i_inside_k:CK 73 Tryz.f73 Cd.iN 15 [.tmp 6]:=ck Tryz.func73
def Cd.tV:aD:=s [mf 2] [0]<|s [m 3 0,c 4 F.iN [3,(k 0),(k 5)],m 2 4] [2]<|.ret
theorem Cd.i_isTray_k:CK 74 Tryz.f74 Cd.tV 5 [.tmp 2]:=ck Tryz.func74
def Cd.tQ:aD:=s [mf 2] [0]<|s [m 3 0,c 4 F.iN [3,(k 2),(k 4)],m 2 4] [2]<|.ret
theorem Cd.i_takesTwo_k:CK 75 Tryz.f75 Cd.tQ 5 [.tmp 2]:=ck Tryz.func75
def Cd.nU:aD:=s [bx 2 0,mf 4] [1,2]<|s [fa 5 0 2,lf 6 1 5,o 7 (.bin .leq (k 0) 6),m 8 7,fg 9 0 2 8 true,lg 10 1 9 8 true,fg 11 1 2 8 true,lg 12 1 11 8 true,⟨some 13,.bin .lss 10 12,some (8,true)⟩,pf 14 8 13,m 15 14,fg 16 1 2 15 true,lg 17 1 16 15 true,mg 18 1 15 true,⟨some 19,.bin .leq 17 18,some (15,true)⟩,pf 20
 15 19,m 4 20] [4]<|.ret
theorem Cd.i_isField_k:CK 76 Tryz.f76 Cd.nU 21 [.tmp 4]:=ck Tryz.func76
def Cd.iE:aD:=s [mf 2] [0]<|.seq (s [mi 3 0] [0,3]<|.block 0 (.loop (.seq (s [m 4 3,m 5 0,o 6 (.lenS 5),ls 7 4 6] [0,3,7]<|.cond 7 .skip (.exit 0))<|.seq (.block 1 (s [m 10 0,m 11 3,o 12 (.idxStr 10 11),c 13 F.mR [12],nt 14 13] [0,3,14]<|.cond 14 (s [mf 2] [2]<|.ret) .skip))<|.region [m 8 3,ad 9 8
 1,m 3 9] [0,3] [])))<|s [mt 2] [2]<|.ret
theorem Cd.i_areCharacters_k:CK 77 Tryz.f77 Cd.iE 15 [.tmp 2]:=ck Tryz.func77
def Cd.bW:aD:=s [bx 1 0,mi 2 0] [1]<|s [fa 3 0 1,lf 4 1 3,c 5 F.mQ [4],m 2 5] [2]<|.ret
theorem Cd._i_Card__columns_k:CK 78 Tryz.f78 Cd.bW 6 [.tmp 2]:=ck Tryz.func78
def Cd.iY:aD:=s [mi 2 0] [0]<|s [m 3 0,ln 4 3,m 2 4] [2]<|.ret
theorem Cd.i_size_i_Card__k:CK 79 Tryz.f79 Cd.iY 5 [.tmp 2]:=ck Tryz.func79
def Cd.nH:aD:=s [bx 2 0,bx 3 1,mi 4 0,mf 5] [2,3]<|s [fa 14 0 2,lf 15 1 14,fa 16 0 3,lf 17 1 16,fa 18 1 3,lf 19 1 18,o 20 (.slc 1 15 (some 17) (some 19)),c 21 F.lM [20],m 6 21] [6]<|.seq (s [m 22 6,c 23 F.l6 [22,(.func F.fQ)],nt 24 23] [6,24]<|.cond 24 (s [mi
 4 0,mt 5] [4,5]<|.ret) .skip)<|s [m 25 6,ln 26 25,o 27 (.bin .sub 26 (k 1)),m 7 27] [6,7]<|r [m 28 6,m 29 7,ix 30 1 28 29,lf 31 1 30,c 32 F.fA [(k 11)],o 33 (.bin .and 31 32),ne 34 33 0,m 8 34] [6,7,8] [28,29,31,32,30,33,34]<|r [m 35 6,m 36 7,ix 37 1 35 36,lf 38 1 37,c 39 F.fA [(k
 11)],o 40 (.bin .andNot 38 39),ix 41 1 35 36,⟨none,.store 1 41 40,none⟩] [6,7,8] [35,36,38,39,37,40]<|s [mi 9 0,mf 10] [6,7,8,9,10]<|.seq (s [m 42 6,ln 43 42,mi 44 0] [6,7,8,9,10,42,43,44]<|.block 0 (.loop (s [ls 45 44 43] [6,7,8,9,10,42,43,44,45]<|.seq (.cond 45 .skip (.exit 0))<|.seq (.block 1 (s
 [ix 46 1 42 44,lf 47 1 46,m 12 47] [6,7,8,9,10,12,42,43,44]<|s [m 48 12,c 49 F.wF [48],m 13 49] [6,7,8,9,10,12,13,42,43,44]<|.seq (.block 2 (s [m 51 12,en 52 51 0,m 53 52,mg 54 10 53 true,⟨some 55,.un .not 54,some (53,true)⟩,pf 56 53 55,m 50 56] [6,7,8,9,10,13,42,43,44,50]<|.cond 50 (.exit
 1) (s [m 58 13,o 59 (.bin .lss 58 (k 0)),m 57 59] [6,7,8,9,13,42,43,44,57]<|.cond 57 (s [mi 4 0,mf 5] [4,5]<|.ret) .skip)))<|s [mt 10] [6,7,8,9,10,13,42,43,44]<|.region [m 60 9,o 61 (.bin .mul (k 10) 60),m 62 13,o 63 (.bin .add 61 62),m 9 63] [6,7,8,9,10,42,43,44] []))<|.region [ad 64 44 1,m 44 64]
 [6,7,8,9,10,42,43,44] [])))<|.seq (s [m 65 10,nt 66 65,m 67 66,mg 68 6 67 false,mg 69 7 67 false,⟨some 70,.idxSl 1 68 69,some (67,false)⟩,lg 71 1 70 67 false,⟨some 72,.bin .eql 71 (k 0),some (67,false)⟩,pt 73 67 72,m 74 73,mg 75 8 74 false,mg 76 75 74 false,mg 77 9 76 true,⟨some 78,.bin .eql 77 (k
 0),some (76,true)⟩,⟨some 79,.pick 76 78 (.const (.bool false)),some (74,false)⟩,pt 80 74 79] [8,9,80]<|.cond 80 (s [mi 4 0,mf 5] [4,5]<|.ret) .skip)<|.seq (s [m 81 8] [9,81]<|.cond 81 (.region [m 82 9,o 83 (.un .neg 82),m 9 83] [9] []) .skip)<|s [m 84 9,m 4 84,mt 5] [4,5]<|.ret
theorem Cd.i_numberIn_k:CK 80 Tryz.f80 Cd.nH 85 [.tmp 4,.tmp 5]:=ck Tryz.func80
def Cd.uA:aD:=s [mi 2 0] [0]<|s [mi 3 0] [0,3]<|.seq (s [m 6 0,c 7 F.rA [6],ln 8 7,mi 9 0] [3,7,8,9]<|.block 0 (.loop (s [ls 10 9 8] [3,7,8,9,10]<|.seq (.cond 10 .skip (.exit 0))<|.seq (.block 1 (s [ix 11 1 7 9,lf 12 1 11,m 5 12] [3,5,7,8,9]<|.region [m 13 3,m 14 5,o 15 (.bin .add 13 14),m 3 15]
 [3,7,8,9] []))<|.region [ad 16 9 1,m 9 16] [3,7,8,9] [])))<|s [m 17 3,m 2 17] [2]<|.ret
theorem Cd.i_digitSum_k:CK 81 Tryz.f81 Cd.uA 18 [.tmp 2]:=ck Tryz.func81
def Cd.kR:aD:=s [mf 6] [0,1,2]<|s [m 7 0,m 8 1,o 9 (.bin .geq 7 8),m 10 9,mg 11 0 10 true,mg 12 2 10 true,⟨some 13,.bin .leq 11 12,some (10,true)⟩,pf 14 10 13,m 6 14] [6]<|.ret
theorem Cd.s_l00In_k:CK 82 Tryz.f82 Cd.kR 15 [.tmp 6]:=ck Tryz.func82
def Cd.pO:aD:=s [mf 2] [0]<|s [m 3 0,c 4 F.kR [3,(k 0),(k 5)],m 2 4] [2]<|.ret
theorem Cd.s_l15Tray_k:CK 83 Tryz.f83 Cd.pO 5 [.tmp 2]:=ck Tryz.func83
def Cd.fD:aD:=s [bx 2 0,mf 4] [1,2]<|s [fa 5 0 2,lf 6 1 5,o 7 (.bin .geq 6 (k 0)),m 8 7,fg 9 0 2 8 true,lg 10 1 9 8 true,fg 11 1 2 8 true,lg 12 1 11 8 true,⟨some 13,.bin .lss 10 12,some (8,true)⟩,pf 14 8 13,m 15 14,fg 16 1 2 15 true,lg 17 1 16 15 true,mg 18 1 15 true,⟨some 19,.bin .leq 17 18,some (15,true)⟩,pf 20
 15 19,m 4 20] [4]<|.ret
theorem Cd.s_l02Field_k:CK 84 Tryz.f84 Cd.fD 21 [.tmp 4]:=ck Tryz.func84
def Cd.vG:aD:=s [mf 2] [0]<|s [m 3 0,c 4 F.kR [3,(k 2),(k 4)],m 2 4] [2]<|.ret
theorem Cd.s_l15Both_k:CK 85 Tryz.f85 Cd.vG 5 [.tmp 2]:=ck Tryz.func85
def Cd.sF:aD:=s [bx 3 1,mi 4 0] [0,3]<|.seq (s [m 6 0,o 7 (.lenS 6),fa 8 1 3,lf 9 1 8,fa 10 0 3,lf 11 1 10,o 12 (.bin .sub 9 11),o 13 (.bin .neq 7 12)] [0,13]<|.cond 13 (s [mi 4 2] [4]<|.ret) .skip)<|.seq (s [mi 5 0] [0,5]<|.block 0 (.loop (.seq (s [m 14 5,m 15 0,o 16 (.lenS 15),ls 17 14 16] [0,5,17]<|.cond 17
 .skip (.exit 0))<|.seq (.block 1 (s [m 20 0,m 21 5,o 22 (.idxStr 20 21),c 23 F.pW [22],o 24 (.bin .lss 23 (k 0))] [0,5,24]<|.cond 24 (s [mi 4 7] [4]<|.ret) .skip))<|.region [m 18 5,ad 19 18 1,m 5 19] [0,5] [])))<|s [mi 4 0] [4]<|.ret
theorem Cd.s_l09Text_k:CK 86 Tryz.f86 Cd.sF 25 [.tmp 4]:=ck Tryz.func86
def Cd.lF:aD:=s [mi 2 0,mf 3] [0]<|s [mi 4 0] [0,4]<|s [mf 5] [0,4,5]<|s [mf 6] [0,4,5,6]<|.seq (s [mi 7 0] [0,4,5,6,7]<|.block 0 (.loop (.seq (s [m 10 7,m 11 0,ln 12 11,ls 13 10 12] [0,4,5,6,7,13]<|.cond 13 .skip (.exit 0))<|.seq (.block 1 (s [m 16 0,m 17 7,ix 18 1 16 17,lf 19 1 18,m 8 19] [0,4,5,6,7,8]<|.seq (s
 [m 20 7,m 21 0,ln 22 21,o 23 (.bin .sub 22 (k 1)),o 24 (.bin .eql 20 23),m 25 24,mg 26 8 25 true,⟨some 27,.bin .and 26 (k 2),some (25,true)⟩,⟨some 28,.bin .neq 27 (k 0),some (25,true)⟩,pf 29 25 28] [0,4,5,6,7,8,29]<|.cond 29 (s [mt 6] [0,4,5,6,7,8]<|.region [m 30 8,o 31 (.bin .sub 30 (k 2)),m 8 31]
 [0,4,5,6,7,8] []) .skip)<|.seq (s [m 32 8,en 33 32 0,m 34 33,mg 35 5 34 true,⟨some 36,.un .not 35,some (34,true)⟩,pf 37 34 36,m 38 37,mg 39 6 38 true,⟨some 40,.un .not 39,some (38,true)⟩,pf 41 38 40] [0,4,5,6,7,8,41]<|.cond 41 (.exit 1) .skip)<|s [m 42 8,c 43 F.sS [42],m 9 43]
 [0,4,6,7,9]<|.seq (s [m 44 9,o 45 (.bin .lss 44 (k 0))] [0,4,6,7,9,45]<|.cond 45 (s [mi 2 0,mf 3] [2,3]<|.ret) .skip)<|s [mt 5] [0,4,5,6,7,9]<|.region [m 46 4,o 47 (.bin .mul (k 10) 46),m 48 9,o 49 (.bin .add 47 48),m 4 49] [0,4,5,6,7] []))<|.region [m 14 7,ad 15 14 1,m 7 15] [0,4,5,6,7] [])))<|.seq
 (s [m 50 6] [4,50]<|.cond 50 (s [m 51 4,o 52 (.un .neg 51),m 53 4,ne 54 53 0,m 2 52,m 3 54] [2,3]<|.ret) .skip)<|s [m 55 4,m 2 55,mt 3] [2,3]<|.ret
theorem Cd.s_l03Number_k:CK 87 Tryz.f87 Cd.lF 56 [.tmp 2,.tmp 3]:=ck Tryz.func87
def Cd.nL:aD:=s [bx 3 1,mn 4] [0,3]<|r [m 5 0,nc 6 5,fa 7 0 6,lf 8 1 7,fa 9 0 3,lf 10 1 9,fa 11 1 3,lf 12 1 11,o 13 (.slc 1 8 (some 10) (some 12)),m 4 13] [4] [5,7,8,6,9,10,11,12,13]<|.ret
theorem Cd.s_l02Part_k:CK 88 Tryz.f88 Cd.nL 14 [.tmp 4]:=ck Tryz.func88
def Cd.qL:aD:=s [mi 2 0] [0]<|.seq (s [m 4 0,o 5 (.bin .lss 4 (k 0))] [0,5]<|.cond 5 (.region [m 6 0,o 7 (.un .neg 6),m 0 7] [0] []) .skip)<|s [mi 3 0] [0,3]<|.seq (.block 0 (.loop (.seq (s [m 8 0,o 9 (.bin .gtr 8 (k 0))] [0,3,9]<|.cond 9 .skip (.exit 0))<|.seq (.block 1 (.region [m 12 3,m 13 0,o 14 (.bin .rem 13
 (k 10)),o 15 (.bin .add 12 14),m 3 15] [0,3] []))<|.region [m 10 0,o 11 (.bin .quo 10 (k 10)),m 0 11] [0,3] [])))<|s [m 16 3,m 2 16] [2]<|.ret
theorem Cd.s_l18Digits_k:CK 89 Tryz.f89 Cd.qL 17 [.tmp 2]:=ck Tryz.func89
def Cd.gI:aD:=s [o 4 (.alloc [.v (.slice none 0 0)])] [0,1,4]<|s [o 8 (.build [.v (.slice none 0 0)] []),o 5 (.alloc [.v (.slice none 0 0)]),⟨none,.store 1 5 8,none⟩] [0,1,4,5]<|.seq (s [mi 6 0] [0,1,4,5,6]<|.block 0 (.loop (.seq (s [m 9 6,m 10 1,ls 11 9 10] [0,1,4,5,6,11]<|.cond 11 .skip (.exit 0))<|.seq (.block
 1 (s [m 14 0,o 15 (.call (.func F.aF) [14,(k 10)] [0]),o 16 (.conv .u64 15),o 17 (.bin .shl (k 4) 16),m 7 17] [0,1,4,5,6,7]<|.seq (s [m 18 0,o 19 (.call (.func F.aF) [18,(k 6)] [0])] [0,1,4,5,6,7,19]<|.block 2 (s [en 21 19 0,m 20 21] [0,1,4,5,6,7,19,20]<|.cond 20
 (.region [mi 7 0] [0,1,4,5,6,7] []) (s [en 23 19 1,m 22 23] [0,1,4,5,6,7,19,22]<|.cond 22 (s [m 24 0,o 25 (.call (.func F.aF) [24,(k 3)] [0]),o 26 (.conv .u64 25),o 27 (.bin .shl (k 1) 26),m 7 27] [0,1,4,5,6,7]<|.region [m 28 7,m 29 0,o 30 (.call (.func F.aF) [29,(k
 9)] [0]),o 31 (.conv .u64 30),o 32 (.bin .shl (k 8) 31),o 33 (.bin .or 28 32),m 7 33] [0,1,4,5,6,7] []) (s [en 35 19 2,m 34 35] [0,1,4,5,6,7,34]<|.cond 34 (.region [m 36 0,o 37 (.call (.func F.aF) [36,(k 4096)] [0]),m 7 37] [0,1,4,5,6,7] []) .skip))))<|.region [fa 38 0 5,lf 39 1 38,m
 40 7,o 41 (.bslice 1 1 [.v (.int .i64 (0))] [(0,40)]),o 42 (.append 1 8 39 41),fa 43 0 5,⟨none,.store 1 43 42,none⟩] [0,1,4,5,6] []))<|.region [m 12 6,ad 13 12 1,m 6 13] [0,1,4,5,6] [])))<|s [lt 44 1 5,⟨none,.store 1 4 44,none⟩] [4]<|.ret
theorem Cd.s_l02Draw_k:CK 91 Tryz.f91 Cd.gI 45 [.cell 4 104]:=ck Tryz.func91
def Cd.vK:aD:=s [mi 4 0] [0,1]<|.seq (s [m 5 0,m 6 1,o 7 (.bin .gtr 5 6)] [0,1,7]<|.cond 7 (s [m 8 0,m 4 8] [4]<|.ret) .skip)<|s [m 9 1,m 4 9] [4]<|.ret
theorem Cd.s_l00Max_k:CK 93 Tryz.f93 Cd.vK 10 [.tmp 4]:=ck Tryz.func93
def Cd.lZ:aD:=s [o 2 (.alloc [.v (.slice none 0 0)])] [0,2]<|s [m 9 0,o 10 (.call (.func F.aF) [9,(k 3)] [0]),o 11 (.sstr (.const (.string ⟨#[65,66,49]⟩)) (some 10) none),o 12 (.sstr 11 none (some (k 1))),o 13 (.binS .add 12 (.const (.string ⟨#[48,48,48,48]⟩))),c 14 F.pX [13],o 3 (.alloc
 [.v (.slice none 0 0)]),⟨none,.store 1 3 14,none⟩] [0,2,3]<|s [m 16 0,o 17 (.call (.func F.aF) [16,(k 100)] [0]),c 18 F.vI [17,(k 2)],m 15 18,ex 19 15 0,ex 20 15 1,m 4 19,m 5 20] [0,2,3,4]<|s [m 22 0,o 23 (.call (.func F.aF) [22,(k 130)] [0]),o 24 (.bin .sub
 23 (k 30)),c 25 F.vI [24,(k 2)],m 21 25,ex 26 21 0,ex 27 21 1,m 6 26,m 7 27] [2,3,4,6]<|.seq (s [mi 8 0] [2,3,4,6,8]<|.block 0 (.loop (.seq (s [m 28 8,o 29 (.bin .lss 28 (k 2))] [2,3,4,6,8,29]<|.cond 29 .skip (.exit 0))<|.seq (.block 1 (r [fa 32 0 3,lf 33 1 32,m 34 8,o 35 (.bin .add (k 1)
 34),m 36 4,m 37 8,ix 38 1 36 37,lf 39 1 38,ix 40 1 33 35,⟨none,.store 1 40 39,none⟩] [2,3,4,6,8] [32,34,33,35,36,37,38,39]<|.region [fa 41 0 3,lf 42 1 41,m 43 8,o 44 (.bin .add (k 3) 43),m 45 6,m 46 8,ix 47 1 45 46,lf 48 1 47,ix 49 1 42 44,⟨none,.store 1 49 48,none⟩] [2,3,4,6,8]
 [41,43,42,44,45,46,47,48]))<|.region [m 30 8,ad 31 30 1,m 8 31] [2,3,4,6,8] [])))<|s [lt 50 1 3,⟨none,.store 1 2 50,none⟩] [2]<|.ret
theorem Cd.s_l13Card_k:CK 94 Tryz.f94 Cd.lZ 51 [.cell 2 104]:=ck Tryz.func94
def Cd.rC:aD:=s [bx 1 0,mf 2] [1]<|s [lt 3 1 1,c 4 F.bW [3],c 5 F.iN [4,(k 1),(k 20)],m 6 5,fg 7 0 1 6 true,lg 8 1 7 6 true,⟨some 9,.call (.func F.l6) [8,(.func F.eT)] [],some (6,true)⟩,⟨some 10,.un .not 9,some (6,true)⟩,pf 11 6 10,m 2 11]
 [2]<|.ret
theorem Cd.i_ValidCard_k:CK 95 Tryz.f95 Cd.rC 12 [.tmp 2]:=ck Tryz.func95
def Cd.aA0:aD:=s [mf 2] [0]<|.seq (s [mi 3 0] [0,3]<|.block 0 (.loop (.seq (s [m 4 3,m 5 0,nc 6 5,fa 7 0 6,lf 8 1 7,ln 9 8,ls 10 4 9] [0,3,10]<|.cond 10 .skip (.exit 0))<|.seq (.block 1 (s [m 13 0,nc 14 13,fa 15 0 14,lf 16 1 15,m 17 3,ix 18 1 16 17,lf 19 1 18,c 20 F.kR [19,(k 0),(k 4095)],nt 21 20]
 [0,3,21]<|.cond 21 (s [mf 2] [2]<|.ret) .skip))<|.region [m 11 3,ad 12 11 1,m 3 12] [0,3] [])))<|s [m 22 0,nc 23 22,fa 24 0 23,lf 25 1 24,ln 26 25,c 27 F.kR [26,(k 1),(k 20)],m 2 27] [2]<|.ret
theorem Cd.s_l02Ok_k:CK 96 Tryz.f96 Cd.aA0 28 [.tmp 2]:=ck Tryz.func96
def Cd.eZ:aD:=s [o 4 (.mv (.const (.string ⟨#[]⟩)))] [0,1]<|s [m 5 0,m 6 1,c 7 F.lJ [5,6],m 4 7] [4]<|.ret
theorem Cd.strconv_FormatInt_k:CK 97 Tryz.f97 Cd.eZ 8 [.tmp 4]:=ck Tryz.func97
def Cd.qN:aD:=s [o 2 (.mv (.const (.string ⟨#[]⟩)))] [0]<|.seq (.closing 3 (.region [o 6 (.bslice 1 0 [.v (.int .u8 (0))] []),m 3 6] [0,3] []))<|.seq (s [m 7 0,m 4 7] [0,3,4]<|.block 0 (.loop (.seq (s [m 8 4,ne 9 8 0] [0,3,4,9]<|.cond 9 .skip (.exit 0))<|.seq (.block 1 (s [m 12 4,o 13 (.bin .rem 12 (k 10)),m 5 13]
 [0,3,4,5]<|.seq (s [m 14 5,o 15 (.bin .lss 14 (k 0))] [0,3,4,5,15]<|.cond 15 (.region [m 16 5,o 17 (.un .neg 16),m 5 17] [0,3,4,5] []) .skip)<|.closing 3 (.region [m 18 5,o 19 (.bin .add (k 48) 18),o 20 (.conv .u8 19),o 21 (.bslice 1 1 [.v (.int .u8 (0))] [(0,20)]),m 22 3,o 23 (.append 1 1 21 22),m 3
 23] [0,3,4] [])))<|.region [m 10 4,o 11 (.bin .quo 10 (k 10)),m 4 11] [0,3,4] [])))<|.seq (s [m 24 3,ln 25 24,en 26 25 0] [0,3,26]<|.cond 26 (s [o 2 (.mv (.const (.string ⟨#[48]⟩)))] [2]<|.ret) .skip)<|.seq (s [m 27 0,o 28 (.bin .lss 27 (k 0))] [3,28]<|.cond 28 (s [m 29 3,o 30 (.b2s 29),o 31 (.binS
 .add (.const (.string ⟨#[45]⟩)) 30),m 2 31] [2]<|.ret) .skip)<|s [m 32 3,o 33 (.b2s 32),m 2 33] [2]<|.ret
theorem Cd.s_l01Dec_k:CK 101 Tryz.f101 Cd.qN 34 [.tmp 2]:=ck Tryz.func101
def Cd.p8:aD:=s [mf 2] [0]<|s [m 3 0,o 4 (.bin .geq 3 (.const (.int .u8 (48)))),m 5 4,mg 6 0 5 true,⟨some 7,.bin .leq 6 (.const (.int .u8 (57))),some (5,true)⟩,pf 8 5 7,m 2 8] [2]<|.ret
theorem Cd.s_l01Digit_k:CK 102 Tryz.f102 Cd.p8 9 [.tmp 2]:=ck Tryz.func102
def Cd.nT:aD:=s [bx 1 0,o 2 (.alloc [.v (.slice none 0 0),.v (.slice none 0 0)])] [1,2]<|s [o 8 (.bslice 1 0 [.v (.slice none 0 0)] []),o 9 (.bslice 1 0 [.v (.slice none 0 0)] []),o 10 (.build [.v (.slice none 0 0),.v (.slice none 0 0)] [(0,1,8),(1,1,9)]),o 3 (.alloc [.v (.slice none 0 0),.v (.slice none 0
 0)]),⟨none,.store 2 3 10,none⟩] [1,2,3]<|.seq (s [fa 11 0 1,lf 12 1 11,ln 13 12,mi 14 0] [1,2,3,12,13,14]<|.block 0 (.loop (s [ls 15 14 13] [1,2,3,12,13,14,15]<|.seq (.cond 15 .skip (.exit 0))<|.seq (.block 1 (s [ix 16 1 12 14,lf 17 1 16,m 5 17] [1,2,3,5,12,13,14]<|.region [fa 18 0 3,lf 19 1 18,m 20
 5,c 21 F.kG [20],o 22 (.bslice 1 1 [.v (.slice none 0 0)] [(0,21)]),o 23 (.append 1 24 19 22),fa 24 0 3,⟨none,.store 1 24 23,none⟩] [1,2,3,12,13,14] [18,20,19,21,22,23]))<|.region [ad 25 14 1,m 14 25] [1,2,3,12,13,14] [])))<|.seq (s [fa 26 1 1,lf 27 1 26,ln 28 27,mi 29 0]
 [2,3,27,28,29]<|.block 2 (.loop (s [ls 30 29 28] [2,3,27,28,29,30]<|.seq (.cond 30 .skip (.exit 2))<|.seq (.block 3 (s [ix 31 1 27 29,lf 32 1 31,m 7 32] [2,3,7,27,28,29]<|.region [o 33 (.fieldV 1 3),o 34 (.loadV false 1 33),o 35 (.bslice 2 0 [.v (.string ⟨#[]⟩),.v (.int .i64 (0))] []),m 36 7,o 37
 (.appendC 2 24 35 36),o 38 (.bslice 1 1 [.v (.slice none 0 0)] [(0,37)]),o 39 (.append 1 24 34 38),fa 40 1 3,⟨none,.store 1 40 39,none⟩] [2,3,27,28,29] [33,35,34,36,37,1000033,1000034,38,39]))<|.region [ad 41 29 1,m 29 41] [2,3,27,28,29] [])))<|s [lt 42 2 3,⟨none,.store 2 2 42,none⟩] [2]<|.ret
theorem Cd.i_newOffice_k:CK 103 Tryz.f103 Cd.nT 43 [.cell 2 27]:=ck Tryz.func103
def Cd.tO:aD:=s [bx 4 1,bx 5 2,mn 6,mi 7 0] [0,4,5]<|.seq (s [lt 16 2 5,o 17 (.bslice 2 1 [.v (.int .i64 (0)),.v (.int .i64 (0))] [(0,16)]),m 18 0,c 19 F.vY [17,18],m 15 19,ex 20 15 0,ex 21 15 1,m 8 20,m 9 21] [0,4,5,9]<|s [m 22 9,nt 23 22,m 24 23,mg 25 0 24 false,⟨some 26,.load true 2 4,some
 (24,false)⟩,⟨some 27,.call (.func F.lL) [25,26] [],some (24,false)⟩,⟨some 28,.un .not 27,some (24,false)⟩,pt 29 24 28] [0,4,5,29]<|.cond 29 (s [mn 6,mi 7 8] [6,7]<|.ret) .skip)<|.seq (.naming 10 (.region [o 30 (.bslice 2 0 [.v (.string ⟨#[]⟩),.v (.int .i64 (0))] []),m 10 30] [0,4,5,10]
 []))<|.seq (s [m 31 0,lt 32 2 4,c 33 F.zD [31,32],ln 34 33,mi 35 0] [4,5,10,33,34,35]<|.block 0 (.loop (s [ls 36 35 34] [4,5,10,33,34,35,36]<|.seq (.cond 36 .skip (.exit 0))<|.seq (.block 1 (s [ix 37 1 33 35,lf 38 1 37,m 12 38] [4,5,10,12,33,34,35]<|s [lt 40 2 5,o 41 (.bslice 2 1 [.v (.int
 .i64 (0)),.v (.int .i64 (0))] [(0,40)]),m 42 12,c 43 F.vY [41,42],m 39 43,ex 44 39 0,ex 45 39 1,m 13 44,m 14 45] [4,5,10,12,13,33,34,35]<|.naming 10 (.region [m 46 10,m 47 12,o 48 (.idxSl 1 47 (k 0)),lt 49 1 48,lt 50 2 4,c 51 F.qZ [49,50],m 52 13,o 53 (.idxSl 1 52 (k 0)),lf 54 1
 53,o 55 (.build [.v (.string ⟨#[]⟩),.v (.int .i64 (0))] [(0,1,51),(1,1,54)]),o 56 (.bslice 2 1 [.v (.string ⟨#[]⟩),.v (.int .i64 (0))] [(0,55)]),o 57 (.append 2 24 46 56),m 10 57] [4,5,10,33,34,35] [46,47,48,49,50,51,52,53,54,55,56,57])))<|.region [ad 58 35 1,m 35 58] [4,5,10,33,34,35] [])))<|s [m 59
 10,m 6 59,mi 7 0] [6,7]<|.ret
theorem Cd.i_totalsOf_k:CK 104 Tryz.f104 Cd.tO 60 [.tmp 6,.tmp 7]:=ck Tryz.func104
def Cd.zG:aD:=s [bx 2 0,bx 3 1,mn 4,mi 5 0] [2,3]<|r [fa 10 0 2,lf 11 1 10,fa 12 1 3,lf 13 1 12,ix 14 1 11 13,lf 15 1 14,fa 16 0 2,lf 17 1 16,fa 18 2 3,lf 19 1 18,ix 20 1 17 19,lf 21 1 20,m 6 15,m 7 21] [3,6,7] [10,12,11,13,14,15,16,17,18,19,20,21,6]<|.seq (s [fa 22 0 3,lf 23 1 22] [3,6,7,23]<|.block 0 (s [en 25
 23 1,m 24 25] [3,6,7,23,24]<|.cond 24 (s [m 26 6,fa 27 4 3,lt 28 2 27,c 29 F.uB [26,28],ex 30 29 0,ex 31 29 1,m 4 30,m 5 31] [4,5]<|.ret) (s [en 33 23 2,m 32 33] [3,6,7,23,32]<|.cond 32 (s [m 34 6,m 35 7,fa 36 4 3,lt 37 2 36,c 38 F.oV [34,35,37],ex 39 38 0,ex 40 38 1,m 4 39,m
 5 40] [4,5]<|.ret) (s [en 42 23 5,m 41 42] [3,6,7,23,41]<|.cond 41 (s [m 43 6,fa 44 4 3,lt 45 2 44,fa 46 8 3,lf 47 1 46,c 48 F.mU [43,45,47],ex 49 48 0,ex 50 48 1,m 4 49,m 5 50] [4,5]<|.ret) (s [en 52 23 6,m 51 52] [3,6,7,51]<|.cond 51 (s [m 53 6,fa 54 4 3,lt 55 2 54,c 56
 F.jU [53,55],ex 57 56 0,ex 58 56 1,m 4 57,m 5 58] [4,5]<|.ret) .skip)))))<|s [m 60 6,m 61 7,fa 62 4 3,lt 63 2 62,c 64 F.oW [60,61,63],m 59 64,ex 65 59 0,ex 66 59 1,m 8 65,m 9 66] [3,8,9]<|.seq (.block 1 (s [m 68 9,ne 69 68 0,m 67 69] [3,8,9,67]<|.cond 67 (s [m 70 9,mn 4,m
 5 70] [4,5]<|.ret) (s [fa 72 0 3,lf 73 1 72,en 74 73 3,m 71 74] [8,71]<|.cond 71 (s [m 75 8,o 76 (.idxSl 1 75 (k 0)),lf 77 1 76,m 4 77,mi 5 0] [4,5]<|.ret) .skip)))<|s [m 78 8,o 79 (.idxSl 1 78 (k 2)),lf 80 1 79,m 4 80,mi 5 0] [4,5]<|.ret
theorem Cd.i_deckOf_k:CK 105 Tryz.f105 Cd.zG 81 [.tmp 4,.tmp 5]:=ck Tryz.func105
def Cd.yF:aD:=s [o 2 (.alloc [.v (.slice none 0 0),.v (.slice none 0 0)])] [0,2]<|s [m 5 0,c 6 F.pY [5],o 7 (.bslice 1 1 [.v (.slice none 0 0)] [(0,6)]),o 8 (.build [.v (.slice none 0 0),.v (.slice none 0 0)] [(0,1,7)]),o 3 (.alloc [.v (.slice none 0 0),.v (.slice none 0 0)]),⟨none,.store 2 3 8,none⟩]
 [2,3]<|.seq (s [mi 4 1] [2,3,4]<|.block 0 (.loop (.seq (s [m 9 4,o 10 (.bin .lss 9 (k 6))] [2,3,4,10]<|.cond 10 .skip (.exit 0))<|.seq (.block 1 (.region [fa 13 0 3,lf 14 1 13,o 15 (.bsliceC 1 0 [.v (.slice none 0 0)] []),o 16 (.bslice 1 1 [.v (.slice none 0 0)] [(0,15)]),o 17 (.append 1 24 14 16),fa
 18 0 3,⟨none,.store 1 18 17,none⟩] [2,3,4] []))<|.region [m 11 4,ad 12 11 1,m 4 12] [2,3,4] [])))<|s [lt 19 2 3,⟨none,.store 2 2 19,none⟩] [2]<|.ret
theorem Cd.s_l15New_k:CK 106 Tryz.f106 Cd.yF 20 [.cell 2 27]:=ck Tryz.func106
def Cd.vF:aD:=s [o 4 (.alloc [.v (.slice none 0 0),.v (.slice none 0 0)]),mi 5 0] [0,1,4]<|s [m 8 0,c 9 F.sO [8],o 6 (.alloc [.v (.slice none 0 0),.v (.slice none 0 0)]),⟨none,.store 2 6 9,none⟩] [1,4,6]<|.seq (s [mi 7 0] [1,4,6,7]<|.block 0 (.loop (.seq (s [m 10 7,m 11 1,ln 12 11,ls 13 10 12]
 [1,4,6,7,13]<|.cond 13 .skip (.exit 0))<|.seq (.block 1 (r [m 16 1,m 17 7,ix 18 9 16 17,c 19 F.jI [6],c 20 F.sD [18,19],nt 21 20,m 22 21,mg 23 1 22 false,mg 24 7 22 false,⟨some 25,.idxSl 9 23 24,some (22,false)⟩,⟨some 26,.call (.func F.xB) [6,25] [0],some
 (22,false)⟩,⟨some 27,.bin .neq 26 (k 0),some (22,false)⟩,pt 28 22 27] [1,4,6,7,28] [16,17,19,18,20,21,22,23,24,25,26,27,28,2000026]<|.cond 28 (s [lt 29 2 6,m 30 7,⟨none,.store 2 4 29,none⟩,m 5 30] [4,5]<|.ret) .skip))<|.region [m 14 7,ad 15 14 1,m 7 15] [1,4,6,7] [])))<|s [lt 31 2 6,m 32 1,ln 33
 32,⟨none,.store 2 4 31,none⟩,m 5 33] [4,5]<|.ret
theorem Cd.s_l15Run_k:CK 108 Tryz.f108 Cd.vF 34 [.cell 4 27,.tmp 5]:=ck Tryz.func108
def Cd.yJ:aD:=s [mi 4 0] [0,1]<|.seq (s [m 5 0,m 6 1,ls 7 5 6] [0,1,7]<|.cond 7 (s [m 8 0,m 4 8] [4]<|.ret) .skip)<|s [m 9 1,m 4 9] [4]<|.ret
theorem Cd.s_l00Min_k:CK 109 Tryz.f109 Cd.yJ 10 [.tmp 4]:=ck Tryz.func109
def Cd.nC:aD:=s [o 0 (.mv (.const (.string ⟨#[]⟩)))] []<|s [o 0 (.mv (.const (.string ⟨#[32,38,65,66,67,68,69,70,71,72,73,45,74,75,76,77,78,79,80,81,82,47,83,84,85,86,87,88,89,90,48,49,50,51,52,53,54,55,56,57]⟩)))] [0]<|.ret
theorem Cd.s_l03Order_k:CK 110 Tryz.f110 Cd.nC 1 [.tmp 0]:=ck Tryz.func110
def Cd.mR:aD:=s [mf 2] [0]<|s [m 3 0,c 4 F.strings_IndexByte [(.const (.string ⟨#[32,38,65,66,67,68,69,70,71,72,73,45,74,75,76,77,78,79,80,81,82,47,83,84,85,86,87,88,89,90,48,49,50,51,52,53,54,55,56,57]⟩)),3],o 5 (.bin .geq 4 (k 0)),m 2 5] [2]<|.ret
theorem Cd.i_isCharacter_k:CK 111 Tryz.f111 Cd.mR 6 [.tmp 2]:=ck Tryz.func111
def Cd.mQ:aD:=s [mi 2 0] [0]<|s [m 3 0,ln 4 3,m 2 4] [2]<|.ret
theorem Cd.i_size_int64__k:CK 112 Tryz.f112 Cd.mQ 5 [.tmp 2]:=ck Tryz.func112
def Cd.lM:aD:=s [mn 2] [0]<|s [o 3 (.bslice 1 0 [.v (.int .i64 (0))] []),m 4 0,o 5 (.append 1 8 3 4),m 2 5] [2]<|.ret
theorem Cd.i_copyInts_k:CK 113 Tryz.f113 Cd.lM 6 [.tmp 2]:=ck Tryz.func113
def Cd.l6:aD:=s [mf 4] [0,1]<|s [m 5 0,m 6 1,c 7 F.kF [5,6],o 8 (.bin .geq 7 (k 0)),m 4 8] [4]<|.ret
theorem Cd.ctf_int64_k:CK 114 Tryz.f114 Cd.l6 9 [.tmp 4]:=ck Tryz.func114
def Cd.fQ:aD:=s [mf 2] [0]<|s [m 3 0,ne 4 3 0,m 2 4] [2]<|.ret
theorem Cd.i_numberIn_1_k:CK 115 Tryz.f115 Cd.fQ 5 [.tmp 2]:=ck Tryz.func115
def Cd.fA:aD:=s [mi 2 0] [0]<|.seq (.block 0 (s [m 4 0,en 5 4 12,m 3 5] [0,3]<|.cond 3 (s [mi 2 1] [2]<|.ret) (s [m 7 0,en 8 7 11,m 6 8] [0,6]<|.cond 6 (s [mi 2 2] [2]<|.ret) (s [m 10 0,c 11 F.iN [10,(k 0),(k 9)],m 9 11] [0,9]<|.cond 9 (s [m 12 0,o 13 (.bin .shl (k 4) 12),m 2 13] [2]<|.ret) .skip))))<|s
 [mi 2 0] [2]<|.ret
theorem Cd.i_bitOf_k:CK 116 Tryz.f116 Cd.fA 14 [.tmp 2]:=ck Tryz.func116
def Cd.wF:aD:=s [mi 2 0] [0]<|.seq (s [mi 4 0] [0,4]<|.block 0 (.loop (s [o 5 (.bin .lss 4 (k 10))] [0,4,5]<|.seq (.cond 5 .skip (.exit 0))<|.seq (.block 1 (s [m 6 4,m 3 6] [0,3,4]<|s [m 7 3,c 8 F.fA [7],m 9 0,o 10 (.bin .eql 8 9)] [0,3,4,10]<|.cond 10 (s [m 11 3,m 2 11] [2]<|.ret) .skip))<|.region [ad 12
 4 1,m 4 12] [0,4] [])))<|s [mi 2 (-1)] [2]<|.ret
theorem Cd.i_digitOf_k:CK 117 Tryz.f117 Cd.wF 13 [.tmp 2]:=ck Tryz.func117
def Cd.rA:aD:=s [mn 2] [0]<|s [m 3 0,c 4 F.aAm [3],c 5 F.tZ [4],m 6 0,c 7 F.aAm [6],c 8 F.oQ [5,7],o 9 (.field false 0 1 8),m 2 9] [2]<|.ret
theorem Cd.i_digitList_k:CK 118 Tryz.f118 Cd.rA 10 [.tmp 2]:=ck Tryz.func118
def Cd.pW:aD:=s [mi 2 0] [0]<|s [m 4 0,o 5 (.conv .i64 4),m 3 5] [0,3]<|.seq (.block 0 (s [m 7 0,o 8 (.bin .eql 7 (.const (.int .u8 (32)))),m 6 8] [0,3,6]<|.cond 6 (s [mi 2 0] [2]<|.ret) (s [m 10 0,o 11 (.bin .eql 10 (.const (.int .u8 (38)))),m 9 11] [0,3,9]<|.cond 9 (s [mi 2 1] [2]<|.ret) (s [m 13 0,o 14 (.bin
 .eql 13 (.const (.int .u8 (45)))),m 12 14] [0,3,12]<|.cond 12 (s [mi 2 2] [2]<|.ret) (s [m 16 0,o 17 (.bin .eql 16 (.const (.int .u8 (47)))),m 15 17] [0,3,15]<|.cond 15 (s [c 18 F.jP [(k 1)],o 19 (.bin .or (k 4) 18),m 2 19] [2]<|.ret) (s [m 21 0,c 22 F.p8 [21],m 20 22]
 [0,3,20]<|.cond 20 (s [m 23 3,o 24 (.bin .sub 23 (k 48)),c 25 F.jP [24],m 2 25] [2]<|.ret) (s [m 27 0,o 28 (.bin .geq 27 (.const (.int .u8 (65)))),m 29 28,mg 30 0 29 true,⟨some 31,.bin .leq 30 (.const (.int .u8 (73))),some (29,true)⟩,pf 32 29 31,m 26 32] [0,3,26]<|.cond 26 (s [m 33 3,o 34
 (.bin .sub 33 (k 65)),ad 35 34 1,c 36 F.jP [35],o 37 (.bin .or (k 1) 36),m 2 37] [2]<|.ret) (s [m 39 0,o 40 (.bin .geq 39 (.const (.int .u8 (74)))),m 41 40,mg 42 0 41 true,⟨some 43,.bin .leq 42 (.const (.int .u8 (82))),some (41,true)⟩,pf 44 41 43,m 38 44] [0,3,38]<|.cond 38 (s [m 45 3,o 46
 (.bin .sub 45 (k 74)),ad 47 46 1,c 48 F.jP [47],o 49 (.bin .or (k 2) 48),m 2 49] [2]<|.ret) (s [m 51 0,o 52 (.bin .geq 51 (.const (.int .u8 (83)))),m 53 52,mg 54 0 53 true,⟨some 55,.bin .leq 54 (.const (.int .u8 (90))),some (53,true)⟩,pf 56 53 55,m 50 56] [3,50]<|.cond 50 (s [m 57 3,o 58
 (.bin .sub 57 (k 83)),ad 59 58 2,c 60 F.jP [59],o 61 (.bin .or (k 4) 60),m 2 61] [2]<|.ret) .skip)))))))))<|s [mi 2 (-1)] [2]<|.ret
theorem Cd.s_l03Code_k:CK 119 Tryz.f119 Cd.pW 62 [.tmp 2]:=ck Tryz.func119
def Cd.sS:aD:=s [mi 2 0] [0]<|.seq (s [mi 3 0] [0,3]<|.block 0 (.loop (.seq (s [m 4 3,o 5 (.bin .leq 4 (k 9))] [0,3,5]<|.cond 5 .skip (.exit 0))<|.seq (.block 1 (s [m 8 0,m 9 3,c 10 F.jP [9],o 11 (.bin .eql 8 10)] [0,3,11]<|.cond 11 (s [m 12 3,m 2 12] [2]<|.ret) .skip))<|.region [m 6 3,ad 7 6 1,m 3 7]
 [0,3] [])))<|s [mi 2 (-1)] [2]<|.ret
theorem Cd.s_l03Digit_k:CK 120 Tryz.f120 Cd.sS 13 [.tmp 2]:=ck Tryz.func120
def Cd.pX:aD:=s [o 2 (.alloc [.v (.slice none 0 0)])] [0,2]<|s [o 5 (.build [.v (.slice none 0 0)] []),o 3 (.alloc [.v (.slice none 0 0)]),⟨none,.store 1 3 5,none⟩] [0,2,3]<|.seq (s [mi 4 0] [0,2,3,4]<|.block 0 (.loop (.seq (s [m 6 4,m 7 0,o 8 (.lenS 7),ls 9 6 8] [0,2,3,4,9]<|.cond 9 .skip (.exit 0))<|.seq (.block
 1 (.region [fa 12 0 3,lf 13 1 12,m 14 0,m 15 4,o 16 (.idxStr 14 15),c 17 F.pW [16],o 18 (.bslice 1 1 [.v (.int .i64 (0))] [(0,17)]),o 19 (.append 1 8 13 18),fa 20 0 3,⟨none,.store 1 20 19,none⟩] [0,2,3,4] [12,14,13,15,16,17,18,19]))<|.region [m 10 4,ad 11 10 1,m 4 11] [0,2,3,4] [])))<|s [lt
 21 1 3,⟨none,.store 1 2 21,none⟩] [2]<|.ret
theorem Cd.s_l03Card_k:CK 121 Tryz.f121 Cd.pX 22 [.cell 2 104]:=ck Tryz.func121
def Cd.vI:aD:=s [mn 4,mf 5] [0,1]<|s [m 9 1,o 10 (.mk 1 8 [.v (.int .i64 (0))] 9),m 6 10] [0,1,6]<|s [m 11 0,m 7 11] [0,1,6,7]<|.seq (s [m 12 0,o 13 (.bin .lss 12 (k 0))] [0,1,6,7,13]<|.cond 13 (.region [m 14 0,o 15 (.un .neg 14),m 7 15] [0,1,6,7] []) .skip)<|.seq (s [m 16 1,o 17 (.bin .sub 16 (k 1)),m 8 17]
 [0,1,6,7,8]<|.block 0 (.loop (.seq (s [m 18 8,o 19 (.bin .geq 18 (k 0))] [0,1,6,7,8,19]<|.cond 19 .skip (.exit 0))<|.seq (.block 1 (s [m 22 6,m 23 8,m 24 7,o 25 (.bin .rem 24 (k 10)),c 26 F.jP [25],ix 27 1 22 23,⟨none,.store 1 27 26,none⟩] [0,1,6,7,8]<|.region [m 28 7,o 29 (.bin .quo 28 (k
 10)),m 7 29] [0,1,6,7,8] []))<|.region [m 20 8,o 21 (.bin .sub 20 (k 1)),m 8 21] [0,1,6,7,8] [])))<|.seq (s [m 30 0,o 31 (.bin .lss 30 (k 0))] [1,6,7,31]<|.cond 31 (.region [m 32 6,m 33 1,o 34 (.bin .sub 33 (k 1)),ix 35 1 32 34,lf 36 1 35,o 37 (.bin .or 36 (k 2)),ix 38 1 32 34,⟨none,.store 1 38
 37,none⟩] [6,7] []) .skip)<|s [m 39 6,m 40 7,en 41 40 0,m 4 39,m 5 41] [4,5]<|.ret
theorem Cd.s_l03Put_k:CK 122 Tryz.f122 Cd.vI 42 [.tmp 4,.tmp 5]:=ck Tryz.func122
def Cd.eT:aD:=s [mf 2] [0]<|s [m 3 0,c 4 F.iN [3,(k 0),(k 4095)],nt 5 4,m 2 5] [2]<|.ret
theorem Cd.i_ValidCard_1_k:CK 123 Tryz.f123 Cd.eT 6 [.tmp 2]:=ck Tryz.func123
def Cd.kG:aD:=s [mn 2] [0]<|.seq (.naming 3 (.region [o 6 (.bslice 1 0 [.v (.slice none 0 0)] []),m 3 6] [0,3] []))<|.seq (s [m 7 0,ln 8 7,mi 9 0] [3,7,8,9]<|.block 0 (.loop (s [ls 10 9 8] [3,7,8,9,10]<|.seq (.cond 10 .skip (.exit 0))<|.seq (.block 1 (s [ix 11 1 7 9,lt 12 1 11,o 5 (.alloc [.v (.slice none 0
 0)]),⟨none,.store 1 5 12,none⟩] [3,5,7,8,9]<|.naming 3 (.region [m 13 3,lt 14 1 5,c 15 F.qD [14],o 16 (.bslice 1 1 [.v (.slice none 0 0)] [(0,15)]),o 17 (.append 1 24 13 16),m 3 17] [3,7,8,9] [])))<|.region [ad 18 9 1,m 9 18] [3,7,8,9] [])))<|s [m 19 3,m 2 19] [2]<|.ret
theorem Cd.i_newDeck_k:CK 131 Tryz.f131 Cd.kG 20 [.tmp 2]:=ck Tryz.func131
def Cd.vY:aD:=s [mn 4,mf 5] [0,1]<|.seq (.naming 6 (.region [o 14 (.bslice 1 0 [.v (.int .i64 (0))] []),m 6 14] [0,1,6] []))<|.seq (s [m 15 0,ln 16 15,mi 17 0] [1,6,15,16,17]<|.block 0 (.loop (s [ls 18 17 16] [1,6,15,16,17,18]<|.seq (.cond 18 .skip (.exit 0))<|.seq (.block 1 (s [ix 19 2 15 17,lt 20 2 19,o 8
 (.alloc [.v (.int .i64 (0)),.v (.int .i64 (0))]),⟨none,.store 2 8 20,none⟩] [1,6,8,15,16,17]<|s [mi 9 0] [1,6,8,9,15,16,17]<|.seq (s [m 21 1,ln 22 21,mi 23 0] [1,6,8,9,15,16,17,21,22,23]<|.block 2 (.loop (s [ls 24 23 22] [1,6,8,9,15,16,17,21,22,23,24]<|.seq (.cond 24 .skip (.exit 2))<|.seq (.block 3
 (s [ix 25 1 21 23,lt 26 1 25,o 11 (.alloc [.v (.slice none 0 0)]),⟨none,.store 1 11 26,none⟩] [1,6,8,9,11,15,16,17,21,22,23]<|s [lt 28 1 11,lt 29 2 8,c 30 F.nH [28,29],m 27 30,ex 31 27 0,ex 32 27 1,m 12 31,m 13 32] [1,6,8,9,12,13,15,16,17,21,22,23]<|.seq (s [m 33 13,nt 34 33]
 [1,6,8,9,12,15,16,17,21,22,23,34]<|.cond 34 (s [mn 4,mf 5] [4,5]<|.ret) .skip)<|.region [m 35 9,m 36 12,o 37 (.bin .add 35 36),m 9 37] [1,6,8,9,15,16,17,21,22,23] []))<|.region [ad 38 23 1,m 23 38] [1,6,8,9,15,16,17,21,22,23] [])))<|.naming 6 (.region [m 39 6,m 40 9,o 41 (.bslice 1 1 [.v (.int .i64
 (0))] [(0,40)]),o 42 (.append 1 8 39 41),m 6 42] [1,6,15,16,17] [])))<|.region [ad 43 17 1,m 17 43] [1,6,15,16,17] [])))<|s [m 44 6,m 4 44,mt 5] [4,5]<|.ret
theorem Cd.i_sumsOf_k:CK 132 Tryz.f132 Cd.vY 45 [.tmp 4,.tmp 5]:=ck Tryz.func132
def Cd.lL:aD:=s [bx 3 1,mf 4] [0,3]<|s [m 5 0,o 6 (.mkfn F.eO [3]),c 7 F.uG [5,6],nt 8 7,m 4 8] [4]<|.ret
theorem Cd.i_haveField_k:CK 133 Tryz.f133 Cd.lL 9 [.tmp 4]:=ck Tryz.func133
def Cd.zD:aD:=s [bx 3 1,mn 4] [0,3]<|.seq (.naming 5 (.region [o 10 (.bslice 1 0 [.v (.slice none 0 0)] []),m 11 0,lt 12 2 3,c 13 F.qE [11,12],m 5 10,m 6 13] [0,5,6] []))<|.seq (s [m 14 6,ln 15 14,mi 16 0] [0,5,6,14,15,16]<|.block 0 (.loop (s [ls 17 16 15] [0,5,6,14,15,16,17]<|.seq (.cond 17 .skip
 (.exit 0))<|.seq (.block 1 (s [m 18 16,ix 19 1 14 16,lf 20 1 19,m 7 18,m 8 20] [0,5,6,7,8,14,15,16]<|s [m 21 0,c 22 F.iY [21],m 9 22] [0,5,6,7,8,9,14,15,16]<|.seq (s [m 23 7,ad 24 23 1,m 25 6,ln 26 25,ls 27 24 26] [0,5,6,7,8,9,14,15,16,27]<|.cond 27 (.region [m 28 6,m 29 7,ad 30 29
 1,ix 31 1 28 30,lf 32 1 31,m 9 32] [0,5,6,8,9,14,15,16] []) .skip)<|.naming 5 (.region [m 33 5,m 34 0,m 35 8,m 36 9,o 37 (.slc 1 34 (some 35) (some 36)),o 38 (.bslice 1 1 [.v (.slice none 0 0)] [(0,37)]),o 39 (.append 1 24 33 38),m 5 39] [0,5,6,14,15,16] [])))<|.region [ad 40 16 1,m 16 40]
 [0,5,6,14,15,16] [])))<|s [m 41 5,m 4 41] [4]<|.ret
theorem Cd.i_groups_k:CK 134 Tryz.f134 Cd.zD 42 [.tmp 4]:=ck Tryz.func134
def Cd.qZ:aD:=s [bx 2 0,bx 3 1,o 4 (.mv (.const (.string ⟨#[]⟩)))] [2,3]<|s [fa 5 0 2,lf 6 1 5,fa 7 0 3,lf 8 1 7,fa 9 1 3,lf 10 1 9,o 11 (.slc 1 6 (some 8) (some 10)),c 12 F.zC [11],m 4 12] [4]<|.ret
theorem Cd.i_fieldText_k:CK 135 Tryz.f135 Cd.qZ 13 [.tmp 4]:=ck Tryz.func135
def Cd.uB:aD:=s [bx 3 1,mn 4,mi 5 0] [0,3]<|.seq (s [m 7 0,lt 8 2 3,c 9 F.tT [7,8],m 6 9] [0,3,6]<|s [m 10 6,ne 11 10 0] [0,3,6,11]<|.cond 11 (s [m 12 6,mn 4,m 5 12] [4,5]<|.ret) .skip)<|s [m 13 0,lt 14 2 3,c 15 F.qC [13,14],m 4 15,mi 5 0] [4,5]<|.ret
theorem Cd.i_SortedBy_k:CK 136 Tryz.f136 Cd.uB 16 [.tmp 4,.tmp 5]:=ck Tryz.func136
def Cd.oV:aD:=s [bx 5 2,mn 6,mi 7 0] [0,1,5]<|s [lt 9 2 5,m 10 0,m 11 1,o 12 (.bslice 1 2 [.v (.slice none 0 0)] [(0,10),(1,11)]),c 13 F.eQ [9,(.const (.bool true)),(.const (.slice none 0 0)),12],m 8 13] [0,1,5,8]<|.seq (.block 0 (s [m 15 8,ne 16 15 0,m 14 16] [0,1,5,8,14]<|.cond 14 (s [m 17 8,mn 6,m
 7 17] [6,7]<|.ret) (s [m 19 0,ln 20 19,o 21 (.bin .gtr 20 (k 0)),m 22 21,mg 23 1 22 true,⟨some 24,.len 23,some (22,true)⟩,⟨some 25,.bin .gtr 24 (k 0),some (22,true)⟩,pf 26 22 25,m 27 26,mg 28 0 27 true,⟨some 29,.call (.func F.eP) [28] [],some (27,true)⟩,mg 30 1 27 true,⟨some 31,.call
 (.func F.eP) [30] [],some (27,true)⟩,⟨some 32,.bin .neq 29 31,some (27,true)⟩,pf 33 27 32,m 18 33] [0,1,5,18]<|.cond 18 (s [mn 6,mi 7 9] [6,7]<|.ret) (s [m 35 0,lt 36 2 5,c 37 F.gD [35,36],nt 38 37,m 39 38,mg 40 1 39 false,⟨some 41,.load true 2 5,some (39,false)⟩,⟨some
 42,.call (.func F.gD) [40,41] [],some (39,false)⟩,⟨some 43,.un .not 42,some (39,false)⟩,pt 44 39 43,m 34 44] [0,1,5,34]<|.cond 34 (s [mn 6,mi 7 6] [6,7]<|.ret) (s [m 46 0,ln 47 46,m 48 1,ln 49 48,o 50 (.bin .add 47 49),o 51 (.bin .gtr 50 (k 40)),m 45 51] [0,1,5,45]<|.cond 45 (s [mn 6,mi
 7 5] [6,7]<|.ret) .skip)))))<|r [m 52 0,c 53 F.kG [52],m 54 1,o 55 (.append 1 24 53 54),o 56 (.loadV true 2 5),c 57 F.qC [55,56],m 6 57,mi 7 0] [6,7] [52,54,53,55,56,1000056,57]<|.ret
theorem Cd.i_MergeDecks_k:CK 137 Tryz.f137 Cd.oV 58 [.tmp 6,.tmp 7]:=ck Tryz.func137
def Cd.mU:aD:=s [bx 4 1,mn 6,mi 7 0] [0,2,4]<|s [m 8 0,lt 9 2 4,m 10 2,m 11 2,c 12 F.jT [8,9,10,11],ex 13 12 0,ex 14 12 1,m 6 13,m 7 14] [6,7]<|.ret
theorem Cd.i_SelectEqual_k:CK 138 Tryz.f138 Cd.mU 15 [.tmp 6,.tmp 7]:=ck Tryz.func138
def Cd.jU:aD:=s [bx 3 1,mn 4,mi 5 0] [0,3]<|.seq (s [lt 10 2 3,m 11 0,o 12 (.bslice 1 1 [.v (.slice none 0 0)] [(0,11)]),c 13 F.eQ [10,(.const (.bool true)),(.const (.slice none 0 0)),12],m 6 13] [0,3,6]<|s [m 14 6,ne 15 14 0] [0,3,6,15]<|.cond 15 (s [m 16 6,mn 4,m 5 16] [4,5]<|.ret) .skip)<|.seq
 (.naming 7 (.region [o 17 (.bslice 1 0 [.v (.slice none 0 0)] []),m 7 17] [0,3,7] []))<|.seq (s [m 18 0,lt 19 2 3,c 20 F.qE [18,19],ln 21 20,mi 22 0] [0,7,20,21,22]<|.block 0 (.loop (s [ls 23 22 21] [0,7,20,21,22,23]<|.seq (.cond 23 .skip (.exit 0))<|.seq (.block 1 (s [ix 24 1 20 22,lf 25
 1 24,m 9 25] [0,7,9,20,21,22]<|.naming 7 (.region [m 26 7,m 27 0,m 28 9,ix 29 1 27 28,lt 30 1 29,c 31 F.qD [30],o 32 (.bslice 1 1 [.v (.slice none 0 0)] [(0,31)]),o 33 (.append 1 24 26 32),m 7 33] [0,7,20,21,22] [])))<|.region [ad 34 22 1,m 22 34] [0,7,20,21,22] [])))<|s [m 35 7,m 4 35,mi 5
 0] [4,5]<|.ret
theorem Cd.i_FirstOfGroups_k:CK 139 Tryz.f139 Cd.jU 36 [.tmp 4,.tmp 5]:=ck Tryz.func139
def Cd.oW:aD:=s [bx 5 2,mn 6,mi 7 0] [0,1,5]<|s [lt 10 2 5,m 11 0,m 12 1,o 13 (.bslice 1 2 [.v (.slice none 0 0)] [(0,11),(1,12)]),c 14 F.eQ [10,(.const (.bool true)),(.const (.slice none 0 0)),13],m 8 14] [0,1,5,8]<|.seq (.block 0 (s [m 16 8,ne 17 16 0,m 15 17] [0,1,5,8,15]<|.cond 15 (s [m 18 8,mn
 6,m 7 18] [6,7]<|.ret) (s [m 20 0,lt 21 2 5,c 22 F.gD [20,21],nt 23 22,m 24 23,mg 25 1 24 false,⟨some 26,.load true 2 5,some (24,false)⟩,⟨some 27,.call (.func F.gD) [25,26] [],some (24,false)⟩,⟨some 28,.un .not 27,some (24,false)⟩,pt 29 24 28,m 19 29] [0,1,5,19]<|.cond 19
 (s [mn 6,mi 7 6] [6,7]<|.ret) .skip)))<|s [o 30 (.mkfn F.lQ [5]),m 9 30] [0,1,9]<|s [m 31 9,m 32 0,m 33 1,o 34 (.call 31 [32,33,(.const (.bool true))] []),m 35 9,m 36 1,m 37 0,o 38 (.call 35 [36,37,(.const (.bool true))] []),m 39 9,m 40 0,m 41 1,o 42 (.call 39 [40,41,(.const (.bool
 false))] []),m 43 9,m 44 1,m 45 0,o 46 (.call 43 [44,45,(.const (.bool false))] []),o 47 (.bslice 1 4 [.v (.slice none 0 0)] [(0,34),(1,38),(2,42),(3,46)]),m 6 47,mi 7 0] [6,7]<|.ret
theorem Cd.i_MatchDecks_k:CK 140 Tryz.f140 Cd.oW 48 [.tmp 6,.tmp 7]:=ck Tryz.func140
def Cd.pY:aD:=s [mn 2] [0]<|.seq (.naming 3 (.region [o 5 (.bslice 1 0 [.v (.slice none 0 0)] []),m 3 5] [0,3] []))<|.seq (s [mi 4 0] [0,3,4]<|.block 0 (.loop (.seq (s [m 6 4,m 7 0,ln 8 7,ls 9 6 8] [0,3,4,9]<|.cond 9 .skip (.exit 0))<|.seq (.block 1 (.naming 3 (.region [m 12 3,m 13 0,m 14 4,ix 15 1 13 14,c 16
 F.jO [15],o 17 (.bslice 1 1 [.v (.slice none 0 0)] [(0,16)]),o 18 (.append 1 24 12 17),m 3 18] [0,3,4] [])))<|.region [m 10 4,ad 11 10 1,m 4 11] [0,3,4] [])))<|s [m 19 3,m 2 19] [2]<|.ret
theorem Cd.s_l02Copy_k:CK 141 Tryz.f141 Cd.pY 20 [.tmp 2]:=ck Tryz.func141
def Cd.sO:aD:=s [o 2 (.alloc [.v (.slice none 0 0),.v (.slice none 0 0)])] [0,2]<|s [o 6 (.build [.v (.slice none 0 0),.v (.slice none 0 0)] []),o 3 (.alloc [.v (.slice none 0 0),.v (.slice none 0 0)]),⟨none,.store 2 3 6,none⟩] [0,2,3]<|.seq (s [mi 4 0] [0,2,3,4]<|.block 0 (.loop (.seq (s [m 7 4,m 8 0,nc 9 8,fa 10
 0 9,lf 11 1 10,ln 12 11,ls 13 7 12] [0,2,3,4,13]<|.cond 13 .skip (.exit 0))<|.seq (.block 1 (.region [fa 16 0 3,lf 17 1 16,m 18 0,nc 19 18,fa 20 0 19,lf 21 1 20,m 22 4,ix 23 1 21 22,lf 24 1 23,c 25 F.pY [24],o 26 (.bslice 1 1 [.v (.slice none 0 0)] [(0,25)]),o 27 (.append 1 24 17 26),fa 28
 0 3,⟨none,.store 1 28 27,none⟩] [0,2,3,4] [16,18,17,19,20,21,22,23,24,25,26,27]))<|.region [m 14 4,ad 15 14 1,m 4 15] [0,2,3,4] [])))<|.seq (s [mi 5 0] [0,2,3,5]<|.block 2 (.loop (.seq (s [m 29 5,m 30 0,nc 31 30,fa 32 1 31,lf 33 1 32,ln 34 33,ls 35 29 34] [0,2,3,5,35]<|.cond 35 .skip (.exit 2))<|.seq
 (.block 3 (.region [o 38 (.fieldV 1 3),o 39 (.loadV false 1 38),o 40 (.bslice 2 0 [.v (.string ⟨#[]⟩),.v (.int .i64 (0))] []),m 41 0,nc 42 41,fa 43 1 42,lf 44 1 43,m 45 5,ix 46 1 44 45,lf 47 1 46,o 48 (.appendC 2 24 40 47),o 49 (.bslice 1 1 [.v (.slice none 0 0)] [(0,48)]),o 50 (.append 1 24 39
 49),fa 51 1 3,⟨none,.store 1 51 50,none⟩] [0,2,3,5] [38,40,39,41,42,43,44,45,46,47,48,1000038,1000039,49,50]))<|.region [m 36 5,ad 37 36 1,m 5 37] [0,2,3,5] [])))<|s [lt 52 2 3,⟨none,.store 2 2 52,none⟩] [2]<|.ret
theorem Cd.s_l15Own_k:CK 142 Tryz.f142 Cd.sO 53 [.cell 2 27]:=ck Tryz.func142
def Cd.strings_IndexByte:aD:=s [mi 4 0] [0,1]<|s [m 5 0,m 6 1,c 7 F.bQ [5,6],m 4 7] [4]<|.ret
theorem Cd.strings_IndexByte_k:CK 144 Tryz.f144 Cd.strings_IndexByte 8 [.tmp 4]:=ck Tryz.func144
def Cd.kF:aD:=s [mi 4 0] [0,1]<|.seq (s [m 6 0,ln 7 6,mi 8 0] [0,1,7,8]<|.block 0 (.loop (s [ls 9 8 7] [0,1,7,8,9]<|.seq (.cond 9 .skip (.exit 0))<|.seq (.block 1 (s [m 10 8,m 5 10] [0,1,5,7,8]<|s [m 11 1,m 12 0,m 13 5,ix 14 1 12 13,lf 15 1 14,o 16 (.call 11 [15] [])] [0,1,5,7,8,16]<|.cond 16 (s [m 17 5,m 4 17]
 [4]<|.ret) .skip))<|.region [ad 18 8 1,m 8 18] [0,1,7,8] [])))<|s [mi 4 (-1)] [4]<|.ret
theorem Cd.ixf_int64_k:CK 145 Tryz.f145 Cd.kF 19 [.tmp 4]:=ck Tryz.func145
def Cd.oQ:aD:=s [o 4 (.alloc [.v (.slice none 0 0)])] [0,1,4]<|s [o 6 (.bslice 1 0 [.v (.int .i64 (0))] []),o 7 (.build [.v (.slice none 0 0)] [(0,1,6)]),o 5 (.alloc [.v (.slice none 0 0)]),⟨none,.store 1 5 7,none⟩] [0,1,4,5]<|.seq (s [m 8 0,mi 9 0] [1,4,5,8,9]<|.block 0 (.loop (s [ls 10 9 8] [1,4,5,8,9,10]<|.seq
 (.cond 10 .skip (.exit 0))<|.seq (.block 1 (s [fa 11 0 5,lf 12 1 11,m 13 1,o 14 (.bin .rem 13 (k 10)),o 15 (.bslice 1 1 [.v (.int .i64 (0))] [(0,14)]),o 16 (.append 1 8 12 15),fa 17 0 5,⟨none,.store 1 17 16,none⟩] [1,4,5,8,9]<|.region [m 18 1,o 19 (.bin .quo 18 (k 10)),m 1 19] [1,4,5,8,9]
 []))<|.region [ad 20 9 1,m 9 20] [1,4,5,8,9] [])))<|s [lt 21 1 5,⟨none,.store 1 4 21,none⟩] [4]<|.ret
theorem Cd.i_wheelsShow_k:CK 146 Tryz.f146 Cd.oQ 22 [.cell 4 164]:=ck Tryz.func146
def Cd.tZ:aD:=s [mi 2 0] [0]<|s [m 3 0,c 4 F.l5 [3],o 5 (.lenS 4),m 2 5] [2]<|.ret
theorem Cd.i_digitsOf_k:CK 147 Tryz.f147 Cd.tZ 6 [.tmp 2]:=ck Tryz.func147
def Cd.aAm:aD:=s [mi 2 0] [0]<|s [m 3 0,m 4 0,o 5 (.un .neg 4),o 6 (.mm true 3 5),m 2 6] [2]<|.ret
theorem Cd.i_absOf_k:CK 148 Tryz.f148 Cd.aAm 7 [.tmp 2]:=ck Tryz.func148
def Cd.jP:aD:=s [mi 2 0] [0]<|.seq (.block 0 (s [m 4 0,en 5 4 12,m 3 5] [0,3]<|.cond 3 (s [mi 2 1] [2]<|.ret) (s [m 7 0,en 8 7 11,m 6 8] [0,6]<|.cond 6 (s [mi 2 2] [2]<|.ret) (s [m 10 0,c 11 F.kR [10,(k 0),(k 9)],m 9 11] [0,9]<|.cond 9 (s [m 12 0,o 13 (.conv .u64 12),o 14 (.bin .shl (k 4) 13),m 2 14]
 [2]<|.ret) .skip))))<|s [mi 2 0] [2]<|.ret
theorem Cd.s_l02Bit_k:CK 149 Tryz.f149 Cd.jP 15 [.tmp 2]:=ck Tryz.func149
def Cd.qD:aD:=s [bx 1 0,o 2 (.alloc [.v (.slice none 0 0)])] [1,2]<|s [fa 3 0 1,lf 4 1 3,c 5 F.lM [4],o 6 (.build [.v (.slice none 0 0)] [(0,1,5)]),⟨none,.store 1 2 6,none⟩] [2]<|.ret
theorem Cd.i_newCard_k:CK 164 Tryz.f164 Cd.qD 7 [.cell 2 104]:=ck Tryz.func164
def Cd.uG:aD:=s [mf 4] [0,1]<|s [m 5 0,m 6 1,c 7 F.mO [5,6],o 8 (.bin .geq 7 (k 0)),m 4 8] [4]<|.ret
theorem Cd.ctf_Card_k:CK 165 Tryz.f165 Cd.uG 9 [.tmp 4]:=ck Tryz.func165
def Cd.eO:aD:=s [bx 2 0,mf 3] [1,2]<|s [lt 4 1 2,lt 5 2 1,c 6 F.tX [4,5],nt 7 6,m 3 7] [3]<|.ret
theorem Cd.i_haveField_1_k:CK 166 Tryz.f166 Cd.eO 8 [.tmp 3]:=ck Tryz.func166
def Cd.tX:aD:=s [bx 2 0,bx 3 1,mf 4] [2,3]<|s [fa 5 0 2,lf 6 1 5,fa 7 0 3,lf 8 1 7,fa 9 1 3,lf 10 1 9,o 11 (.slc 1 6 (some 8) (some 10)),c 12 F.jS [11],m 4 12] [4]<|.ret
theorem Cd.i_hasField_k:CK 167 Tryz.f167 Cd.tX 13 [.tmp 4]:=ck Tryz.func167
def Cd.qE:aD:=s [bx 3 1,mn 4] [0,3]<|.seq (.naming 5 (.region [o 8 (.bslice 1 0 [.v (.int .i64 (0))] []),m 5 8] [0,3,5] []))<|.seq (s [m 9 0,ln 10 9,mi 11 0] [0,3,5,9,10,11]<|.block 0 (.loop (s [ls 12 11 10] [0,3,5,9,10,11,12]<|.seq (.cond 12 .skip (.exit 0))<|.seq (.block 1 (s [m 13 11,ix 14 1 9 11,lt 15 1 14,o 7
 (.alloc [.v (.slice none 0 0)]),m 6 13,⟨none,.store 1 7 15,none⟩] [0,3,5,6,7,9,10,11]<|r [m 16 6,en 17 16 0,m 18 17,mg 19 0 18 false,mg 20 6 18 false,⟨some 21,.bin .sub 20 (k 1),some (18,false)⟩,⟨some 22,.idxSl 1 19 21,some (18,false)⟩,⟨some 23,.load true 1 22,some (18,false)⟩,⟨some 24,.load true 1
 7,some (18,false)⟩,⟨some 25,.load true 2 3,some (18,false)⟩,⟨some 26,.call (.func F.dR) [23,24,25] [],some (18,false)⟩,⟨some 27,.bin .neq 26 (k 0),some (18,false)⟩,pt 28 18 27] [0,3,5,6,9,10,11,28] [16,18,19,17,20,21,22,23,24,25,26,27,28]<|.cond 28 (.naming 5 (.region [m 29 5,m 30 6,o
 31 (.bslice 1 1 [.v (.int .i64 (0))] [(0,30)]),o 32 (.append 1 8 29 31),m 5 32] [0,3,5,9,10,11] [])) .skip))<|.region [ad 33 11 1,m 11 33] [0,3,5,9,10,11] [])))<|s [m 34 5,m 4 34] [4]<|.ret
theorem Cd.i_groupsOf_k:CK 168 Tryz.f168 Cd.qE 35 [.tmp 4]:=ck Tryz.func168
def Cd.zC:aD:=s [o 2 (.mv (.const (.string ⟨#[]⟩)))] [0]<|.seq (.naming 3 (.region [o 6 (.bslice 1 0 [.v (.int .u8 (0))] []),m 3 6] [0,3] []))<|.seq (s [m 7 0,ln 8 7,mi 9 0] [3,7,8,9]<|.block 0 (.loop (s [ls 10 9 8] [3,7,8,9,10]<|.seq (.cond 10 .skip (.exit 0))<|.seq (.block 1 (s [ix 11 1 7 9,lf 12 1 11,m 5 12]
 [3,5,7,8,9]<|.naming 3 (.region [m 13 3,m 14 5,c 15 F.qX [14],o 16 (.idxStr (.const (.string ⟨#[32,38,65,66,67,68,69,70,71,72,73,45,74,75,76,77,78,79,80,81,82,47,83,84,85,86,87,88,89,90,48,49,50,51,52,53,54,55,56,57]⟩)) 15),o 17 (.bslice 1 1 [.v (.int .u8 (0))] [(0,16)]),o 18 (.append 1 1 13
 17),m 3 18] [3,7,8,9] [])))<|.region [ad 19 9 1,m 9 19] [3,7,8,9] [])))<|s [m 20 3,o 21 (.b2s 20),m 2 21] [2]<|.ret
theorem Cd.i_textOf_k:CK 169 Tryz.f169 Cd.zC 22 [.tmp 2]:=ck Tryz.func169
def Cd.tT:aD:=s [bx 3 1,mi 4 0] [0,3]<|.seq (.block 0 (s [m 6 0,c 7 F.jF [6],nt 8 7,m 5 8] [0,3,5]<|.cond 5 (s [mi 4 1] [4]<|.ret) (r [lt 10 2 3,m 11 0,c 12 F.eP [11],c 13 F.nU [10,12],nt 14 13,m 9 14] [0,3,9] [10,11,12,13,14,9]<|.cond 9 (s [mi 4 2] [4]<|.ret) (s [m 16 0,lt 17 2
 3,c 18 F.lL [16,17],nt 19 18,m 15 19] [15]<|.cond 15 (s [mi 4 8] [4]<|.ret) .skip))))<|s [mi 4 0] [4]<|.ret
theorem Cd.i_sortCode_k:CK 170 Tryz.f170 Cd.tT 20 [.tmp 4]:=ck Tryz.func170
def Cd.qC:aD:=s [bx 3 1,mn 4] [0,3]<|.seq (.naming 5 (.region [o 8 (.bslice 1 0 [.v (.slice none 0 0)] []),m 5 8] [0,3,5] []))<|.seq (s [m 9 0,lt 10 2 3,c 11 F.vZ [9,10],ln 12 11,mi 13 0] [0,5,11,12,13]<|.block 0 (.loop (s [ls 14 13 12] [0,5,11,12,13,14]<|.seq (.cond 14 .skip (.exit 0))<|.seq (.block 1
 (s [ix 15 1 11 13,lf 16 1 15,m 7 16] [0,5,7,11,12,13]<|.naming 5 (.region [m 17 5,m 18 0,m 19 7,ix 20 1 18 19,lt 21 1 20,c 22 F.qD [21],o 23 (.bslice 1 1 [.v (.slice none 0 0)] [(0,22)]),o 24 (.append 1 24 17 23),m 5 24] [0,5,11,12,13] [])))<|.region [ad 25 13 1,m 13 25] [0,5,11,12,13]
 [])))<|s [m 26 5,m 4 26] [4]<|.ret
theorem Cd.i_sortedBy_k:CK 171 Tryz.f171 Cd.qC 27 [.tmp 4]:=ck Tryz.func171
def Cd.eQ:aD:=s [bx 4 0,mi 8 0] [1,2,3,4]<|.seq (s [m 19 3,ln 20 19,mi 21 0] [1,2,3,4,19,20,21]<|.block 0 (.loop (s [ls 22 21 20] [1,2,3,4,19,20,21,22]<|.seq (.cond 22 .skip (.exit 0))<|.seq (.block 1 (s [ix 23 1 19 21,lf 24 1 23,m 10 24] [1,2,3,4,10,19,20,21]<|s [m 25 10,c 26 F.jF [25],nt 27 26]
 [1,2,3,4,19,20,21,27]<|.cond 27 (s [mi 8 1] [8]<|.ret) .skip))<|.region [ad 28 21 1,m 21 28] [1,2,3,4,19,20,21] [])))<|.seq (s [m 29 1,nt 30 29] [2,3,4,30]<|.cond 30 (s [mi 8 1] [8]<|.ret) .skip)<|.seq (s [m 31 3,ln 32 31,mi 33 0] [2,3,4,31,32,33]<|.block 2 (.loop (s [ls 34 33 32]
 [2,3,4,31,32,33,34]<|.seq (.cond 34 .skip (.exit 2))<|.seq (.block 3 (s [ix 35 1 31 33,lf 36 1 35,m 12 36] [2,3,4,12,31,32,33]<|r [lt 37 2 4,m 38 12,c 39 F.eP [38],c 40 F.nU [37,39],nt 41 40] [2,3,4,31,32,33,41] [37,38,39,40,41]<|.cond 41 (s [mi 8 2] [8]<|.ret)
 .skip))<|.region [ad 42 33 1,m 33 42] [2,3,4,31,32,33] [])))<|.seq (s [m 43 2,ln 44 43,mi 45 0] [2,3,4,43,44,45]<|.block 4 (.loop (s [ls 46 45 44] [2,3,4,43,44,45,46]<|.seq (.cond 46 .skip (.exit 4))<|.seq (.block 5 (s [ix 47 1 43 45,lf 48 1 47,m 14 48] [2,3,4,14,43,44,45]<|s [m 49 14,o 50 (.lenS
 49),fa 51 1 4,lf 52 1 51,fa 53 0 4,lf 54 1 53,o 55 (.bin .sub 52 54),o 56 (.bin .neq 50 55)] [2,3,4,43,44,45,56]<|.cond 56 (s [mi 8 2] [8]<|.ret) .skip))<|.region [ad 57 45 1,m 45 57] [2,3,4,43,44,45] [])))<|.seq (s [m 58 2,ln 59 58,mi 60 0] [3,4,58,59,60]<|.block 6 (.loop (s [ls 61 60 59]
 [3,4,58,59,60,61]<|.seq (.cond 61 .skip (.exit 6))<|.seq (.block 7 (s [ix 62 1 58 60,lf 63 1 62,m 16 63] [3,4,16,58,59,60]<|s [m 64 16,c 65 F.iE [64],nt 66 65] [3,4,58,59,60,66]<|.cond 66 (s [mi 8 7] [8]<|.ret) .skip))<|.region [ad 67 60 1,m 60 67] [3,4,58,59,60] [])))<|.seq (s [m 68
 3,ln 69 68,mi 70 0] [4,68,69,70]<|.block 8 (.loop (s [ls 71 70 69] [4,68,69,70,71]<|.seq (.cond 71 .skip (.exit 8))<|.seq (.block 9 (s [ix 72 1 68 70,lf 73 1 72,m 18 73] [4,18,68,69,70]<|s [m 74 18,lt 75 2 4,c 76 F.lL [74,75],nt 77 76] [4,68,69,70,77]<|.cond 77 (s [mi 8 8] [8]<|.ret)
 .skip))<|.region [ad 78 70 1,m 70 78] [4,68,69,70] [])))<|s [mi 8 0] [8]<|.ret
theorem Cd.i_collateCode_k:CK 172 Tryz.f172 Cd.eQ 79 [.tmp 8]:=ck Tryz.func172
def Cd.gD:aD:=s [bx 3 1,mf 4] [0,3]<|s [m 5 0,lt 6 2 3,c 7 F.aBk [5,6],ln 8 7,en 9 8 0,m 4 9] [4]<|.ret
theorem Cd.i_isAscending_k:CK 173 Tryz.f173 Cd.gD 10 [.tmp 4]:=ck Tryz.func173
def Cd.jT:aD:=s [bx 5 1,bx 6 2,bx 7 3,mn 8,mi 9 0] [0,5,6,7]<|.seq (s [lt 11 2 5,lf 12 1 6,lf 13 1 7,o 14 (.bslice 1 2 [.v (.string ⟨#[]⟩)] [(0,12),(1,13)]),m 15 0,o 16 (.bslice 1 1 [.v (.slice none 0 0)] [(0,15)]),c 17 F.eQ [11,(.const (.bool true)),14,16],m 10 17] [0,5,6,7,10]<|s [m 18 10,ne 19 18
 0] [0,5,6,7,10,19]<|.cond 19 (s [m 20 10,mn 8,m 9 20] [8,9]<|.ret) .skip)<|s [m 21 0,c 22 F.kG [21],o 23 (.mkfn F.fB [5,6,7]),o 24 (.call (.func F.uF) [22,23] [0]),m 8 24,mi 9 0] [8,9]<|.ret
theorem Cd.i_SelectBetween_k:CK 174 Tryz.f174 Cd.jT 25 [.tmp 8,.tmp 9]:=ck Tryz.func174
def Cd.lQ:aD:=s [bx 5 1,bx 6 2,mn 7] [0,3,5,6]<|s [m 8 0,c 9 F.kG [8],o 10 (.mkfn F.gL [5,3,6]),o 11 (.call (.func F.uF) [9,10] [0]),m 7 11] [7]<|.ret
theorem Cd.i_MatchDecks_1_k:CK 175 Tryz.f175 Cd.lQ 12 [.tmp 7]:=ck Tryz.func175
def Cd.uF:aD:=s [mn 4] [0,1]<|s [m 8 0,m 9 1,c 10 F.mO [8,9],m 5 10] [0,1,5]<|.seq (s [m 11 5,en 12 11 (-1)] [0,1,5,12]<|.cond 12 (s [m 13 0,m 4 13] [4]<|.ret) .skip)<|.seq (s [m 14 5,ad 15 14 1,m 6 15] [0,1,5,6]<|.block 0 (.loop (.seq (s [m 16 6,m 17 0,ln 18 17,ls 19 16 18]
 [0,1,5,6,19]<|.cond 19 .skip (.exit 0))<|.seq (.block 1 (s [m 22 0,m 23 6,ix 24 1 22 23,lt 25 1 24,o 7 (.alloc [.v (.slice none 0 0)]),⟨none,.store 1 7 25,none⟩] [0,1,5,6,7]<|s [m 26 1,lt 27 1 7,o 28 (.call 26 [27] []),nt 29 28] [0,1,5,6,7,29]<|.cond 29 (s [m 30 0,m 31 5,lt 32 1 7,ix 33 1 30
 31,⟨none,.store 1 33 32,none⟩] [0,1,5,6]<|.region [m 34 5,ad 35 34 1,m 5 35] [0,1,5,6] []) .skip))<|.region [m 20 6,ad 21 20 1,m 6 21] [0,1,5,6] [])))<|s [m 36 0,m 37 5,o 38 (.slc 1 36 (some 37) none),⟨none,.clr 1 [.v (.slice none 0 0)] 38,none⟩] [0,5]<|s [m 39 0,m 40 5,o 41 (.slc 1 39 none (some
 40)),m 4 41] [4]<|.ret
theorem Cd.dlf_Card_k:CK 176 Tryz.f176 Cd.uF 42 [.tmp 4]:=ck Tryz.func176
def Cd.gL:aD:=s [bx 4 0,mf 5] [1,2,3,4]<|r [lf 6 1 1,lt 7 1 4,lt 8 2 2,c 9 F.tY [6,7,8],lf 10 1 3,o 11 (.binB .neq 9 10),m 5 11] [5] [6,7,8,10,9,11]<|.ret
theorem Cd.i_MatchDecks_1_1_k:CK 177 Tryz.f177 Cd.gL 12 [.tmp 5]:=ck Tryz.func177
def Cd.tY:aD:=s [bx 4 1,bx 5 2,mf 6] [0,4,5]<|s [m 7 0,o 8 (.mkfn F.fT [4,5]),c 9 F.uG [7,8],m 6 9] [6]<|.ret
theorem Cd.i_hasEqual_k:CK 178 Tryz.f178 Cd.tY 10 [.tmp 6]:=ck Tryz.func178
def Cd.jO:aD:=s [o 2 (.alloc [.v (.slice none 0 0)])] [0,2]<|s [m 3 0,nc 4 3,fa 5 0 4,lf 6 1 5,c 7 F.qO [6],o 8 (.build [.v (.slice none 0 0)] [(0,1,7)]),⟨none,.store 1 2 8,none⟩] [2]<|.ret
theorem Cd.s_l02Own_k:CK 179 Tryz.f179 Cd.jO 9 [.cell 2 104]:=ck Tryz.func179
def Cd.vE:aD:=s [bx 4 1,bx 5 2,mn 6,mi 7 0] [0,4,5]<|s [lt 13 2 4,lt 14 2 5,o 15 (.bslice 2 1 [.v (.int .i64 (0)),.v (.int .i64 (0))] [(0,14)]),o 16 (.build [.v (.int .i64 (0)),.v (.int .i64 (0)),.v (.slice none 0 0),.v (.bool false)] [(0,2,13),(2,1,15)]),bx 17 16,m 18 0,c 19 F.z8 [17,18],m 12 19,ex 20
 12 0,ex 21 12 1,m 8 20,m 9 21] [8,9]<|.seq (s [m 22 9,ne 23 22 0] [8,9,23]<|.cond 23 (s [m 24 9,mn 6,m 7 24] [6,7]<|.ret) .skip)<|.seq (.naming 10 (.region [o 25 (.bslice 2 0 [.v (.string ⟨#[]⟩),.v (.int .i64 (0))] []),m 10 25] [8,10] []))<|.seq (s [mi 11 0] [8,10,11]<|.block 0 (.loop (.seq (s [m 26
 11,m 27 8,nc 28 27,fa 29 2 28,lf 30 1 29,ln 31 30,ls 32 26 31] [8,10,11,32]<|.cond 32 .skip (.exit 0))<|.seq (.block 1 (.naming 10 (.region [m 35 10,m 36 8,nc 37 36,fa 38 0 37,lf 39 1 38,m 40 8,nc 41 40,fa 42 2 41,lf 43 1 42,m 44 11,ix 45 1 43 44,lf 46 1 45,ix 47 1 39 46,lf 48 1 47,m 49 8,m 50 8,nc
 51 50,fa 52 2 51,lf 53 1 52,m 54 11,ix 55 1 53 54,lf 56 1 55,m 57 8,m 58 11,c 59 F.o6 [57,58],c 60 F.mY [49,56,59,(k 1)],o 61 (.idxSl 1 60 (k 0)),lf 62 1 61,o 63 (.build [.v (.string ⟨#[]⟩),.v (.int .i64 (0))] [(0,1,48),(1,1,62)]),o 64 (.bslice 2 1 [.v (.string ⟨#[]⟩),.v
 (.int .i64 (0))] [(0,63)]),o 65 (.append 2 24 35 64),m 10 65] [8,10,11] [35,36,37,38,39,40,41,42,43,44,45,46,47,48,49,50,51,52,53,54,55,56,57,58,59,60,61,62,63,64,65])))<|.region [m 33 11,ad 34 33 1,m 11 34] [8,10,11] [])))<|s [m 66 10,m 6 66,mi 7 0] [6,7]<|.ret
theorem Cd.s_l15Sums_k:CK 180 Tryz.f180 Cd.vE 67 [.tmp 6,.tmp 7]:=ck Tryz.func180
def Cd.pQ:aD:=s [mn 4,mi 5 0] [0,1]<|r [m 10 0,nc 11 10,fa 12 0 11,lf 13 1 12,m 14 1,nc 15 14,fa 16 1 15,lf 17 1 16,ix 18 1 13 17,lf 19 1 18,m 6 19] [0,1,6] [10,12,13,11,14,15,16,17,18,19]<|r [m 20 0,nc 21 20,fa 22 0 21,lf 23 1 22,m 24 1,nc 25 24,fa 26 2 25,lf 27 1 26,ix 28 1 23 27,lf 29 1 28,m 7 29] [1,6,7]
 [20,22,23,21,24,25,26,27,28,29]<|.seq (s [m 30 1,nc 31 30,fa 32 0 31,lf 33 1 32] [1,6,7,33]<|.block 0 (s [en 35 33 1,m 34 35] [1,6,7,33,34]<|.cond 34 (s [m 36 6,m 37 1,nc 38 37,fa 39 4 38,lt 40 2 39,c 41 F.sW [36,40],ex 42 41 0,ex 43 41 1,m 4 42,m 5 43] [4,5]<|.ret) (s [en 45 33 2,m 44 45]
 [1,6,7,33,44]<|.cond 44 (s [m 46 6,m 47 7,m 48 1,nc 49 48,fa 50 4 49,lt 51 2 50,c 52 F.oF [46,47,51],ex 53 52 0,ex 54 52 1,m 4 53,m 5 54] [4,5]<|.ret) (s [en 56 33 5,m 55 56] [1,6,7,33,55]<|.cond 55 (r [m 57 6,m 58 1,nc 59 58,fa 60 4 59,lt 61 2 60,m 62 1,nc 63 62,fa 64 8 63,lf 65 1 64,c
 66 F.mH [57,61,65],ex 67 66 0,ex 68 66 1,m 4 67,m 5 68] [4,5] [57,58,59,60,61,62,63,64,65,66,67,68]<|.ret) (s [en 70 33 6,m 69 70] [1,6,7,69]<|.cond 69 (s [m 71 6,m 72 1,nc 73 72,fa 74 4 73,lt 75 2 74,c 76 F.jQ [71,75],ex 77 76 0,ex 78 76 1,m 4 77,m 5 78] [4,5]<|.ret)
 .skip)))))<|s [m 80 6,m 81 7,m 82 1,nc 83 82,fa 84 4 83,lt 85 2 84,c 86 F.oG [80,81,85],m 79 86,ex 87 79 0,ex 88 79 1,m 8 87,m 9 88] [1,8,9]<|.seq (s [m 89 9,ne 90 89 0] [1,8,9,90]<|.cond 90 (s [m 91 9,mn 4,m 5 91] [4,5]<|.ret) .skip)<|.seq (s [m 92 1,nc 93 92,fa 94 0 93,lf 95 1 94,en 96
 95 3] [8,96]<|.cond 96 (s [m 97 8,o 98 (.idxSl 1 97 (k 0)),lf 99 1 98,m 4 99,mi 5 0] [4,5]<|.ret) .skip)<|s [m 100 8,o 101 (.idxSl 1 100 (k 2)),lf 102 1 101,m 4 102,mi 5 0] [4,5]<|.ret
theorem Cd.s_l15Make_k:CK 181 Tryz.f181 Cd.pQ 103 [.tmp 4,.tmp 5]:=ck Tryz.func181
def Cd.bQ:aD:=s [mi 4 0] [0,1]<|s [m 5 0,m 6 1,o 7 (.idxB 5 6),m 4 7] [4]<|.ret
theorem Cd.internal_stringslite_IndexByte_k:CK 182 Tryz.f182 Cd.bQ 8 [.tmp 4]:=ck Tryz.func182
def Cd.mO:aD:=s [mi 4 0] [0,1]<|.seq (s [m 6 0,ln 7 6,mi 8 0] [0,1,7,8]<|.block 0 (.loop (s [ls 9 8 7] [0,1,7,8,9]<|.seq (.cond 9 .skip (.exit 0))<|.seq (.block 1 (s [m 10 8,m 5 10] [0,1,5,7,8]<|s [m 11 1,m 12 0,m 13 5,ix 14 1 12 13,lt 15 1 14,o 16 (.call 11 [15] [])] [0,1,5,7,8,16]<|.cond 16 (s [m 17 5,m 4 17]
 [4]<|.ret) .skip))<|.region [ad 18 8 1,m 8 18] [0,1,7,8] [])))<|s [mi 4 (-1)] [4]<|.ret
theorem Cd.ixf_Card_k:CK 197 Tryz.f197 Cd.mO 19 [.tmp 4]:=ck Tryz.func197
def Cd.jS:aD:=s [mf 2] [0]<|s [m 3 0,c 4 F.l6 [3,(.func F.bY)],nt 5 4,m 2 5] [2]<|.ret
theorem Cd.i_hasCharacters_k:CK 198 Tryz.f198 Cd.jS 6 [.tmp 2]:=ck Tryz.func198
def Cd.dR:aD:=s [bx 3 0,bx 4 1,bx 5 2,mi 6 0] [3,4,5]<|r [fa 7 0 3,lf 8 1 7,fa 9 0 5,lf 10 1 9,fa 11 1 5,lf 12 1 11,o 13 (.slc 1 8 (some 10) (some 12)),fa 14 0 4,lf 15 1 14,fa 16 0 5,lf 17 1 16,fa 18 1 5,lf 19 1 18,o 20 (.slc 1 15 (some 17) (some 19)),c 21 F.iZ [13,20],m 6 21] [6]
 [7,9,8,10,11,12,13,14,15,16,17,18,19,20,21]<|.ret
theorem Cd.i_compareFields_k:CK 199 Tryz.f199 Cd.dR 22 [.tmp 6]:=ck Tryz.func199
def Cd.qX:aD:=s [mi 2 0] [0]<|.seq (s [mi 3 0] [0,3]<|.block 0 (.loop (.seq (s [m 4 3,o 5 (.bin .lss 4 (k 40))] [0,3,5]<|.cond 5 .skip (.exit 0))<|.seq (.block 1 (s [m 8 3,o 9 (.idxStr (.const (.string
 ⟨#[32,38,65,66,67,68,69,70,71,72,73,45,74,75,76,77,78,79,80,81,82,47,83,84,85,86,87,88,89,90,48,49,50,51,52,53,54,55,56,57]⟩)) 8),c 10 F.wG [9],m 11 0,o 12 (.bin .eql 10 11)] [0,3,12]<|.cond 12 (s [m 13 3,m 2 13] [2]<|.ret) .skip))<|.region [m 6 3,ad 7 6 1,m 3 7] [0,3] [])))<|s [mi 2 (-1)]
 [2]<|.ret
theorem Cd.i_rankOf_k:CK 200 Tryz.f200 Cd.qX 14 [.tmp 2]:=ck Tryz.func200
def Cd.vZ:aD:=s [bx 2 0,bx 3 1,mn 4] [2,3]<|.seq (.naming 5 (.region [o 7 (.bslice 1 0 [.v (.int .i64 (0))] []),m 5 7] [2,3,5] []))<|.seq (s [lf 8 1 2,ln 9 8,mi 10 0] [2,3,5,9,10]<|.block 0 (.loop (s [ls 11 10 9] [2,3,5,9,10,11]<|.seq (.cond 11 .skip (.exit 0))<|.seq (.block 1 (s [m 12 10,m 6 12]
 [2,3,5,6,9,10]<|.naming 5 (.region [m 13 5,m 14 6,o 15 (.bslice 1 1 [.v (.int .i64 (0))] [(0,14)]),o 16 (.append 1 8 13 15),m 5 16] [2,3,5,9,10] [])))<|.region [ad 17 10 1,m 10 17] [2,3,5,9,10] [])))<|s [m 18 5,o 19 (.mkfn F.nR [2,3]),o 20 (.call (.func
 F.iU) [18,19] [0])] [5]<|s [m 21 5,m 4 21] [4]<|.ret
theorem Cd.i_orderBy_k:CK 201 Tryz.f201 Cd.vZ 22 [.tmp 4]:=ck Tryz.func201
def Cd.aBk:aD:=s [bx 3 1,mn 4] [0,3]<|.seq (.naming 5 (.region [o 7 (.bslice 1 0 [.v (.int .i64 (0))] []),m 5 7] [0,3,5] []))<|.seq (s [mi 6 1] [0,3,5,6]<|.block 0 (.loop (.seq (s [m 8 6,m 9 0,ln 10 9,ls 11 8 10] [0,3,5,6,11]<|.cond 11 .skip (.exit 0))<|.seq (.block 1 (r [m 14 0,m 15 6,ix 16 1 14 15,lt 17 1 16,m 18
 0,m 19 6,o 20 (.bin .sub 19 (k 1)),ix 21 1 18 20,lt 22 1 21,lt 23 2 3,c 24 F.dR [17,22,23],o 25 (.bin .lss 24 (k 0))] [0,3,5,6,25] [14,15,17,18,16,19,20,21,22,23,24,25]<|.cond 25 (.naming 5 (.region [m 26 5,m 27 6,o 28 (.bslice 1 1 [.v (.int .i64 (0))] [(0,27)]),o 29 (.append 1 8 26
 28),m 5 29] [0,3,5,6] [])) .skip))<|.region [m 12 6,ad 13 12 1,m 6 13] [0,3,5,6] [])))<|s [m 30 5,m 4 30] [4]<|.ret
theorem Cd.i_steps_k:CK 202 Tryz.f202 Cd.aBk 31 [.tmp 4]:=ck Tryz.func202
def Cd.fB:aD:=s [bx 4 0,mf 5] [1,2,3,4]<|s [lt 6 1 4,lt 7 2 1,lf 8 1 2,c 9 F.kH [6,7,8],o 10 (.bin .lss 9 (k 0)),m 11 10,⟨some 12,.load true 1 4,some (11,false)⟩,⟨some 13,.load true 2 1,some (11,false)⟩,lg 14 1 3 11 false,⟨some 15,.call (.func F.kH) [12,13,14] [],some (11,false)⟩,⟨some
 16,.bin .gtr 15 (k 0),some (11,false)⟩,pt 17 11 16,m 5 17] [5]<|.ret
theorem Cd.i_SelectBetween_1_k:CK 203 Tryz.f203 Cd.fB 18 [.tmp 5]:=ck Tryz.func203
def Cd.kH:aD:=s [bx 3 0,bx 4 1,mi 6 0] [2,3,4]<|r [fa 7 0 3,lf 8 1 7,fa 9 0 4,lf 10 1 9,fa 11 1 4,lf 12 1 11,o 13 (.slc 1 8 (some 10) (some 12)),m 14 2,fa 15 1 4,lf 16 1 15,fa 17 0 4,lf 18 1 17,o 19 (.bin .sub 16 18),c 20 F.qY [14,19],o 21 (.field false 0 1 20),c 22 F.iZ [13,21],m 6 22]
 [6] [7,9,8,10,11,12,13,14,15,16,17,18,19,20,21,22]<|.ret
theorem Cd.i_compareText_k:CK 204 Tryz.f204 Cd.kH 23 [.tmp 6]:=ck Tryz.func204
def Cd.fT:aD:=s [bx 3 0,mf 4] [1,2,3]<|s [lt 5 1 3,lt 6 1 1,lt 7 2 2,c 8 F.dR [5,6,7],en 9 8 0,m 4 9] [4]<|.ret
theorem Cd.i_hasEqual_1_k:CK 205 Tryz.f205 Cd.fT 10 [.tmp 4]:=ck Tryz.func205
def Cd.qO:aD:=s [mn 2] [0]<|s [o 3 (.bslice 1 0 [.v (.int .i64 (0))] []),m 4 0,o 5 (.append 1 8 3 4),m 2 5] [2]<|.ret
theorem Cd.s_l00Own_k:CK 206 Tryz.f206 Cd.qO 6 [.tmp 2]:=ck Tryz.func206
def Cd.mY:aD:=s [mn 8] [0,1,2,3]<|s [m 12 3,o 13 (.mk 1 8 [.v (.int .i64 (0))] 12),m 9 13] [0,1,2,3,9]<|.seq (s [m 14 1,m 10 14] [0,2,3,9,10]<|.block 0 (.loop (.seq (s [m 15 10,m 16 2,ls 17 15 16] [0,2,3,9,10,17]<|.cond 17 .skip (.exit 0))<|.seq (.block 1 (s [mi 11 0] [0,2,3,9,10,11]<|.block 2 (.loop (.seq (s [m
 20 11,m 21 3,ls 22 20 21] [0,2,3,9,10,11,22]<|.cond 22 .skip (.exit 2))<|.seq (.block 3 (.region [m 25 9,m 26 11,ix 27 1 25 26,lf 28 1 27,m 29 0,nc 30 29,fa 31 1 30,lf 32 1 31,m 33 10,ix 34 1 32 33,lf 35 1 34,m 36 11,ix 37 1 35 36,lf 38 1 37,o 39 (.bin .add 28 38),ix 40 1 25 26,⟨none,.store 1 40
 39,none⟩] [0,2,3,9,10,11] [25,26,28,29,27,30,31,32,33,34,35,36,37,38,39]))<|.region [m 23 11,ad 24 23 1,m 11 24] [0,2,3,9,10,11] []))))<|.region [m 18 10,ad 19 18 1,m 10 19] [0,2,3,9,10] [])))<|s [m 41 9,m 8 41] [8]<|.ret
theorem Cd._s_l13R__sums_k:CK 208 Tryz.f208 Cd.mY 42 [.tmp 8]:=ck Tryz.func208
def Cd.o6:aD:=s [mi 4 0] [0,1]<|.seq (s [m 5 1,ad 6 5 1,m 7 0,nc 8 7,fa 9 2 8,lf 10 1 9,ln 11 10,ls 12 6 11] [0,1,12]<|.cond 12 (s [m 13 0,nc 14 13,fa 15 2 14,lf 16 1 15,m 17 1,ad 18 17 1,ix 19 1 16 18,lf 20 1 19,m 4 20] [4]<|.ret) .skip)<|s [m 21 0,nc 22 21,fa 23 0 22,lf 24 1 23,ln 25 24,m 4 25] [4]<|.ret
theorem Cd._s_l13R__end_k:CK 209 Tryz.f209 Cd.o6 26 [.tmp 4]:=ck Tryz.func209
def Cd.sW:aD:=s [bx 3 1,mn 4,mi 5 0] [0,3]<|s [m 12 0,lt 13 2 3,c 14 F.jX [12,13],m 11 14,ex 15 11 0,ex 16 11 1,m 6 15,m 7 16] [0,6,7]<|.seq (s [m 17 7,ne 18 17 0] [0,6,7,18]<|.cond 18 (s [m 19 7,mn 4,m 5 19] [4,5]<|.ret) .skip)<|s [m 20 6,c 21 F.qM [20],m 8 21] [0,8]<|.seq (.naming 9
 (.region [o 22 (.bslice 1 0 [.v (.slice none 0 0)] []),m 9 22] [0,8,9] []))<|.seq (s [mi 10 0] [0,8,9,10]<|.block 0 (.loop (.seq (s [m 23 10,m 24 8,ln 25 24,ls 26 23 25] [0,8,9,10,26]<|.cond 26 .skip (.exit 0))<|.seq (.block 1 (.naming 9 (.region [m 29 9,m 30 0,m 31 8,m 32 10,ix 33 1 31 32,lf 34 1
 33,ix 35 1 30 34,c 36 F.jO [35],o 37 (.bslice 1 1 [.v (.slice none 0 0)] [(0,36)]),o 38 (.append 1 24 29 37),m 9 38] [0,8,9,10] [])))<|.region [m 27 10,ad 28 27 1,m 10 28] [0,8,9,10] [])))<|s [m 39 9,m 4 39,mi 5 0] [4,5]<|.ret
theorem Cd.s_SortedBy_k:CK 210 Tryz.f210 Cd.sW 40 [.tmp 4,.tmp 5]:=ck Tryz.func210
def Cd.oF:aD:=s [bx 5 2,mn 6,mi 7 0] [0,1,5]<|s [m 12 0,m 13 1,lt 14 2 5,c 15 F.sP [12,13,14],m 11 15,ex 16 11 0,ex 17 11 1,ex 18 11 2,m 8 16,m 9 17,m 10 18] [0,1,8,9,10]<|.seq (s [m 19 10,ne 20 19 0] [0,1,8,9,10,20]<|.cond 20 (s [m 21 10,mn 6,m 7 21] [6,7]<|.ret) .skip)<|.seq (r [m 22 0,ln 23 22,o 24
 (.bin .gtr 23 (k 0)),m 25 24,mg 26 1 25 true,⟨some 27,.len 26,some (25,true)⟩,⟨some 28,.bin .gtr 27 (k 0),some (25,true)⟩,pf 29 25 28,m 30 29,mg 31 0 30 true,⟨some 32,.idxSl 1 31 (k 0),some (30,true)⟩,fg 33 0 32 30 true,lg 34 1 33 30 true,⟨some 35,.len 34,some (30,true)⟩,mg 36 1 30 true,⟨some
 37,.idxSl 1 36 (k 0),some (30,true)⟩,fg 38 0 37 30 true,lg 39 1 38 30 true,⟨some 40,.len 39,some (30,true)⟩,⟨some 41,.bin .neq 35 40,some (30,true)⟩,pf 42 30 41] [0,1,8,9,42] [22,24,25,23,26,27,28,29,30,31,32,33,34,35,36,37,38,39,40,41,42]<|.cond 42 (s [mn 6,mi 7 9] [6,7]<|.ret) .skip)<|.seq (s [m 43
 8,c 44 F.nK [43],o 45 (.bin .geq 44 (k 0)),m 46 45,mg 47 9 46 false,⟨some 48,.call (.func F.nK) [47] [],some (46,false)⟩,⟨some 49,.bin .geq 48 (k 0),some (46,false)⟩,pt 50 46 49] [0,1,8,9,50]<|.cond 50 (s [mn 6,mi 7 6] [6,7]<|.ret) .skip)<|.seq (s [m 51 0,ln 52 51,m 53 1,ln 54
 53,o 55 (.bin .add 52 54),o 56 (.bin .gtr 55 (k 40))] [0,1,8,9,56]<|.cond 56 (s [mn 6,mi 7 5] [6,7]<|.ret) .skip)<|s [m 57 0,m 58 1,m 59 8,m 60 9,c 61 F.sQ [57,58,59,60],m 6 61,mi 7 0] [6,7]<|.ret
theorem Cd.s_MergeDecks_k:CK 211 Tryz.f211 Cd.oF 62 [.tmp 6,.tmp 7]:=ck Tryz.func211
def Cd.mH:aD:=s [bx 4 1,mn 6,mi 7 0] [0,2,4]<|s [m 13 0,lt 14 2 4,m 15 2,o 16 (.bslice 1 1 [.v (.string ⟨#[]⟩)] [(0,15)]),c 17 F.yH [13,14,16],m 12 17,ex 18 12 0,ex 19 12 1,m 8 18,m 9 19] [0,2,8,9]<|.seq (s [m 20 9,ne 21 20 0] [0,2,8,9,21]<|.cond 21 (s [m 22 9,mn 6,m 7 22] [6,7]<|.ret) .skip)<|.seq
 (.naming 10 (.region [o 23 (.bslice 1 0 [.v (.slice none 0 0)] []),m 10 23] [0,2,8,10] []))<|.seq (s [mi 11 0] [0,2,8,10,11]<|.block 0 (.loop (.seq (s [m 24 11,m 25 8,ln 26 25,ls 27 24 26] [0,2,8,10,11,27]<|.cond 27 .skip (.exit 0))<|.seq (.block 1 (s [m 30 8,m 31 11,ix 32 1 30 31,lf 33 1 32,m 34 2,o
 35 (.binS .eql 33 34)] [0,2,8,10,11,35]<|.cond 35 (.naming 10 (.region [m 36 10,m 37 0,m 38 11,ix 39 1 37 38,c 40 F.jO [39],o 41 (.bslice 1 1 [.v (.slice none 0 0)] [(0,40)]),o 42 (.append 1 24 36 41),m 10 42] [0,2,8,10,11] [])) .skip))<|.region [m 28 11,ad 29 28 1,m 11 29] [0,2,8,10,11]
 [])))<|s [m 43 10,m 6 43,mi 7 0] [6,7]<|.ret
theorem Cd.s_SelectEqual_k:CK 212 Tryz.f212 Cd.mH 44 [.tmp 6,.tmp 7]:=ck Tryz.func212
def Cd.jQ:aD:=s [bx 3 1,mn 4,mi 5 0] [0,3]<|s [m 12 0,lt 13 2 3,c 14 F.jX [12,13],m 11 14,ex 15 11 0,ex 16 11 1,m 6 15,m 7 16] [0,6,7]<|.seq (s [m 17 7,ne 18 17 0] [0,6,7,18]<|.cond 18 (s [m 19 7,mn 4,m 5 19] [4,5]<|.ret) .skip)<|s [m 20 6,c 21 F.nJ [20],m 8 21] [0,8]<|.seq (.naming 9
 (.region [o 22 (.bslice 1 0 [.v (.slice none 0 0)] []),m 9 22] [0,8,9] []))<|.seq (s [mi 10 0] [0,8,9,10]<|.block 0 (.loop (.seq (s [m 23 10,m 24 8,ln 25 24,ls 26 23 25] [0,8,9,10,26]<|.cond 26 .skip (.exit 0))<|.seq (.block 1 (.naming 9 (.region [m 29 9,m 30 0,m 31 8,m 32 10,ix 33 1 31 32,lf 34 1
 33,ix 35 1 30 34,c 36 F.jO [35],o 37 (.bslice 1 1 [.v (.slice none 0 0)] [(0,36)]),o 38 (.append 1 24 29 37),m 9 38] [0,8,9,10] [])))<|.region [m 27 10,ad 28 27 1,m 10 28] [0,8,9,10] [])))<|s [m 39 9,m 4 39,mi 5 0] [4,5]<|.ret
theorem Cd.s_FirstOfGroups_k:CK 213 Tryz.f213 Cd.jQ 40 [.tmp 4,.tmp 5]:=ck Tryz.func213
def Cd.oG:aD:=s [bx 5 2,mn 6,mi 7 0] [0,1,5]<|s [m 16 0,m 17 1,lt 18 2 5,c 19 F.sP [16,17,18],m 15 19,ex 20 15 0,ex 21 15 1,ex 22 15 2,m 8 20,m 9 21,m 10 22] [0,1,8,9,10]<|.seq (s [m 23 10,ne 24 23 0] [0,1,8,9,10,24]<|.cond 24 (s [m 25 10,mn 6,m 7 25] [6,7]<|.ret) .skip)<|.seq (s [m 26 8,c 27
 F.nK [26],o 28 (.bin .geq 27 (k 0)),m 29 28,mg 30 9 29 false,⟨some 31,.call (.func F.nK) [30] [],some (29,false)⟩,⟨some 32,.bin .geq 31 (k 0),some (29,false)⟩,pt 33 29 32] [0,1,8,9,33]<|.cond 33 (s [mn 6,mi 7 6] [6,7]<|.ret) .skip)<|s [m 35 0,m 36 8,m 37 9,c 38 F.pV
 [35,36,37],m 34 38,ex 39 34 0,ex 40 34 1,m 11 39,m 12 40] [1,8,9,11,12]<|s [m 42 1,m 43 9,m 44 8,c 45 F.pV [42,43,44],m 41 45,ex 46 41 0,ex 47 41 1,m 13 46,m 14 47] [11,12,13,14]<|s [m 48 11,m 49 13,m 50 12,m 51 14,o 52 (.bslice 1 4 [.v (.slice none 0 0)] [(0,48),(1,49),(2,50),(3,51)]),m 6
 52,mi 7 0] [6,7]<|.ret
theorem Cd.s_MatchDecks_k:CK 214 Tryz.f214 Cd.oG 53 [.tmp 6,.tmp 7]:=ck Tryz.func214
def Cd.bY:aD:=s [mf 2] [0]<|s [m 3 0,c 4 F.qX [3],o 5 (.bin .lss 4 (k 0)),m 2 5] [2]<|.ret
theorem Cd.i_hasCharacters_1_k:CK 220 Tryz.f220 Cd.bY 6 [.tmp 2]:=ck Tryz.func220
def Cd.iZ:aD:=s [mi 4 0] [0,1]<|.seq (s [m 8 0,ln 9 8,mi 10 0] [0,1,9,10]<|.block 0 (.loop (s [ls 11 10 9] [0,1,9,10,11]<|.seq (.cond 11 .skip (.exit 0))<|.seq (.block 1 (s [m 12 10,m 5 12] [0,1,5,9,10]<|r [m 13 0,m 14 5,ix 15 1 13 14,lf 16 1 15,c 17 F.qX [16],m 18 1,m 19 5,ix 20 1 18 19,lf 21 1 20,c 22
 F.qX [21],m 6 17,m 7 22] [0,1,6,7,9,10] [13,14,16,17,15,18,19,20,21,22,6]<|.block 2 (s [m 24 6,m 25 7,ls 26 24 25,m 23 26] [0,1,6,7,9,10,23]<|.cond 23 (s [mi 4 (-1)] [4]<|.ret) (s [m 28 6,m 29 7,o 30 (.bin .gtr 28 29),m 27 30] [0,1,9,10,27]<|.cond 27 (s [mi 4 1] [4]<|.ret) .skip))))<|.region
 [ad 31 10 1,m 10 31] [0,1,9,10] [])))<|s [mi 4 0] [4]<|.ret
theorem Cd.i_compareHoles_k:CK 221 Tryz.f221 Cd.iZ 32 [.tmp 4]:=ck Tryz.func221
def Cd.wG:aD:=s [mi 2 0] [0]<|s [m 6 0,c 7 F.zI [6],m 5 7,ex 8 5 0,ex 9 5 1,m 3 8,m 4 9] [3]<|s [m 10 3,m 2 10] [2]<|.ret
theorem Cd.i_codeOf_k:CK 222 Tryz.f222 Cd.wG 11 [.tmp 2]:=ck Tryz.func222
def Cd.iU:aD:=.region [m 4 0,m 5 0,ln 6 5,m 7 1,o 8 (.call (.func F.jW) [4,6,7] [0])] [] []
theorem Cd.sortst___int64_k:CK 223 Tryz.f223 Cd.iU 9 []:=ck Tryz.func223
def Cd.nR:aD:=s [mi 6 0] [0,1,2,3]<|r [lf 7 1 2,m 8 0,ix 9 1 7 8,lt 10 1 9,lf 11 1 2,m 12 1,ix 13 1 11 12,lt 14 1 13,lt 15 2 3,c 16 F.dR [10,14,15],m 6 16] [6] [7,8,10,11,9,12,13,14,15,16]<|.ret
theorem Cd.i_orderBy_1_k:CK 224 Tryz.f224 Cd.nR 17 [.tmp 6]:=ck Tryz.func224
def Cd.qY:aD:=s [o 4 (.alloc [.v (.slice none 0 0)])] [0,1,4]<|s [m 7 1,c 8 F.aAl [7],o 5 (.alloc [.v (.slice none 0 0)]),⟨none,.store 1 5 8,none⟩] [0,4,5]<|.seq (s [mi 6 0] [0,4,5,6]<|.block 0 (.loop (.seq (s [m 9 6,m 10 0,o 11 (.lenS 10),ls 12 9 11] [0,4,5,6,12]<|.cond 12 .skip (.exit 0))<|.seq (.block 1
 (.region [fa 15 0 5,lf 16 1 15,m 17 6,m 18 0,m 19 6,o 20 (.idxStr 18 19),c 21 F.wG [20],ix 22 1 16 17,⟨none,.store 1 22 21,none⟩] [0,4,5,6] [15,17,16,18,19,20,21]))<|.region [m 13 6,ad 14 13 1,m 6 14] [0,4,5,6] [])))<|s [lt 23 1 5,⟨none,.store 1 4 23,none⟩] [4]<|.ret
theorem Cd.i_punchText_k:CK 225 Tryz.f225 Cd.qY 24 [.cell 4 104]:=ck Tryz.func225
def Cd.aAZ:aD:=s [mf 4] [0,1]<|.seq (s [m 6 1,c 7 F.kR [6,(k 1),(k 20)],nt 8 7,m 9 8,mg 10 0 9 false,⟨some 11,.nilc 10,some (9,false)⟩,fg 12 0 11 9 false,⟨some 13,.load true 2 12,some (9,false)⟩,mg 14 1 9 false,⟨some 15,.call (.func F.fD) [13,14] [],some (9,false)⟩,⟨some 16,.un .not 15,some
 (9,false)⟩,pt 17 9 16] [0,1,17]<|.cond 17 (s [mf 4] [4]<|.ret) .skip)<|.seq (s [mi 5 0] [0,1,5]<|.block 0 (.loop (.seq (s [m 18 5,m 19 0,nc 20 19,fa 21 2 20,lf 22 1 21,ln 23 22,ls 24 18 23] [0,1,5,24]<|.cond 24 .skip (.exit 0))<|.seq (.block 1 (r [m 27 0,nc 28 27,fa 29 2 28,lf 30 1 29,m 31 5,ix 32 2
 30 31,lt 33 2 32,m 34 1,c 35 F.fD [33,34],nt 36 35,m 37 36,mg 38 0 37 false,⟨some 39,.nilc 38,some (37,false)⟩,fg 40 2 39 37 false,lg 41 1 40 37 false,mg 42 5 37 false,⟨some 43,.idxSl 2 41 42,some (37,false)⟩,fg 44 1 43 37 false,lg 45 1 44 37 false,mg 46 0 37 false,⟨some 47,.nilc 46,some
 (37,false)⟩,fg 48 2 47 37 false,lg 49 1 48 37 false,mg 50 5 37 false,⟨some 51,.idxSl 2 49 50,some (37,false)⟩,fg 52 0 51 37 false,lg 53 1 52 37 false,⟨some 54,.bin .sub 45 53,some (37,false)⟩,⟨some 55,.bin .gtr 54 (k 12),some (37,false)⟩,pt 56 37 55] [0,1,5,56]
 [27,29,30,28,31,32,33,34,35,36,37,38,39,40,41,42,43,44,45,46,47,48,49,50,51,52,53,54,55,56]<|.cond 56 (s [mf 4] [4]<|.ret) .skip))<|.region [m 25 5,ad 26 25 1,m 5 26] [0,1,5] [])))<|s [m 57 0,nc 58 57,fa 59 2 58,lf 60 1 59,ln 61 60,o 62 (.bin .leq 61 (k 4)),m 4 62] [4]<|.ret
theorem Cd.s_l13Ok_k:CK 226 Tryz.f226 Cd.aAZ 63 [.tmp 4]:=ck Tryz.func226
def Cd.jX:aD:=s [bx 3 1,mn 4,mi 5 0] [0,3]<|.seq (s [m 10 0,c 11 F.jZ [10],nt 12 11] [0,3,12]<|.cond 12 (s [mn 4,mi 5 1] [4,5]<|.ret) .skip)<|.seq (r [lt 13 2 3,m 14 0,c 15 F.jJ [14],c 16 F.fD [13,15],nt 17 16] [0,3,17] [13,14,15,16,17]<|.cond 17 (s [mn 4,mi 5 2] [4,5]<|.ret)
 .skip)<|.seq (.naming 6 (.region [o 18 (.bslice 1 0 [.v (.string ⟨#[]⟩)] []),m 6 18] [0,3,6] []))<|.seq (s [mi 7 0] [0,3,6,7]<|.block 0 (.loop (.seq (s [m 19 7,m 20 0,ln 21 20,ls 22 19 21] [0,3,6,7,22]<|.cond 22 .skip (.exit 0))<|.seq (.block 1 (r [m 26 0,m 27 7,ix 28 1 26 27,lt 29 2 3,c 30
 F.yI [28,29],m 25 30,ex 31 25 0,ex 32 25 1,m 8 31,m 9 32] [0,3,6,7,8,9] [26,27,29,28,30,25,31,32,8]<|.seq (s [m 33 9,nt 34 33] [0,3,6,7,8,34]<|.cond 34 (s [mn 4,mi 5 8] [4,5]<|.ret) .skip)<|.naming 6 (.region [m 35 6,m 36 8,o 37 (.bslice 1 1 [.v (.string ⟨#[]⟩)] [(0,36)]),o 38 (.append 1 16
 35 37),m 6 38] [0,3,6,7] [])))<|.region [m 23 7,ad 24 23 1,m 7 24] [0,3,6,7] [])))<|s [m 39 6,m 4 39,mi 5 0] [4,5]<|.ret
theorem Cd.s_l07Keys_k:CK 227 Tryz.f227 Cd.jX 40 [.tmp 4,.tmp 5]:=ck Tryz.func227
def Cd.nJ:aD:=s [mn 2] [0]<|.seq (.naming 3 (.region [o 5 (.bslice 1 0 [.v (.int .i64 (0))] []),m 3 5] [0,3] []))<|.seq (s [mi 4 0] [0,3,4]<|.block 0 (.loop (.seq (s [m 6 4,m 7 0,ln 8 7,ls 9 6 8] [0,3,4,9]<|.cond 9 .skip (.exit 0))<|.seq (.block 1 (r [m 12 4,en 13 12 0,m 14 13,mg 15 0 14 false,mg 16 4 14
 false,⟨some 17,.idxSl 1 15 16,some (14,false)⟩,lg 18 1 17 14 false,mg 19 0 14 false,mg 20 4 14 false,⟨some 21,.bin .sub 20 (k 1),some (14,false)⟩,⟨some 22,.idxSl 1 19 21,some (14,false)⟩,lg 23 1 22 14 false,⟨some 24,.binS .neq 18 23,some (14,false)⟩,pt 25 14 24] [0,3,4,25]
 [12,14,15,13,16,17,18,19,20,21,22,23,24,25]<|.cond 25 (.naming 3 (.region [m 26 3,m 27 4,o 28 (.bslice 1 1 [.v (.int .i64 (0))] [(0,27)]),o 29 (.append 1 8 26 28),m 3 29] [0,3,4] [])) .skip))<|.region [m 10 4,ad 11 10 1,m 4 11] [0,3,4] [])))<|s [m 30 3,m 2 30] [2]<|.ret
theorem Cd.s_l09Groups_k:CK 228 Tryz.f228 Cd.nJ 31 [.tmp 2]:=ck Tryz.func228
def Cd.qM:aD:=s [mn 2] [0]<|.seq (.naming 3 (.region [o 7 (.bslice 1 0 [.v (.int .i64 (0))] []),m 3 7] [0,3] []))<|.seq (s [mi 4 0] [0,3,4]<|.block 0 (.loop (.seq (s [m 8 4,m 9 0,ln 10 9,ls 11 8 10] [0,3,4,11]<|.cond 11 .skip (.exit 0))<|.seq (.block 1 (s [m 14 3,ln 15 14,m 5 15] [0,3,4,5]<|.seq (.block 2 (.loop
 (.seq (r [m 16 5,o 17 (.bin .gtr 16 (k 0)),m 18 17,mg 19 0 18 true,mg 20 4 18 true,⟨some 21,.idxSl 1 19 20,some (18,true)⟩,lg 22 1 21 18 true,mg 23 0 18 true,mg 24 3 18 true,mg 25 5 18 true,⟨some 26,.bin .sub 25 (k 1),some (18,true)⟩,⟨some 27,.idxSl 1 24 26,some (18,true)⟩,lg 28 1 27 18 true,⟨some
 29,.idxSl 1 23 28,some (18,true)⟩,lg 30 1 29 18 true,⟨some 31,.call (.func F.fP) [22,30] [],some (18,true)⟩,⟨some 32,.bin .lss 31 (k 0),some (18,true)⟩,pf 33 18 32] [0,3,4,5,33] [16,18,19,17,20,21,22,23,24,25,26,27,28,29,30,31,32,33]<|.cond 33 .skip (.exit 2))<|.block 3 (.region [m 34
 5,o 35 (.bin .sub 34 (k 1)),m 5 35] [0,3,4,5] []))))<|.seq (.naming 6 (.region [m 36 3,m 37 5,o 38 (.slc 1 36 none (some 37)),c 39 F.qO [38],m 40 4,o 41 (.bslice 1 1 [.v (.int .i64 (0))] [(0,40)]),o 42 (.append 1 8 39 41),m 6 42] [0,3,4,5,6] []))<|.naming 3 (.region [m 43 6,m 44 3,m 45 5,o
 46 (.slc 1 44 (some 45) none),o 47 (.append 1 8 43 46),m 3 47] [0,3,4] [])))<|.region [m 12 4,ad 13 12 1,m 4 13] [0,3,4] [])))<|s [m 48 3,m 2 48] [2]<|.ret
theorem Cd.s_l07Places_k:CK 229 Tryz.f229 Cd.qM 49 [.tmp 2]:=ck Tryz.func229
def Cd.sP:aD:=s [bx 5 2,mn 6,mn 7,mi 8 0] [0,1,5]<|.seq (s [m 13 0,c 14 F.jZ [13],nt 15 14,m 16 15,mg 17 1 16 false,⟨some 18,.call (.func F.jZ) [17] [],some (16,false)⟩,⟨some 19,.un .not 18,some (16,false)⟩,pt 20 16 19] [0,1,5,20]<|.cond 20 (s [mn 6,mn 7,mi 8 1] [6,7,8]<|.ret) .skip)<|.seq (r
 [lt 21 2 5,m 22 0,c 23 F.jJ [22],c 24 F.fD [21,23],nt 25 24,m 26 25,⟨some 27,.load true 2 5,some (26,false)⟩,mg 28 1 26 false,⟨some 29,.call (.func F.jJ) [28] [],some (26,false)⟩,⟨some 30,.call (.func F.fD) [27,29] [],some (26,false)⟩,⟨some 31,.un .not
 30,some (26,false)⟩,pt 32 26 31] [0,1,5,32] [21,22,23,24,25,26,27,28,29,30,31,32]<|.cond 32 (s [mn 6,mn 7,mi 8 2] [6,7,8]<|.ret) .skip)<|s [m 34 0,lt 35 2 5,c 36 F.jX [34,35],m 33 36,ex 37 33 0,ex 38 33 1,m 9 37,m 10 38] [1,5,9,10]<|s [m 40 1,lt 41 2 5,c 42 F.jX [40,41],m 39 42,ex
 43 39 0,ex 44 39 1,m 11 43,m 12 44] [9,10,11,12]<|.seq (s [m 45 10,ne 46 45 0,m 47 46,mg 48 12 47 false,⟨some 49,.bin .neq 48 (k 0),some (47,false)⟩,pt 50 47 49] [9,11,50]<|.cond 50 (s [mn 6,mn 7,mi 8 8] [6,7,8]<|.ret) .skip)<|s [m 51 9,m 52 11,m 6 51,m 7 52,mi 8 0] [6,7,8]<|.ret
theorem Cd.s_l09Two_k:CK 230 Tryz.f230 Cd.sP 53 [.tmp 6,.tmp 7,.tmp 8]:=ck Tryz.func230
def Cd.nK:aD:=s [mi 2 0] [0]<|.seq (s [mi 3 1] [0,3]<|.block 0 (.loop (.seq (s [m 4 3,m 5 0,ln 6 5,ls 7 4 6] [0,3,7]<|.cond 7 .skip (.exit 0))<|.seq (.block 1 (r [m 10 0,m 11 3,ix 12 1 10 11,lf 13 1 12,m 14 0,m 15 3,o 16 (.bin .sub 15 (k 1)),ix 17 1 14 16,lf 18 1 17,c 19 F.fP [13,18],o 20 (.bin .lss
 19 (k 0))] [0,3,20] [10,11,13,14,12,15,16,17,18,19,20]<|.cond 20 (s [m 21 3,m 2 21] [2]<|.ret) .skip))<|.region [m 8 3,ad 9 8 1,m 3 9] [0,3] [])))<|s [mi 2 (-1)] [2]<|.ret
theorem Cd.s_l07Step_k:CK 231 Tryz.f231 Cd.nK 22 [.tmp 2]:=ck Tryz.func231
def Cd.sQ:aD:=.seq (.naming 8 (.region [mn 8] [0,1,2,3,8] []))<|.seq (.naming 9 (.region [o 12 (.bslice 1 0 [.v (.slice none 0 0)] []),m 9 12] [0,1,2,3,9] []))<|s [mi 10 0] [0,1,2,3,9,10]<|.seq (s [mi 11 0] [0,1,2,3,9,10,11]<|.block 0 (.loop (.seq (s [m 13 11,m 14 0,ln 15 14,ls 16 13 15]
 [0,1,2,3,9,10,11,16]<|.cond 16 .skip (.exit 0))<|.seq (.block 1 (.seq (.block 2 (.loop (.seq (r [m 19 10,m 20 1,ln 21 20,ls 22 19 21,m 23 22,mg 24 3 23 true,mg 25 10 23 true,⟨some 26,.idxSl 1 24 25,some (23,true)⟩,lg 27 1 26 23 true,mg 28 2 23 true,mg 29 11 23 true,⟨some 30,.idxSl 1 28 29,some
 (23,true)⟩,lg 31 1 30 23 true,⟨some 32,.call (.func F.fP) [27,31] [],some (23,true)⟩,⟨some 33,.bin .lss 32 (k 0),some (23,true)⟩,pf 34 23 33] [0,1,2,3,9,10,11,34] [19,20,21,22,23,24,25,26,27,28,29,30,31,32,33,34]<|.cond 34 .skip (.exit 2))<|.block 3 (.seq (.naming 9 (.region [m 35 9,m 36
 1,m 37 10,ix 38 1 36 37,c 39 F.jO [38],o 40 (.bslice 1 1 [.v (.slice none 0 0)] [(0,39)]),o 41 (.append 1 24 35 40),m 9 41] [0,1,2,3,9,10,11] []))<|.region [m 42 10,ad 43 42 1,m 10 43] [0,1,2,3,9,10,11] []))))<|.naming 9 (.region [m 44 9,m 45 0,m 46 11,ix 47 1 45 46,c 48 F.jO [47],o
 49 (.bslice 1 1 [.v (.slice none 0 0)] [(0,48)]),o 50 (.append 1 24 44 49),m 9 50] [0,1,2,3,9,10,11] [])))<|.region [m 17 11,ad 18 17 1,m 11 18] [0,1,2,3,9,10,11] [])))<|.seq (.naming 8 (.region [m 51 9,m 52 1,m 53 10,o 54 (.slc 1 52 (some 53) none),c 55 F.pY [54],o 56 (.append 1 24 51
 55),m 8 56] [8] []))<|.ret
theorem Cd.s_l09Merge_k:CK 232 Tryz.f232 Cd.sQ 57 [.tmp 8]:=ck Tryz.func232
def Cd.yH:aD:=s [bx 4 1,mn 6,mi 7 0] [0,2,4]<|s [m 14 0,lt 15 2 4,c 16 F.jX [14,15],m 13 16,ex 17 13 0,ex 18 13 1,m 8 17,m 9 18] [2,4,8,9]<|.seq (s [m 19 9,ne 20 19 0,m 21 20,mg 22 9 21 true,⟨some 23,.bin .neq 22 (k 8),some (21,true)⟩,pf 24 21 23] [2,4,8,9,24]<|.cond 24 (s [m 25 9,mn 6,m 7 25]
 [6,7]<|.ret) .skip)<|s [mi 10 0] [2,4,8,9,10]<|.seq (s [mi 11 0] [2,4,8,9,10,11]<|.block 0 (.loop (.seq (s [m 26 11,m 27 2,ln 28 27,ls 29 26 28] [2,4,8,9,10,11,29]<|.cond 29 .skip (.exit 0))<|.seq (.block 1 (r [m 32 2,m 33 11,ix 34 1 32 33,lf 35 1 34,lt 36 2 4,c 37 F.sF [35,36],m 12 37]
 [2,4,8,9,10,11,12] [32,33,35,36,34,37]<|.seq (s [m 38 12,en 39 38 2,m 40 39,mg 41 10 40 false,⟨some 42,.bin .eql 41 (k 0),some (40,false)⟩,pt 43 40 42] [2,4,8,9,10,11,12,43]<|.cond 43 (.region [m 44 12,m 10 44] [2,4,8,9,10,11] []) .skip)<|s [m 45 10,en 46 45 2] [2,4,8,9,10,11,46]<|.cond 46 (.exit 0)
 .skip))<|.region [m 30 11,ad 31 30 1,m 11 31] [2,4,8,9,10,11] [])))<|.seq (s [m 47 10,ne 48 47 0] [8,9,10,48]<|.cond 48 (s [m 49 10,mn 6,m 7 49] [6,7]<|.ret) .skip)<|s [m 50 8,m 51 9,m 6 50,m 7 51] [6,7]<|.ret
theorem Cd.s_l09Ask_k:CK 233 Tryz.f233 Cd.yH 52 [.tmp 6,.tmp 7]:=ck Tryz.func233
def Cd.pV:aD:=s [mn 6,mn 7] [0,1,2]<|.seq (.naming 8 (.region [o 11 (.bslice 1 0 [.v (.slice none 0 0)] []),m 8 11] [0,1,2,8] []))<|.seq (.naming 9 (.region [o 12 (.bslice 1 0 [.v (.slice none 0 0)] []),m 9 12] [0,1,2,8,9] []))<|.seq (s [mi 10 0] [0,1,2,8,9,10]<|.block 0 (.loop (.seq (s [m 13 10,m 14 0,ln 15 14,ls
 16 13 15] [0,1,2,8,9,10,16]<|.cond 16 .skip (.exit 0))<|.seq (.block 1 (s [m 19 2,m 20 1,m 21 10,ix 22 1 20 21,lf 23 1 22,c 24 F.yG [19,23]] [0,1,2,8,9,10,24]<|.cond 24 (.naming 8 (.region [m 25 8,m 26 0,m 27 10,ix 28 1 26 27,c 29 F.jO [28],o 30 (.bslice 1 1 [.v (.slice none 0 0)]
 [(0,29)]),o 31 (.append 1 24 25 30),m 8 31] [0,1,2,8,9,10] [])) (.naming 9 (.region [m 32 9,m 33 0,m 34 10,ix 35 1 33 34,c 36 F.jO [35],o 37 (.bslice 1 1 [.v (.slice none 0 0)] [(0,36)]),o 38 (.append 1 24 32 37),m 9 38] [0,1,2,8,9,10] []))))<|.region [m 17 10,ad 18 17 1,m 10 18]
 [0,1,2,8,9,10] [])))<|s [m 39 8,m 40 9,m 6 39,m 7 40] [6,7]<|.ret
theorem Cd.s_l09Match_k:CK 234 Tryz.f234 Cd.pV 41 [.tmp 6,.tmp 7]:=ck Tryz.func234
def Cd.zI:aD:=s [mi 2 0,mf 3] [0]<|.seq (.block 0 (s [m 5 0,o 6 (.bin .eql 5 (.const (.int .u8 (32)))),m 4 6] [0,4]<|.cond 4 (s [mi 2 0,mt 3] [2,3]<|.ret) (s [m 8 0,o 9 (.bin .eql 8 (.const (.int .u8 (38)))),m 7 9] [0,7]<|.cond 7 (s [c 10 F.fA [(k 12)],m 2 10,mt 3] [2,3]<|.ret) (s [m 12 0,o 13 (.bin .eql
 12 (.const (.int .u8 (45)))),m 11 13] [0,11]<|.cond 11 (s [c 14 F.fA [(k 11)],m 2 14,mt 3] [2,3]<|.ret) (s [m 16 0,c 17 F.wE [16],m 15 17] [0,15]<|.cond 15 (s [m 18 0,o 19 (.bin .sub 18 (.const (.int .u8 (48)))),o 20 (.conv .i64 19),c 21 F.fA [20],m 2 21,mt 3] [2,3]<|.ret)
 (s [m 23 0,o 24 (.bin .geq 23 (.const (.int .u8 (65)))),m 25 24,mg 26 0 25 true,⟨some 27,.bin .leq 26 (.const (.int .u8 (73))),some (25,true)⟩,pf 28 25 27,m 22 28] [0,22]<|.cond 22 (s [c 29 F.fA [(k 12)],m 30 0,o 31 (.bin .sub 30 (.const (.int .u8 (65)))),o 32 (.conv .i64 31),ad 33 32 1,c 34
 F.fA [33],o 35 (.bin .or 29 34),m 2 35,mt 3] [2,3]<|.ret) (s [m 37 0,o 38 (.bin .geq 37 (.const (.int .u8 (74)))),m 39 38,mg 40 0 39 true,⟨some 41,.bin .leq 40 (.const (.int .u8 (82))),some (39,true)⟩,pf 42 39 41,m 36 42] [0,36]<|.cond 36 (s [c 43 F.fA [(k 11)],m 44 0,o 45 (.bin .sub
 44 (.const (.int .u8 (74)))),o 46 (.conv .i64 45),ad 47 46 1,c 48 F.fA [47],o 49 (.bin .or 43 48),m 2 49,mt 3] [2,3]<|.ret) (s [m 51 0,o 52 (.bin .eql 51 (.const (.int .u8 (47)))),m 50 52] [0,50]<|.cond 50 (s [c 53 F.fA [(k 0)],c 54 F.fA [(k 1)],o 55 (.bin .or 53 54),m 2 55,mt
 3] [2,3]<|.ret) (s [m 57 0,o 58 (.bin .geq 57 (.const (.int .u8 (83)))),m 59 58,mg 60 0 59 true,⟨some 61,.bin .leq 60 (.const (.int .u8 (90))),some (59,true)⟩,pf 62 59 61,m 56 62] [0,56]<|.cond 56 (s [c 63 F.fA [(k 0)],m 64 0,o 65 (.bin .sub 64 (.const (.int .u8 (83)))),o 66 (.conv .i64
 65),ad 67 66 2,c 68 F.fA [67],o 69 (.bin .or 63 68),m 2 69,mt 3] [2,3]<|.ret) .skip)))))))))<|s [mi 2 0,mf 3] [2,3]<|.ret
theorem Cd.i_CodeOf_k:CK 235 Tryz.f235 Cd.zI 70 [.tmp 2,.tmp 3]:=ck Tryz.func235
def Cd.jW:aD:=s [mi 6 20] [0,1,2,6]<|s [m 10 6,mi 7 0,m 8 10] [0,1,2,6,7,8]<|.seq (.block 0 (.loop (.seq (s [m 11 8,m 12 1,o 13 (.bin .leq 11 12)] [0,1,2,6,7,8,13]<|.cond 13 .skip (.exit 0))<|.block 1 (s [m 14 0,m 15 7,m 16 8,m 17 2,o 18 (.call (.func F.fZ) [14,15,16,17] [0])]
 [0,1,2,6,8]<|s [m 19 8,m 7 19] [0,1,2,6,7,8]<|.region [m 20 8,m 21 6,o 22 (.bin .add 20 21),m 8 22] [0,1,2,6,7,8] []))))<|s [m 23 0,m 24 7,m 25 1,m 26 2,o 27 (.call (.func F.fZ) [23,24,25,26] [0])] [0,1,2,6]<|.block 2 (.loop (.seq (s [m 28 6,m 29 1,ls 30 28 29]
 [0,1,2,6,30]<|.cond 30 .skip (.exit 2))<|.block 3 (s [m 31 6,o 32 (.bin .mul (k 2) 31),mi 7 0,m 8 32] [0,1,2,6,7,8]<|.seq (.block 4 (.loop (.seq (s [m 33 8,m 34 1,o 35 (.bin .leq 33 34)] [0,1,2,6,7,8,35]<|.cond 35 .skip (.exit 4))<|.block 5 (s [m 36 0,m 37 7,m 38 7,m 39 6,o 40 (.bin .add 38 39),m 41
 8,m 42 2,o 43 (.call (.func F.aX) [36,37,40,41,42] [0])] [0,1,2,6,8]<|s [m 44 8,m 7 44] [0,1,2,6,7,8]<|.region [m 45 8,m 46 6,o 47 (.bin .mul (k 2) 46),o 48 (.bin .add 45 47),m 8 48] [0,1,2,6,7,8] []))))<|.seq (s [m 49 7,m 50 6,o 51 (.bin .add 49 50),m 9 51]
 [0,1,2,6,7,9]<|s [m 52 9,m 53 1,ls 54 52 53] [0,1,2,6,7,9,54]<|.cond 54 (.region [m 55 0,m 56 7,m 57 9,m 58 1,m 59 2,o 60 (.call (.func F.aX) [55,56,57,58,59] [0])] [0,1,2,6] []) .skip)<|.region [m 61 6,o 62 (.bin .mul 61 (k 2)),m 6 62] [0,1,2,6] [])))
theorem Cd.stable_int64__k:CK 236 Tryz.f236 Cd.jW 63 []:=ck Tryz.func236
def Cd.aAl:aD:=s [o 2 (.alloc [.v (.slice none 0 0)])] [0,2]<|s [m 3 0,o 4 (.mk 1 8 [.v (.int .i64 (0))] 3),o 5 (.build [.v (.slice none 0 0)] [(0,1,4)]),⟨none,.store 1 2 5,none⟩] [2]<|.ret
theorem Cd.i_blank_k:CK 237 Tryz.f237 Cd.aAl 6 [.cell 2 104]:=ck Tryz.func237
def Cd.yI:aD:=s [bx 3 1,o 4 (.mv (.const (.string ⟨#[]⟩))),mf 5] [0,3]<|s [m 6 0,lt 7 2 3,c 8 F.nL [6,7],c 9 F.vH [8],ex 10 9 0,ex 11 9 1,m 4 10,m 5 11] [4,5]<|.ret
theorem Cd.s_l03Key_k:CK 238 Tryz.f238 Cd.yI 12 [.tmp 4,.tmp 5]:=ck Tryz.func238
def Cd.fP:aD:=s [mi 4 0] [0,1]<|.seq (s [mi 5 0] [0,1,5]<|.block 0 (.loop (.seq (s [m 8 5,m 9 0,o 10 (.lenS 9),ls 11 8 10] [0,1,5,11]<|.cond 11 .skip (.exit 0))<|.seq (.block 1 (s [m 14 0,m 15 5,o 16 (.idxStr 14 15),c 17 F.sG [16],m 6 17] [0,1,5,6]<|s [m 18 1,m 19 5,o 20 (.idxStr 18 19),c 21
 F.sG [20],m 7 21] [0,1,5,6,7]<|.block 2 (s [m 23 6,m 24 7,ls 25 23 24,m 22 25] [0,1,5,6,7,22]<|.cond 22 (s [mi 4 (-1)] [4]<|.ret) (s [m 27 6,m 28 7,o 29 (.bin .gtr 27 28),m 26 29] [0,1,5,26]<|.cond 26 (s [mi 4 1] [4]<|.ret) .skip))))<|.region [m 12 5,ad 13 12 1,m 5 13] [0,1,5] [])))<|s [mi
 4 0] [4]<|.ret
theorem Cd.s_l03Compare_k:CK 239 Tryz.f239 Cd.fP 30 [.tmp 4]:=ck Tryz.func239
def Cd.yG:aD:=s [mf 4] [0,1]<|.seq (s [mi 5 0] [0,1,5]<|.block 0 (.loop (.seq (s [m 6 5,m 7 0,ln 8 7,ls 9 6 8] [0,1,5,9]<|.cond 9 .skip (.exit 0))<|.seq (.block 1 (s [m 12 0,m 13 5,ix 14 1 12 13,lf 15 1 14,m 16 1,o 17 (.binS .eql 15 16)] [0,1,5,17]<|.cond 17 (s [mt 4] [4]<|.ret) .skip))<|.region [m 10 5,ad 11 10
 1,m 5 11] [0,1,5] [])))<|s [mf 4] [4]<|.ret
theorem Cd.s_l09Has_k:CK 240 Tryz.f240 Cd.yG 18 [.tmp 4]:=ck Tryz.func240
def Cd.wE:aD:=s [mf 2] [0]<|s [m 3 0,o 4 (.bin .geq 3 (.const (.int .u8 (48)))),m 5 4,mg 6 0 5 true,⟨some 7,.bin .leq 6 (.const (.int .u8 (57))),some (5,true)⟩,pf 8 5 7,m 2 8] [2]<|.ret
theorem Cd.i_isDigit_k:CK 241 Tryz.f241 Cd.wE 9 [.tmp 2]:=ck Tryz.func241
def Cd.fZ:aD:=s [m 10 1,ad 11 10 1,m 8 11] [0,1,2,3,8]<|.block 0 (.loop (.seq (s [m 12 8,m 13 2,ls 14 12 13] [0,1,2,3,8,14]<|.cond 14 .skip (.exit 0))<|.seq (.block 1 (s [m 17 8,m 9 17] [0,1,2,3,8,9]<|.block 2 (.loop (.seq (r [m 18 9,m 19 1,o 20 (.bin .gtr 18 19),m 21 20,mg 22 3 21 true,mg 23 0 21 true,mg 24 9 21
 true,⟨some 25,.idxSl 1 23 24,some (21,true)⟩,lg 26 1 25 21 true,mg 27 0 21 true,mg 28 9 21 true,⟨some 29,.bin .sub 28 (k 1),some (21,true)⟩,⟨some 30,.idxSl 1 27 29,some (21,true)⟩,lg 31 1 30 21 true,⟨some 32,.call 22 [26,31] [],some (21,true)⟩,⟨some 33,.bin .lss 32 (k 0),some (21,true)⟩,pf 34 21 33]
 [0,1,2,3,8,9,34] [18,19,21,22,20,23,24,25,26,27,28,29,30,31,32,33,34]<|.cond 34 .skip (.exit 2))<|.seq (.block 3 (.region [m 37 0,m 38 9,m 39 0,m 40 9,o 41 (.bin .sub 40 (k 1)),m 42 0,m 43 9,o 44 (.bin .sub 43 (k 1)),ix 45 1 42 44,lf 46 1 45,m 47 0,m 48 9,ix 49 1 47 48,lf 50 1 49,ix 51 1 37
 38,⟨none,.store 1 51 46,none⟩,ix 52 1 39 41,⟨none,.store 1 52 50,none⟩] [0,1,2,3,8,9] [37,38,39,40,41,42,43,44,45,46,47,48,49,50,51]))<|.region [m 35 9,o 36 (.bin .sub 35 (k 1)),m 9 36] [0,1,2,3,8,9] []))))<|.region [m 15 8,ad 16 15 1,m 8 16] [0,1,2,3,8] []))
theorem Cd.insort_int64__k:CK 242 Tryz.f242 Cd.fZ 53 []:=ck Tryz.func242
def Cd.aX:aD:=.seq (s [m 25 2,m 26 1,o 27 (.bin .sub 25 26),en 28 27 1] [0,1,2,3,4,28]<|.cond 28 (s [m 29 2,m 10 29] [0,1,3,4,10]<|s [m 30 3,m 11 30] [0,1,4,10,11]<|.seq (.block 0 (.loop (.seq (s [m 31 10,m 32 11,ls 33 31 32] [0,1,4,10,11,33]<|.cond 33 .skip (.exit 0))<|.block 1 (s [m 34 10,m 35 11,o 36 (.bin .add
 34 35),o 37 (.conv .u64 36),o 38 (.bin .shr 37 (.const (.int .u64 (1)))),o 39 (.conv .i64 38),m 12 39] [0,1,4,10,11,12]<|r [m 40 4,m 41 0,m 42 12,ix 43 1 41 42,lf 44 1 43,m 45 0,m 46 1,ix 47 1 45 46,lf 48 1 47,o 49 (.call 40 [44,48] []),o 50 (.bin .lss 49 (k 0))] [0,1,4,10,11,12,50]
 [40,41,42,43,44,45,46,47,48,49,50]<|.cond 50 (.region [m 51 12,ad 52 51 1,m 10 52] [0,1,4,10,11] []) (.region [m 53 12,m 11 53] [0,1,4,10,11] [])))))<|.seq (s [m 54 1,m 13 54] [0,10,13]<|.block 2 (.loop (.seq (s [m 55 13,m 56 10,o 57 (.bin .sub 56 (k 1)),ls 58 55 57] [0,10,13,58]<|.cond 58 .skip
 (.exit 2))<|.seq (.block 3 (.region [m 61 0,m 62 13,m 63 0,m 64 13,ad 65 64 1,m 66 0,m 67 13,ad 68 67 1,ix 69 1 66 68,lf 70 1 69,m 71 0,m 72 13,ix 73 1 71 72,lf 74 1 73,ix 75 1 61 62,⟨none,.store 1 75 70,none⟩,ix 76 1 63 65,⟨none,.store 1 76 74,none⟩] [0,10,13]
 [61,62,63,64,65,66,67,68,69,70,71,72,73,74,75]))<|.region [m 59 13,ad 60 59 1,m 13 60] [0,10,13] [])))<|.ret) .skip)<|.seq (s [m 77 3,m 78 2,o 79 (.bin .sub 77 78),en 80 79 1] [0,1,2,3,4,80]<|.cond 80 (s [m 81 1,m 14 81] [0,2,4,14]<|s [m 82 2,m 15 82] [0,2,4,14,15]<|.seq (.block 4 (.loop (.seq (s [m
 83 14,m 84 15,ls 85 83 84] [0,2,4,14,15,85]<|.cond 85 .skip (.exit 4))<|.block 5 (s [m 86 14,m 87 15,o 88 (.bin .add 86 87),o 89 (.conv .u64 88),o 90 (.bin .shr 89 (.const (.int .u64 (1)))),o 91 (.conv .i64 90),m 16 91] [0,2,4,14,15,16]<|r [m 92 4,m 93 0,m 94 2,ix 95 1 93 94,lf 96 1 95,m 97 0,m 98
 16,ix 99 1 97 98,lf 100 1 99,o 101 (.call 92 [96,100] []),o 102 (.bin .lss 101 (k 0)),nt 103 102] [0,2,4,14,15,16,103] [92,93,94,95,96,97,98,99,100,101,102,103]<|.cond 103 (.region [m 104 16,ad 105 104 1,m 14 105] [0,2,4,14,15] []) (.region [m 106 16,m 15 106] [0,2,4,14,15] [])))))<|.seq (s [m 107
 2,m 17 107] [0,14,17]<|.block 6 (.loop (.seq (s [m 108 17,m 109 14,o 110 (.bin .gtr 108 109)] [0,14,17,110]<|.cond 110 .skip (.exit 6))<|.seq (.block 7 (.region [m 113 0,m 114 17,m 115 0,m 116 17,o 117 (.bin .sub 116 (k 1)),m 118 0,m 119 17,o 120 (.bin .sub 119 (k 1)),ix 121 1 118 120,lf 122 1 121,m
 123 0,m 124 17,ix 125 1 123 124,lf 126 1 125,ix 127 1 113 114,⟨none,.store 1 127 122,none⟩,ix 128 1 115 117,⟨none,.store 1 128 126,none⟩] [0,14,17] [113,114,115,116,117,118,119,120,121,122,123,124,125,126,127]))<|.region [m 111 17,o 112 (.bin .sub 111 (k 1)),m 17 112] [0,14,17] [])))<|.ret) .skip)<|s
 [m 129 1,m 130 3,o 131 (.bin .add 129 130),o 132 (.conv .u64 131),o 133 (.bin .shr 132 (.const (.int .u64 (1)))),o 134 (.conv .i64 133),m 18 134] [0,1,2,3,4,18]<|s [m 135 18,m 136 2,o 137 (.bin .add 135 136),m 19 137] [0,1,2,3,4,18,19]<|s [mi 20 0,mi 21 0] [0,1,2,3,4,18,19]<|.seq (s [m 138 2,m 139
 18,o 140 (.bin .gtr 138 139)] [0,1,2,3,4,18,19,140]<|.cond 140 (s [m 141 19,m 142 3,o 143 (.bin .sub 141 142),m 20 143] [0,1,2,3,4,18,19,20]<|.region [m 144 18,m 21 144] [0,1,2,3,4,18,19,20,21] []) (s [m 145 1,m 20 145] [0,1,2,3,4,18,19,20]<|.region [m 146 2,m 21 146] [0,1,2,3,4,18,19,20,21] []))<|s
 [m 147 19,o 148 (.bin .sub 147 (k 1)),m 22 148] [0,1,2,3,4,18,19,20,21,22]<|.seq (.block 8 (.loop (.seq (s [m 149 20,m 150 21,ls 151 149 150] [0,1,2,3,4,18,19,20,21,22,151]<|.cond 151 .skip (.exit 8))<|.block 9 (s [m 152 20,m 153 21,o 154 (.bin .add 152 153),o 155 (.conv .u64 154),o 156 (.bin .shr
 155 (.const (.int .u64 (1)))),o 157 (.conv .i64 156),m 23 157] [0,1,2,3,4,18,19,20,21,22,23]<|r [m 158 4,m 159 0,m 160 22,m 161 23,o 162 (.bin .sub 160 161),ix 163 1 159 162,lf 164 1 163,m 165 0,m 166 23,ix 167 1 165 166,lf 168 1 167,o 169 (.call 158 [164,168] []),o 170 (.bin .lss 169 (k 0)),nt 171
 170] [0,1,2,3,4,18,19,20,21,22,23,171] [158,159,160,161,162,163,164,165,166,167,168,169,170,171]<|.cond 171 (.region [m 172 23,ad 173 172 1,m 20 173] [0,1,2,3,4,18,19,20,21,22] []) (.region [m 174 23,m 21 174] [0,1,2,3,4,18,19,20,21,22] [])))))<|s [m 175 19,m 176 20,o 177 (.bin .sub 175 176),m 24
 177] [0,1,2,3,4,18,20,24]<|.seq (s [m 178 20,m 179 2,ls 180 178 179,m 181 180,mg 182 2 181 true,mg 183 24 181 true,⟨some 184,.bin .lss 182 183,some (181,true)⟩,pf 185 181 184] [0,1,2,3,4,18,20,24,185]<|.cond 185 (.region [m 186 0,m 187 20,m 188 2,m 189 24,m 190 4,o 191 (.call (.func
 F.j6) [186,187,188,189,190] [0])] [0,1,3,4,18,20,24] []) .skip)<|.seq (s [m 192 1,m 193 20,ls 194 192 193,m 195 194,mg 196 20 195 true,mg 197 18 195 true,⟨some 198,.bin .lss 196 197,some (195,true)⟩,pf 199 195 198] [0,1,3,4,18,20,24,199]<|.cond 199 (.region [m 200 0,m 201 1,m
 202 20,m 203 18,m 204 4,o 205 (.call (.func F.aX) [200,201,202,203,204] [0])] [0,3,4,18,24] []) .skip)<|s [m 206 18,m 207 24,ls 208 206 207,m 209 208,mg 210 24 209 true,mg 211 3 209 true,⟨some 212,.bin .lss 210 211,some (209,true)⟩,pf 213 209 212] [0,3,4,18,24,213]<|.cond
 213 (.region [m 214 0,m 215 18,m 216 24,m 217 3,m 218 4,o 219 (.call (.func F.aX) [214,215,216,217,218] [0])] [] []) .skip
theorem Cd.symMerge_int64__k:CK 243 Tryz.f243 Cd.aX 220 []:=ck Tryz.func243
def Cd.vH:aD:=s [o 2 (.mv (.const (.string ⟨#[]⟩))),mf 3] [0]<|.seq (.naming 4 (.region [o 8 (.bslice 1 0 [.v (.int .u8 (0))] []),m 4 8] [0,4] []))<|.seq (s [mi 5 0] [0,4,5]<|.block 0 (.loop (.seq (s [m 9 5,m 10 0,ln 11 10,ls 12 9 11] [0,4,5,12]<|.cond 12 .skip (.exit 0))<|.seq (.block 1 (s [m 16 0,m 17 5,ix 18 1
 16 17,lf 19 1 18,c 20 F.vJ [19],m 15 20,ex 21 15 0,ex 22 15 1,m 6 21,m 7 22] [0,4,5,6,7]<|.seq (s [m 23 7,nt 24 23] [0,4,5,6,24]<|.cond 24 (s [o 2 (.mv (.const (.string ⟨#[]⟩))),mf 3] [2,3]<|.ret) .skip)<|.naming 4 (.region [m 25 4,m 26 6,o 27 (.bslice 1 1 [.v (.int .u8 (0))] [(0,26)]),o 28
 (.append 1 1 25 27),m 4 28] [0,4,5] [])))<|.region [m 13 5,ad 14 13 1,m 5 14] [0,4,5] [])))<|s [m 29 4,o 30 (.b2s 29),m 2 30,mt 3] [2,3]<|.ret
theorem Cd.s_l03Text_k:CK 244 Tryz.f244 Cd.vH 31 [.tmp 2,.tmp 3]:=ck Tryz.func244
def Cd.sG:aD:=s [mi 2 0] [0]<|s [c 5 F.nC [],m 3 5] [0,3]<|.seq (s [mi 4 0] [0,3,4]<|.block 0 (.loop (.seq (s [m 6 4,m 7 3,o 8 (.lenS 7),ls 9 6 8] [0,3,4,9]<|.cond 9 .skip (.exit 0))<|.seq (.block 1 (s [m 12 3,m 13 4,o 14 (.idxStr 12 13),m 15 0,o 16 (.bin .eql 14 15)] [0,3,4,16]<|.cond 16 (s [m 17 4,m 2
 17] [2]<|.ret) .skip))<|.region [m 10 4,ad 11 10 1,m 4 11] [0,3,4] [])))<|s [mi 2 (-1)] [2]<|.ret
theorem Cd.s_l03Rank_k:CK 245 Tryz.f245 Cd.sG 18 [.tmp 2]:=ck Tryz.func245
def Cd.j6:aD:=s [m 12 2,m 13 1,o 14 (.bin .sub 12 13),m 10 14] [0,2,3,4,10]<|s [m 15 3,m 16 2,o 17 (.bin .sub 15 16),m 11 17] [0,2,4,10,11]<|.seq (.block 0 (.loop (.seq (s [m 18 10,m 19 11,o 20 (.bin .neq 18 19)] [0,2,4,10,11,20]<|.cond 20 .skip (.exit 0))<|.block 1 (s [m 21 10,m 22 11,o 23 (.bin .gtr 21 22)]
 [0,2,4,10,11,23]<|.cond 23 (s [m 24 0,m 25 2,m 26 10,o 27 (.bin .sub 25 26),m 28 2,m 29 11,m 30 4,o 31 (.call (.func F.iF) [24,27,28,29,30] [0])] [0,2,4,10,11]<|.region [m 32 10,m 33 11,o 34 (.bin .sub 32 33),m 10 34] [0,2,4,10,11] []) (s [m 35 0,m 36 2,m 37 10,o 38 (.bin
 .sub 36 37),m 39 2,m 40 11,o 41 (.bin .add 39 40),m 42 10,o 43 (.bin .sub 41 42),m 44 10,m 45 4,o 46 (.call (.func F.iF) [35,38,43,44,45] [0])] [0,2,4,10,11]<|.region [m 47 11,m 48 10,o 49 (.bin .sub 47 48),m 11 49] [0,2,4,10,11] [])))))<|.region [m 50 0,m 51 2,m 52 10,o
 53 (.bin .sub 51 52),m 54 2,m 55 10,m 56 4,o 57 (.call (.func F.iF) [50,53,54,55,56] [0])] [] []
theorem Cd.rotate_int64__k:CK 246 Tryz.f246 Cd.j6 58 []:=ck Tryz.func246
def Cd.vJ:aD:=s [o 2 (.mv (.const (.int .u8 (0)))),mf 3] [0]<|s [c 6 F.nC [],m 4 6] [0,4]<|.seq (s [mi 5 0] [0,4,5]<|.block 0 (.loop (.seq (s [m 7 5,m 8 4,o 9 (.lenS 8),ls 10 7 9] [0,4,5,10]<|.cond 10 .skip (.exit 0))<|.seq (.block 1 (s [m 13 4,m 14 5,o 15 (.idxStr 13 14),c 16 F.pW [15],m 17
 0,o 18 (.bin .eql 16 17)] [0,4,5,18]<|.cond 18 (s [m 19 4,m 20 5,o 21 (.idxStr 19 20),m 2 21,mt 3] [2,3]<|.ret) .skip))<|.region [m 11 5,ad 12 11 1,m 5 12] [0,4,5] [])))<|s [o 2 (.mv (.const (.int .u8 (0)))),mf 3] [2,3]<|.ret
theorem Cd.s_l03Char_k:CK 247 Tryz.f247 Cd.vJ 22 [.tmp 2,.tmp 3]:=ck Tryz.func247
def Cd.iF:aD:=s [mi 10 0] [0,1,2,3,10]<|.block 0 (.loop (.seq (s [m 11 10,m 12 3,ls 13 11 12] [0,1,2,3,10,13]<|.cond 13 .skip (.exit 0))<|.seq (.block 1 (.region [m 16 0,m 17 1,m 18 10,o 19 (.bin .add 17 18),m 20 0,m 21 2,m 22 10,o 23 (.bin .add 21 22),m 24 0,m 25 2,m 26 10,o 27 (.bin .add 25 26),ix 28 1 24 27,lf
 29 1 28,m 30 0,m 31 1,m 32 10,o 33 (.bin .add 31 32),ix 34 1 30 33,lf 35 1 34,ix 36 1 16 19,⟨none,.store 1 36 29,none⟩,ix 37 1 20 23,⟨none,.store 1 37 35,none⟩] [0,1,2,3,10] [16,17,18,19,20,21,22,23,24,25,26,27,28,29,30,31,32,33,34,35,36]))<|.region [m 14 10,ad 15 14 1,m 10 15] [0,1,2,3,10] []))
theorem Cd.swapR_int64__k:CK 248 Tryz.f248 Cd.iF 38 []:=ck Tryz.func248
attribute [go_sem] Cd.l_FnControls Cd.aBf Cd.iO Cd.iG Cd.jR Cd.nW Cd.qP Cd.mV Cd.j5 Cd.gU Cd.lG Cd.iI Cd.kK Cd.kJ Cd.iH Cd.mI Cd.gP Cd.mJ Cd.jA Cd.iX Cd.zH Cd.mG Cd.gJ Cd.fV Cd.bA Cd.aF Cd.oU Cd.nV Cd.dQ Cd.lN Cd.gN Cd.vD Cd.sD Cd.jI Cd.xA Cd.pU Cd.jF Cd.fE Cd.eP Cd.jZ Cd.pM Cd.jJ Cd.gZ Cd.gK Cd.vC Cd.qF Cd.cZ Cd.l5 Cd.pK Cd.sV Cd.bI Cd.kI Cd.zF Cd.zZ Cd.pR Cd.jY Cd.dU Cd.fG Cd.bE Cd.qK Cd.iN Cd.tV Cd.tQ Cd.nU Cd.iE Cd.bW Cd.iY Cd.nH Cd.uA Cd.kR Cd.pO Cd.fD Cd.vG Cd.sF Cd.lF Cd.nL Cd.qL Cd.gI Cd.vK Cd.lZ Cd.rC Cd.aA0 Cd.eZ Cd.qN Cd.p8 Cd.nT Cd.tO Cd.zG Cd.yF Cd.vF Cd.yJ Cd.nC Cd.mR Cd.mQ Cd.lM Cd.l6 Cd.fQ Cd.fA Cd.wF Cd.rA Cd.pW Cd.sS Cd.pX Cd.vI Cd.eT Cd.kG Cd.vY Cd.lL Cd.zD Cd.qZ Cd.uB Cd.oV Cd.mU Cd.jU Cd.oW Cd.pY Cd.sO Cd.strings_IndexByte Cd.kF Cd.oQ Cd.tZ Cd.aAm Cd.jP Cd.qD Cd.uG Cd.eO Cd.tX Cd.qE Cd.zC Cd.tT Cd.qC Cd.eQ Cd.gD Cd.jT Cd.lQ Cd.uF Cd.gL Cd.tY Cd.jO Cd.vE Cd.pQ Cd.bQ Cd.mO Cd.jS Cd.dR Cd.qX Cd.vZ Cd.aBk Cd.fB Cd.kH Cd.fT Cd.qO Cd.mY Cd.o6 Cd.sW Cd.oF Cd.mH Cd.jQ Cd.oG Cd.bY Cd.iZ Cd.wG Cd.iU Cd.nR Cd.qY Cd.aAZ Cd.jX Cd.nJ Cd.qM Cd.sP Cd.nK Cd.sQ Cd.yH Cd.pV Cd.zI Cd.jW Cd.aAl Cd.yI Cd.fP Cd.yG Cd.wE Cd.fZ Cd.aX Cd.vH Cd.sG Cd.j6 Cd.vJ Cd.iF
end Go.Proofs.YtklmdppgonhflaaGreatDoor
