/- The code of each function, resolved. -/
import Derived.Test.YtmiiohemehacjaaGreatDoorVtC
import Derived.Test.YtmiiohemehacjaaGreatDoorRows
set_option linter.all false
set_option maxHeartbeats 8000000
namespace Go.Proofs.YtmiiohemehacjaaGreatDoor
open Go.Vs Go.Vs.Q
set_option maxRecDepth 100000
theorem Tryz.own:ownKnob Tryz.prog.godebug=none:=by kernel_rfl
theorem Tryz.laidOut:laidOutB Tryz.prog=true:=by kernel_rfl
theorem Tryz.mixed:Tryz.prog.follows .mixedOrders=true:=Tryz.checked.mixed
attribute [go_sem] reduceIte reduceCtorEq Nat.reduceEqDiff Nat.reduceLT Nat.reduceLeDiff Nat.reduceAdd Nat.reduceMul Nat.reduceSub Int.reduceToNat Int.reduceNeg
abbrev Fz [Vs.Envs] (f:FuncId) (a:List AV) (r:AV):Prop:=Vs.Fn Tryz.prog f [] a r []
structure CK (f:FuncId) (fn:Func) (ac:aF) (nt:Nat) (rs:List ResultVar):Prop where
 o:l8 Tryz.prog f fn ac
 n:fn.ntmps=nt
 r:fn.results.toList=rs
theorem ck {f:FuncId}{fn:Func}{ac:aF}{nt:Nat}{rs:List ResultVar} (h:Tryz.prog.funcs[f]? = some fn) (u:fn.body.bind (bM Tryz.prog fn.ntmps (fK Tryz.prog))=some ac.bare:=by kernel_rfl) (h2:(fn.name != "runtime.NumGoroutine")=true:=by decide +kernel) (F:fn.ntmps=nt:=by rfl) (G:fn.results.toList=rs:=by rfl):CK f fn ac nt rs:=⟨⟨h,u,h2⟩,F,G⟩
theorem fn0 [Vs.Envs] {f:FuncId}{fn:Func}{ac:aF}{nt:Nat}{rs:List ResultVar} (h:CK f fn ac nt rs) {args:List AV}{r:AV}
 (F:∀C:Ctx,wpc Tryz.prog C (fK Tryz.prog) ac (aAQ Tryz.prog rs [] r []) (λe σ=>match e with|.ret=>aAQ Tryz.prog rs [] r [] σ|.exit _=>False) ⟨ini 0 args,[]⟩) (u:Nat.ble args.length nt=true:=by rfl):Vs.Fn Tryz.prog f [] args r []:=
 h.o.fn0 Tryz.mixed h.n h.r u F
theorem fn1 [Vs.Envs] {f:FuncId}{fn:Func}{ac:aF}{nt:Nat}{rs:List ResultVar} (h:CK f fn ac nt rs) {hin:List Blk}{args:List AV}{r:AV}{u:List (Option Blk)} (B:List Vs.Name) (hout:List Blk)
 (L:∀C:Ctx,wpc Tryz.prog C (fK Tryz.prog) ac (aAQ Tryz.prog rs B r hout) (λe σ=>match e with|.ret=>aAQ Tryz.prog rs B r hout σ|.exit _=>False) ⟨ini 0 args,xW 0 hin⟩) (J:u=hout.map some:=by rfl) (F:Nat.ble args.length nt=true:=by rfl) (G:nodupB B=true:=by rfl) (I:∀j,j<hin.length->B[j]? = some (.b j):=by first|(simp;done)|(intro j H;rcases j with _|_|_|j<;>first|rfl|(simp at H;done)|(simp at H;omega))):Vs.Fn Tryz.prog f hin args r u:=
 h.o.fn Tryz.mixed nt rs B hout h.n h.r J (Cq F) G I L
theorem dM [Vs.Envs]:lL Tryz.prog (fK Tryz.prog):=qA Tryz.mixed
namespace F
abbrev l_FnBreaks:FuncId:=4
abbrev dA:FuncId:=7
abbrev dU:FuncId:=11
abbrev aA1:FuncId:=19
abbrev fP:FuncId:=20
abbrev uQ:FuncId:=21
abbrev lC:FuncId:=22
abbrev nI:FuncId:=23
abbrev uP:FuncId:=24
abbrev nT:FuncId:=25
abbrev nG:FuncId:=26
abbrev qR:FuncId:=30
abbrev iX:FuncId:=31
abbrev kY:FuncId:=35
abbrev dH:FuncId:=36
abbrev aBm:FuncId:=44
abbrev mO:FuncId:=45
abbrev jM:FuncId:=46
abbrev aV:FuncId:=47
abbrev aD:FuncId:=48
abbrev kF:FuncId:=49
abbrev kU:FuncId:=50
abbrev mD:FuncId:=51
abbrev sV:FuncId:=52
abbrev iG:FuncId:=53
abbrev fG:FuncId:=54
abbrev eO:FuncId:=55
abbrev iW:FuncId:=56
abbrev kZ:FuncId:=57
abbrev iT:FuncId:=58
abbrev iO:FuncId:=59
abbrev oH:FuncId:=60
abbrev iZ:FuncId:=61
abbrev sU:FuncId:=62
abbrev kW:FuncId:=63
abbrev aAI:FuncId:=66
abbrev iY:FuncId:=67
abbrev kD:FuncId:=68
abbrev qU:FuncId:=69
abbrev sW:FuncId:=70
abbrev lW:FuncId:=73
abbrev fF:FuncId:=74
abbrev xZ:FuncId:=75
abbrev uJ:FuncId:=81
abbrev aDV:FuncId:=82
abbrev bK:FuncId:=83
abbrev bA:FuncId:=84
abbrev fO:FuncId:=85
abbrev uO:FuncId:=86
abbrev kV:FuncId:=87
abbrev jN:FuncId:=88
abbrev pG:FuncId:=89
abbrev jE:FuncId:=90
abbrev pE:FuncId:=91
abbrev p9:FuncId:=92
abbrev bV:FuncId:=93
abbrev mY:FuncId:=94
abbrev iP:FuncId:=95
abbrev mH:FuncId:=96
abbrev sH:FuncId:=97
abbrev eP:FuncId:=98
abbrev gJ:FuncId:=99
abbrev kP:FuncId:=100
abbrev sM:FuncId:=101
abbrev jT:FuncId:=102
abbrev gP:FuncId:=103
abbrev sF:FuncId:=104
abbrev aAK:FuncId:=105
abbrev fD:FuncId:=106
abbrev kE:FuncId:=107
abbrev mM:FuncId:=108
abbrev pF:FuncId:=109
abbrev rF:FuncId:=110
abbrev mK:FuncId:=111
abbrev oM:FuncId:=112
abbrev oP:FuncId:=115
abbrev nE:FuncId:=116
abbrev oI:FuncId:=117
abbrev uK:FuncId:=118
abbrev qV:FuncId:=119
abbrev uI:FuncId:=120
abbrev bZ:FuncId:=121
abbrev p8:FuncId:=124
abbrev mX:FuncId:=125
abbrev rW:FuncId:=126
abbrev x8:FuncId:=127
abbrev oK:FuncId:=131
abbrev dL:FuncId:=132
abbrev iI:FuncId:=133
abbrev oJ:FuncId:=134
abbrev oO:FuncId:=135
abbrev uM:FuncId:=136
abbrev xH:FuncId:=137
abbrev fZ:FuncId:=138
abbrev pI:FuncId:=139
abbrev kK:FuncId:=140
abbrev lF:FuncId:=141
abbrev eQ:FuncId:=142
abbrev lU:FuncId:=143
abbrev kM:FuncId:=144
abbrev gD:FuncId:=145
abbrev fA:FuncId:=146
abbrev vB:FuncId:=147
abbrev pY:FuncId:=148
abbrev gY:FuncId:=149
abbrev kL:FuncId:=150
abbrev aA4:FuncId:=151
abbrev lT:FuncId:=152
abbrev oZ:FuncId:=153
abbrev sN:FuncId:=154
abbrev gF:FuncId:=155
abbrev dR:FuncId:=156
abbrev rH:FuncId:=157
abbrev xE:FuncId:=158
abbrev oN:FuncId:=160
abbrev yR:FuncId:=161
abbrev l5:FuncId:=162
abbrev nX:FuncId:=163
abbrev nH:FuncId:=164
abbrev lN:FuncId:=165
abbrev jG:FuncId:=166
abbrev rZ:FuncId:=168
abbrev rX:FuncId:=169
abbrev uZ:FuncId:=170
abbrev xY:FuncId:=171
abbrev pX:FuncId:=172
abbrev sI:FuncId:=173
abbrev nU:FuncId:=174
abbrev lX:FuncId:=175
abbrev jJ:FuncId:=176
abbrev rE:FuncId:=178
abbrev xI:FuncId:=179
abbrev dK:FuncId:=180
abbrev gM:FuncId:=181
abbrev rJ:FuncId:=182
abbrev jO:FuncId:=183
abbrev fM:FuncId:=184
abbrev jF:FuncId:=185
abbrev uL:FuncId:=186
abbrev qW:FuncId:=187
abbrev jR:FuncId:=188
abbrev nR:FuncId:=189
abbrev sG:FuncId:=190
abbrev zO:FuncId:=191
abbrev lV:FuncId:=192
abbrev eH:FuncId:=193
abbrev sD:FuncId:=194
abbrev iQ:FuncId:=195
abbrev rM:FuncId:=196
abbrev aAJ:FuncId:=197
abbrev mJ:FuncId:=198
abbrev rG:FuncId:=199
abbrev xG:FuncId:=200
abbrev o5:FuncId:=201
abbrev xX:FuncId:=202
abbrev rY:FuncId:=203
abbrev oW:FuncId:=204
abbrev jI:FuncId:=205
abbrev l9:FuncId:=206
abbrev uN:FuncId:=207
abbrev vD:FuncId:=208
abbrev strings_IndexByte:FuncId:=209
abbrev jH:FuncId:=210
abbrev pV:FuncId:=211
abbrev u6:FuncId:=212
abbrev fB:FuncId:=213
abbrev jU:FuncId:=214
abbrev iC:FuncId:=215
abbrev bO:FuncId:=216
abbrev bX:FuncId:=217
abbrev vC:FuncId:=218
abbrev iM:FuncId:=219
abbrev mW:FuncId:=220
abbrev pW:FuncId:=221
abbrev kI:FuncId:=222
abbrev x9:FuncId:=224
abbrev jK:FuncId:=225
abbrev zN:FuncId:=226
abbrev internal_strconv_small:FuncId:=227
abbrev internal_strconv_numDigits:FuncId:=228
abbrev internal_strconv_formatBase10:FuncId:=229
abbrev u7:FuncId:=231
abbrev gI:FuncId:=232
abbrev aY:FuncId:=233
abbrev internal_strconv_log10Pow2:FuncId:=234
abbrev jP:FuncId:=239
abbrev gZ:FuncId:=242
end F
theorem Ld.t37:tY Tryz.prog 37=some (true,2):=by kernel_rfl
theorem Ld.t41:tY Tryz.prog 41=some (true,2):=by kernel_rfl
theorem Ld.t76:tY Tryz.prog 76=some (true,9):=by kernel_rfl
theorem Ld.t64:tY Tryz.prog 64=some (true,3):=by kernel_rfl
theorem Ld.t143:tY Tryz.prog 143=some (true,1):=by kernel_rfl
theorem Ld.t179:tY Tryz.prog 179=some (true,2):=by kernel_rfl
theorem Ld.t235:tY Tryz.prog 235=some (true,1):=by kernel_rfl
attribute [go_sem] Ld.t37 Ld.t41 Ld.t76 Ld.t64 Ld.t143 Ld.t179 Ld.t235
def Cd.l_FnBreaks:aF:=s [mf 2] [0]<|.seq (s [m 29 0,c 30 F.aA1 [29]] [0,30]<|.cond 30 (s [mt 2] [2]<|.ret) .skip)<|s [m 32 0,c 33 F.fP [32],m 31 33,ex 34 31 0,ex 35 31 1,ex 36 31 2,o 3 (.alloc [.v (.slice none 0 0),.v (.slice none 0 0)]),o 5 (.alloc [.v (.int .i64 (0)),.v (.int .i64
 (0))]),⟨none,.store 2 3 34,none⟩,m 4 35,⟨none,.store 2 5 36,none⟩] [0,3,4,5]<|s [lt 38 2 3,m 39 4,lt 40 2 5,c 41 F.dU [38,39,40],m 37 41,ex 42 37 0,ex 43 37 1,m 6 42,m 7 43] [0,3,4,5,6,7]<|s [lt 45 2 3,m 46 4,lt 47 2 5,c 48 F.dA [45,46,47],m 44 48,ex 49 44 0,ex 50 44
 1,m 8 49,m 9 50] [0,3,4,5,6,7,8,9]<|s [m 52 0,c 53 F.uQ [52],m 51 53,ex 54 51 0,ex 55 51 1,ex 56 51 2,ex 57 51 3,o 10 (.alloc [.v (.slice none 0 0),.v (.slice none 0 0)]),o 12 (.alloc [.v (.int .i64 (0)),.v (.int .i64 (0))]),⟨none,.store 2 10 54,none⟩,m 11 55,⟨none,.store 2 12
 56,none⟩,m 13 57] [0,3,4,5,6,7,8,9,10,11,12,13]<|s [lt 59 2 10,m 60 11,lt 61 2 12,m 62 13,c 63 F.lC [59,60,61,62],m 58 63,ex 64 58 0,ex 65 58 1,m 14 64,m 15 65] [0,3,4,5,6,7,8,9,10,11,12,13,14,15]<|s [lt 67 2 10,m 68 11,lt 69 2 12,m 70 13,c 71 F.nI [67,68,69,70],m 66 71,ex
 72 66 0,ex 73 66 1,m 16 72,m 17 73] [0,3,4,5,6,7,8,9,14,15,16,17]<|s [m 75 0,c 76 F.uP [75],m 74 76,ex 77 74 0,ex 78 74 1,ex 79 74 2,ex 80 74 3,o 20 (.alloc [.v (.int .i64 (0)),.v (.int .i64 (0))]),o 21 (.alloc [.v (.int .i64 (0)),.v (.int .i64 (0))]),m 18 77,m 19 78,⟨none,.store 2
 20 79,none⟩,⟨none,.store 2 21 80,none⟩] [3,4,5,6,7,8,9,14,15,16,17,18,19,20,21]<|s [m 82 18,m 83 19,lt 84 2 20,lt 85 2 21,c 86 F.nT [82,83,84,85],m 81 86,ex 87 81 0,ex 88 81 1,m 22 87,m 23 88] [3,4,5,6,7,8,9,14,15,16,17,18,19,20,21,22,23]<|s [m 90 18,m 91 19,lt 92 2 20,lt 93 2 21,c 94
 F.nG [90,91,92,93],m 89 94,ex 95 89 0,ex 96 89 1,m 24 95,m 25 96] [3,4,5,6,7,8,9,14,15,16,17,22,23,24,25]<|.seq (s [m 97 7,m 98 9,o 99 (.bin .neq 97 98),m 100 99,mg 101 6 100 false,⟨some 102,.len 101,some (100,false)⟩,mg 103 8 100 false,⟨some 104,.len 103,some (100,false)⟩,⟨some 105,.bin
 .neq 102 104,some (100,false)⟩,pt 106 100 105,m 107 106,mg 108 15 107 false,mg 109 17 107 false,⟨some 110,.bin .neq 108 109,some (107,false)⟩,pt 111 107 110,m 112 111,mg 113 14 112 false,mg 114 16 112 false,⟨some 115,.bin .neq 113 114,some (112,false)⟩,pt 116 112 115,m 117 116,mg 118 23 117 false,mg
 119 25 117 false,⟨some 120,.bin .neq 118 119,some (117,false)⟩,pt 121 117 120,m 122 121,mg 123 22 122 false,mg 124 24 122 false,⟨some 125,.binB .neq 123 124,some (122,false)⟩,pt 126 122 125,m 127 126,mg 128 23 127 false,⟨some 129,.bin .eql 128 (k 0),some (127,false)⟩,mg 130 129 127 false,mg 131 22
 130 true,⟨some 132,.un .not 131,some (130,true)⟩,⟨some 133,.pick 130 132 (.const (.bool false)),some (127,false)⟩,pt 134 127 133] [3,4,5,6,7,8,134]<|.cond 134 (s [mf 2] [2]<|.ret) .skip)<|.seq (s [mi 26 0] [3,4,5,6,7,8,26]<|.block 0 (.loop (.seq (s [m 135 26,m 136 6,ln 137 136,ls 138 135 137]
 [3,4,5,6,7,8,26,138]<|.cond 138 .skip (.exit 0))<|.seq (.block 1 (r [m 141 6,m 142 26,ix 143 3 141 142,lt 144 3 143,m 145 8,m 146 26,ix 147 3 145 146,lt 148 3 147,o 149 (.eqA true [0,0,0] 144 148)] [3,4,5,6,7,8,26,149] [141,142,144,145,143,146,147,148,149]<|.cond 149 (s [mf 2] [2]<|.ret)
 .skip))<|.region [m 139 26,ad 140 139 1,m 26 140] [3,4,5,6,7,8,26] [])))<|.seq (s [m 150 7,ne 151 150 0,m 152 151,mg 153 8 152 false,⟨some 154,.len 153,some (152,false)⟩,mg 155 4 152 false,⟨some 156,.len 155,some (152,false)⟩,⟨some 157,.bin .neq 154 156,some (152,false)⟩,pt 158 152 157]
 [3,4,5,8,158]<|.cond 158 (s [mt 2] [2]<|.ret) .skip)<|s [lt 160 2 3,m 161 4,lt 162 2 5,m 163 8,c 164 F.lC [160,161,162,163],m 159 164,ex 165 159 0,ex 166 159 1,m 27 165,m 28 166] [27,28]<|s [m 167 28,en 168 167 0,m 169 168,mg 170 27 169 true,⟨some 171,.bin .eql 170 (k (-1)),some
 (169,true)⟩,pf 172 169 171,m 2 172] [2]<|.ret
theorem Cd.l_FnBreaks_k:CK 4 Tryz.f4 Cd.l_FnBreaks 173 [.tmp 2]:=ck Tryz.func4
def Cd.dA:aF:=s [bx 3 0,bx 5 2,mn 6,mi 7 0] [1,3,5]<|s [lt 9 2 5,c 10 F.qR [3,9],m 8 10] [1,3,5,8]<|.seq (s [m 11 8,en 12 11 0,m 13 12,mg 14 1 13 true,⟨some 15,.len 14,some (13,true)⟩,⟨some 16,.bin .gtr 15 (k 20),some (13,true)⟩,pf 17 13 16] [1,3,5,8,17]<|.cond 17 (.region [mi 8 2] [1,3,5,8] [])
 .skip)<|.seq (s [m 18 8,ne 19 18 0] [1,3,5,8,19]<|.cond 19 (s [m 20 8,mn 6,m 7 20] [6,7]<|.ret) .skip)<|s [m 21 1,lt 22 2 5,c 23 F.iX [3,21,22],ex 24 23 0,ex 25 23 1,m 6 24,m 7 25] [6,7]<|.ret
theorem Cd.s_ControlsAlong_k:CK 7 Tryz.f7 Cd.dA 26 [.tmp 6,.tmp 7]:=ck Tryz.func7
def Cd.dU:aF:=s [bx 3 0,bx 5 2,mn 6,mi 7 0] [1,3,5]<|.seq (s [lt 11 2 3,m 12 1,lt 13 2 5,c 14 F.kY [11,12,13],m 8 14] [1,3,5,8]<|s [m 15 8,ne 16 15 0] [1,3,5,8,16]<|.cond 16 (s [m 17 8,mn 6,m 7 17] [6,7]<|.ret) .skip)<|s [lt 19 2 3,m 20 1,lt 21 2 5,c 22 F.dH [19,20,21],m 18 22,ex 23 18
 0,ex 24 18 1,m 9 23,m 10 24] [9,10]<|.seq (s [m 25 10,nt 26 25] [9,26]<|.cond 26 (s [mn 6,mi 7 8] [6,7]<|.ret) .skip)<|s [m 27 9,m 6 27,mi 7 0] [6,7]<|.ret
theorem Cd.i_ControlsAlong_k:CK 11 Tryz.f11 Cd.dU 28 [.tmp 6,.tmp 7]:=ck Tryz.func11
def Cd.aA1:aF:=s [mf 2] [0]<|s [m 3 0,ln 4 3,o 5 (.bin .gtr 4 (k 4096)),m 2 5] [2]<|.ret
theorem Cd.l_f6big_k:CK 19 Tryz.f19 Cd.aA1 6 [.tmp 2]:=ck Tryz.func19
def Cd.fP:aF:=s [o 2 (.alloc [.v (.slice none 0 0),.v (.slice none 0 0)]),mn 3,o 4 (.alloc [.v (.int .i64 (0)),.v (.int .i64 (0))])] [0,2,4]<|s [m 5 0,c 6 F.mO [5],o 7 (.call (.func F.aBm) [6] [0]),ex 8 7 0,ex 9 7 1,ex 10 7 2,⟨none,.store 2 2 8,none⟩,m 3 9,⟨none,.store 2 4 10,none⟩]
 [2,3,4]<|.ret
theorem Cd.s_DrawControlsAlong_k:CK 20 Tryz.f20 Cd.fP 11 [.cell 2 37,.tmp 3,.cell 4 41]:=ck Tryz.func20
def Cd.lC:aF:=s [bx 4 0,bx 6 2,mi 8 0,mi 9 0] [1,3,4,6]<|s [lt 15 2 4,m 16 1,lt 17 2 6,c 18 F.kY [15,16,17],m 10 18] [1,3,4,6,10]<|.seq (.block 0 (s [m 20 10,ne 21 20 0,m 19 21] [1,3,4,6,10,19]<|.cond 19 (s [m 22 10,mi 8 0,m 9 22] [8,9]<|.ret) (s [m 24 3,ln 25 24,m 26 1,ln 27 26,o 28 (.bin .neq 25
 27),m 23 28] [1,3,4,6,23]<|.cond 23 (s [mi 8 0,mi 9 2] [8,9]<|.ret) .skip)))<|s [lt 30 2 4,m 31 1,lt 32 2 6,c 33 F.dH [30,31,32],m 29 33,ex 34 29 0,ex 35 29 1,m 11 34,m 12 35] [3,11,12]<|.seq (s [m 36 12,nt 37 36] [3,11,37]<|.cond 37 (s [mi 8 0,mi 9 8] [8,9]<|.ret) .skip)<|.seq (s [m
 38 3,ln 39 38,mi 40 0] [11,38,39,40]<|.block 1 (.loop (s [ls 41 40 39] [11,38,39,40,41]<|.seq (.cond 41 .skip (.exit 1))<|.seq (.block 2 (s [m 42 40,ix 43 3 38 40,lt 44 3 43,o 14 (.alloc [.v (.int .i64 (0)),.v (.int .i64 (0)),.v (.int .i64 (0))]),m 13 42,⟨none,.store 3 14 44,none⟩]
 [11,13,14,38,39,40]<|r [m 45 13,m 46 11,ln 47 46,o 48 (.bin .geq 45 47),m 49 48,mg 50 11 49 false,mg 51 13 49 false,⟨some 52,.idxSl 3 50 51,some (49,false)⟩,⟨some 53,.load true 3 52,some (49,false)⟩,⟨some 54,.load true 3 14,some (49,false)⟩,⟨some 55,.eqA true [0,0,0] 53 54,some (49,false)⟩,pt 56 49
 55] [11,13,38,39,40,56] [45,46,47,48,49,50,51,52,53,54,55,56]<|.cond 56 (s [m 57 13,m 8 57,mi 9 0] [8,9]<|.ret) .skip))<|.region [ad 58 40 1,m 40 58] [11,38,39,40] [])))<|s [mi 8 (-1),mi 9 0] [8,9]<|.ret
theorem Cd.i_FirstBreak_k:CK 22 Tryz.f22 Cd.lC 59 [.tmp 8,.tmp 9]:=ck Tryz.func22
def Cd.nI:aF:=s [bx 4 0,bx 6 2,mi 8 0,mi 9 0] [1,3,4,6]<|s [lt 14 2 6,c 15 F.qR [4,14],m 10 15] [1,3,4,6,10]<|.seq (s [m 16 10,en 17 16 0,m 18 17,mg 19 1 18 true,⟨some 20,.len 19,some (18,true)⟩,⟨some 21,.bin .gtr 20 (k 20),some (18,true)⟩,mg 22 21 18 true,mg 23 3 22 false,⟨some 24,.len 23,some
 (22,false)⟩,mg 25 1 22 false,⟨some 26,.len 25,some (22,false)⟩,⟨some 27,.bin .neq 24 26,some (22,false)⟩,⟨some 28,.pick 22 (.const (.bool true)) 27,some (18,true)⟩,pf 29 18 28] [1,3,4,6,10,29]<|.cond 29 (.region [mi 10 2] [1,3,4,6,10] []) .skip)<|.seq (s [m 30 10,ne 31 30 0] [1,3,4,6,10,31]<|.cond 31
 (s [m 32 10,mi 8 0,m 9 32] [8,9]<|.ret) .skip)<|s [m 34 1,lt 35 2 6,c 36 F.iX [4,34,35],m 33 36,ex 37 33 0,ex 38 33 1,m 11 37,m 12 38] [1,3,11,12]<|.seq (s [m 39 12,ne 40 39 0] [1,3,11,12,40]<|.cond 40 (s [m 41 12,mi 8 0,m 9 41] [8,9]<|.ret) .skip)<|.seq (s [mi 13 0] [1,3,11,13]<|.block 0
 (.loop (.seq (s [m 42 13,m 43 11,ln 44 43,ls 45 42 44] [1,3,11,13,45]<|.cond 45 .skip (.exit 0))<|.seq (.block 1 (r [m 48 11,m 49 13,ix 50 3 48 49,lt 51 3 50,m 52 3,m 53 13,ix 54 3 52 53,lt 55 3 54,o 56 (.eqA true [0,0,0] 51 55)] [1,3,11,13,56] [48,49,51,52,50,53,54,55,56]<|.cond 56 (s [m 57 13,m 8
 57,mi 9 0] [8,9]<|.ret) .skip))<|.region [m 46 13,ad 47 46 1,m 13 47] [1,3,11,13] [])))<|.seq (s [m 58 11,ln 59 58,m 60 1,ln 61 60,ls 62 59 61] [11,62]<|.cond 62 (s [m 63 11,ln 64 63,m 8 64,mi 9 0] [8,9]<|.ret) .skip)<|s [mi 8 (-1),mi 9 0] [8,9]<|.ret
theorem Cd.s_FirstBreak_k:CK 23 Tryz.f23 Cd.nI 65 [.tmp 8,.tmp 9]:=ck Tryz.func23
def Cd.nT:aF:=s [bx 6 2,bx 7 3,mf 8,mi 9 0] [0,1,6,7]<|.seq (.block 0 (s [m 19 0,c 20 F.iG [19],nt 21 20,m 22 21,mg 23 1 22 false,⟨some 24,.call (.func F.iG) [23] [],some (22,false)⟩,⟨some 25,.un .not 24,some (22,false)⟩,pt 26 22 25,m 18 26] [0,1,6,7,18]<|.cond 18 (s [mf 8,mi 9 1]
 [8,9]<|.ret) (r [lt 28 2 6,m 29 0,c 30 F.eO [29],c 31 F.fG [28,30],nt 32 31,m 27 32] [0,1,6,7,27] [28,29,30,31,32,27]<|.cond 27 (s [mf 8,mi 9 2] [8,9]<|.ret) .skip)))<|s [m 34 0,lt 35 2 6,c 36 F.iW [34,35],m 33 36,ex 37 33 0,ex 38 33 1,o 10 (.alloc [.v (.int
 .i64 (0)),.v (.int .i64 (0)),.v (.int .i64 (0))]),⟨none,.store 3 10 37,none⟩,m 11 38] [0,1,6,7,10,11]<|.seq (s [m 39 11,nt 40 39] [0,1,6,7,10,40]<|.cond 40 (s [mf 8,mi 9 8] [8,9]<|.ret) .skip)<|s [m 42 0,m 43 1,lt 44 2 7,c 45 F.kZ [42,43,44],m 41 45,ex 46 41 0,ex 47 41 1,m 12 46,m 13 47]
 [6,10,12,13]<|.seq (s [m 48 13,ne 49 48 0] [6,10,12,13,49]<|.cond 49 (s [m 50 13,mf 8,m 9 50] [8,9]<|.ret) .skip)<|r [m 52 12,o 53 (.idxSl 1 52 (k 0)),lf 54 1 53,lt 55 2 6,c 56 F.iW [54,55],m 51 56,ex 57 51 0,ex 58 51 1,o 14 (.alloc [.v (.int .i64 (0)),.v (.int .i64 (0)),.v (.int .i64
 (0))]),⟨none,.store 3 14 57,none⟩,m 15 58] [6,10,12,14] [52,54,55,53,56,51,57,58,14]<|r [m 60 12,o 61 (.idxSl 1 60 (k 2)),lf 62 1 61,lt 63 2 6,c 64 F.iW [62,63],m 59 64,ex 65 59 0,ex 66 59 1,o 16 (.alloc [.v (.int .i64 (0)),.v (.int .i64 (0)),.v (.int .i64 (0))]),⟨none,.store 3 16
 65,none⟩,m 17 66] [10,14,16] [60,62,63,61,64,59,65,66,16]<|r [lt 67 3 14,lt 68 3 16,c 69 F.iT [67,68,(k 1)],lt 70 3 10,o 71 (.eqA false [0,0,0] 69 70),m 8 71,mi 9 0] [8,9] [67,68,70,69,71]<|.ret
theorem Cd.i_SplitHolds_k:CK 25 Tryz.f25 Cd.nT 72 [.tmp 8,.tmp 9]:=ck Tryz.func25
def Cd.nG:aF:=s [bx 6 2,bx 7 3,mf 8,mi 9 0] [0,1,6,7]<|.seq (s [m 18 0,c 19 F.iO [18],nt 20 19,m 21 20,mg 22 1 21 false,⟨some 23,.call (.func F.iO) [22] [],some (21,false)⟩,⟨some 24,.un .not 23,some (21,false)⟩,pt 25 21 24] [0,1,6,7,25]<|.cond 25 (s [mf 8,mi 9 1] [8,9]<|.ret) .skip)<|.seq (r
 [lt 26 2 6,m 27 0,c 28 F.iZ [27],c 29 F.oH [26,28],nt 30 29] [0,1,6,7,30] [26,27,28,29,30]<|.cond 30 (s [mf 8,mi 9 2] [8,9]<|.ret) .skip)<|s [m 32 0,lt 33 2 6,c 34 F.sU [32,33],m 31 34,ex 35 31 0,ex 36 31 1,o 10 (.alloc [.v (.int .i64 (0)),.v (.int .i64 (0)),.v (.int
 .i64 (0))]),⟨none,.store 3 10 35,none⟩,m 11 36] [0,1,6,7,10,11]<|.seq (s [m 37 11,nt 38 37] [0,1,6,7,10,38]<|.cond 38 (s [mf 8,mi 9 8] [8,9]<|.ret) .skip)<|s [m 40 0,m 41 1,lt 42 2 7,c 43 F.kW [40,41,42],m 39 43,ex 44 39 0,ex 45 39 1,m 12 44,m 13 45] [6,10,12,13]<|.seq (s [m 46 13,ne 47
 46 0] [6,10,12,13,47]<|.cond 47 (s [m 48 13,mf 8,m 9 48] [8,9]<|.ret) .skip)<|r [m 50 12,o 51 (.idxSl 1 50 (k 0)),lf 52 1 51,lt 53 2 6,c 54 F.sU [52,53],m 49 54,ex 55 49 0,ex 56 49 1,o 14 (.alloc [.v (.int .i64 (0)),.v (.int .i64 (0)),.v (.int .i64 (0))]),⟨none,.store 3 14 55,none⟩,m 15 56]
 [6,10,12,14,15] [50,52,53,51,54,49,55,56,14]<|r [m 58 12,o 59 (.idxSl 1 58 (k 2)),lf 60 1 59,lt 61 2 6,c 62 F.sU [60,61],m 57 62,ex 63 57 0,ex 64 57 1,o 16 (.alloc [.v (.int .i64 (0)),.v (.int .i64 (0)),.v (.int .i64 (0))]),⟨none,.store 3 16 63,none⟩,m 17 64] [10,14,15,16,17]
 [58,60,61,59,62,57,63,64,16]<|.seq (s [m 65 15,nt 66 65,m 67 66,mg 68 17 67 false,⟨some 69,.un .not 68,some (67,false)⟩,pt 70 67 69] [10,14,16,70]<|.cond 70 (s [mf 8,mi 9 8] [8,9]<|.ret) .skip)<|s [lt 71 3 10,fa 72 0 14,lf 73 1 72,fa 74 0 16,lf 75 1 74,o 76 (.bin .add 73 75),fa 77 1 14,lf 78 1 77,fa
 79 1 16,lf 80 1 79,o 81 (.bin .add 78 80),fa 82 2 14,lf 83 1 82,fa 84 2 16,lf 85 1 84,o 86 (.bin .add 83 85),o 87 (.build [.v (.int .i64 (0)),.v (.int .i64 (0)),.v (.int .i64 (0))] [(0,1,76),(1,1,81),(2,1,86)]),o 88 (.eqA false [0,0,0] 71 87),m 8 88,mi 9 0] [8,9]<|.ret
theorem Cd.s_SplitHolds_k:CK 26 Tryz.f26 Cd.nG 89 [.tmp 8,.tmp 9]:=ck Tryz.func26
def Cd.qR:aF:=s [bx 3 1,mi 4 0] [0,3]<|.seq (s [m 5 0,c 6 F.aAI [5],nt 7 6] [0,3,7]<|.cond 7 (s [mi 4 1] [4]<|.ret) .skip)<|.seq (r [lt 8 2 3,m 9 0,c 10 F.iY [9],c 11 F.oH [8,10],nt 12 11] [12] [8,9,10,11,12]<|.cond 12 (s [mi 4 2] [4]<|.ret) .skip)<|s [mi 4 0] [4]<|.ret
theorem Cd.s_l18Code_k:CK 30 Tryz.f30 Cd.qR 13 [.tmp 4]:=ck Tryz.func30
def Cd.iX:aF:=s [bx 5 2,mn 6,mi 7 0] [0,1,5]<|s [m 15 0,c 16 F.kD [15],o 8 (.alloc [.v (.slice none 0 0),.v (.slice none 0 0)]),⟨none,.store 2 8 16,none⟩] [1,5,8]<|.seq (.naming 9 (.region [o 17 (.bslice 3 0 [.v (.int .i64 (0)),.v (.int .i64 (0)),.v (.int .i64 (0))] []),m 9 17] [1,5,8,9] []))<|.seq (s [mi
 10 0] [1,5,8,9,10]<|.block 0 (.loop (.seq (s [m 18 10,m 19 1,ln 20 19,ls 21 18 20] [1,5,8,9,10,21]<|.cond 21 .skip (.exit 0))<|.seq (.block 1 (s [m 24 1,m 25 10,ix 26 9 24 25,m 11 26] [1,5,8,9,10,11]<|.seq (s [m 27 11,c 28 F.iY [8],c 29 F.qU [27,28],nt 30 29,m 31 30,mg 32 11 31
 false,⟨some 33,.call (.func F.sW) [8,32] [0],some (31,false)⟩,⟨some 34,.bin .neq 33 (k 0),some (31,false)⟩,pt 35 31 34] [1,5,8,9,10,11,35]<|.cond 35 (.exit 0) .skip)<|s [m 36 11,nc 37 36,fa 38 3 37,lf 39 1 38,m 12 39] [1,5,8,9,10,11,12]<|.seq (s [m 40 11,nc 41 40,fa 42 0 41,lf 43 1 42,en 44
 43 7] [1,5,8,9,10,11,12,44]<|.cond 44 (.region [m 45 11,nc 46 45,fa 47 1 46,lf 48 1 47,m 12 48] [1,5,8,9,10,12] []) .skip)<|r [fa 50 0 8,lf 51 1 50,m 52 12,ix 53 1 51 52,lf 54 1 53,lt 55 2 5,c 56 F.sU [54,55],m 49 56,ex 57 49 0,ex 58 49 1,o 13 (.alloc [.v (.int .i64 (0)),.v (.int .i64 (0)),.v
 (.int .i64 (0))]),⟨none,.store 3 13 57,none⟩,m 14 58] [1,5,8,9,10,13,14] [50,52,51,53,54,55,56,49,57,58,13]<|.seq (s [m 59 14,nt 60 59] [1,5,8,9,10,13,60]<|.cond 60 (s [mn 6,mi 7 8] [6,7]<|.ret) .skip)<|.naming 9 (.region [m 61 9,lt 62 3 13,o 63 (.bslice 3 1 [.v (.int .i64 (0)),.v (.int .i64 (0)),.v
 (.int .i64 (0))] [(0,62)]),o 64 (.append 3 24 61 63),m 9 64] [1,5,8,9,10] [])))<|.region [m 22 10,ad 23 22 1,m 10 23] [1,5,8,9,10] [])))<|s [m 65 9,m 6 65,mi 7 0] [6,7]<|.ret
theorem Cd.s_l18Along_k:CK 31 Tryz.f31 Cd.iX 66 [.tmp 6,.tmp 7]:=ck Tryz.func31
def Cd.kY:aF:=s [bx 3 0,bx 5 2,mi 6 0] [1,3,5]<|.seq (.block 0 (s [lt 8 2 3,c 9 F.lW [8],nt 10 9,m 7 10] [1,3,5,7]<|.cond 7 (s [mi 6 1] [6]<|.ret) (r [lt 12 2 5,lt 13 2 3,c 14 F.fF [13],c 15 F.fG [12,14],nt 16 15,m 17 16,mg 18 1 17 false,⟨some 19,.len 18,some
 (17,false)⟩,⟨some 20,.bin .gtr 19 (k 20),some (17,false)⟩,pt 21 17 20,m 11 21] [11] [12,13,14,15,16,17,18,19,20,21,11]<|.cond 11 (s [mi 6 2] [6]<|.ret) .skip)))<|s [mi 6 0] [6]<|.ret
theorem Cd.i_officeCode_k:CK 35 Tryz.f35 Cd.kY 22 [.tmp 6]:=ck Tryz.func35
def Cd.dH:aF:=s [bx 3 0,bx 5 2,mn 6,mf 7] [1,3,5]<|.seq (.naming 8 (.region [o 16 (.bslice 3 0 [.v (.int .i64 (0)),.v (.int .i64 (0)),.v (.int .i64 (0))] []),m 8 16] [1,3,5,8] []))<|.seq (s [m 17 1,ln 18 17,mi 19 0] [3,5,8,17,18,19]<|.block 0 (.loop (s [ls 20 19 18] [3,5,8,17,18,19,20]<|.seq (.cond 20 .skip (.exit
 0))<|.seq (.block 1 (s [ix 21 9 17 19,lt 22 9 21,o 10 (.alloc [.v (.int .i64 (0)),.v (.int .i64 (0)),.v (.int .i64 (0)),.v (.int .i64 (0)),.v (.int .i64 (0)),.v (.int .i64 (0)),.v (.int .i64 (0)),.v (.int .i64 (0)),.v (.string ⟨#[]⟩)]),⟨none,.store 9 10 22,none⟩] [3,5,8,10,17,18,19]<|s [lt 24 2 3,lt
 25 9 10,c 26 F.xZ [24,25],m 23 26,ex 27 23 0,ex 28 23 1,o 11 (.alloc [.v (.slice none 0 0),.v (.slice none 0 0)]),⟨none,.store 2 11 27,none⟩,m 12 28] [3,5,8,10,11,12,17,18,19]<|.seq (s [m 29 12,ne 30 29 0] [3,5,8,10,11,17,18,19,30]<|.cond 30 (.exit 0) .skip)<|s [fa 31 0 11,lf 32 1 31,fa 33 3
 10,lf 34 1 33,ix 35 1 32 34,lf 36 1 35,m 13 36] [3,5,8,10,11,13,17,18,19]<|.seq (s [fa 37 0 10,lf 38 1 37,en 39 38 7] [3,5,8,10,11,13,17,18,19,39]<|.cond 39 (.region [fa 40 0 11,lf 41 1 40,fa 42 1 10,lf 43 1 42,ix 44 1 41 43,lf 45 1 44,m 13 45] [3,5,8,11,13,17,18,19] []) .skip)<|s [m 47 13,lt 48 2
 5,c 49 F.iW [47,48],m 46 49,ex 50 46 0,ex 51 46 1,o 14 (.alloc [.v (.int .i64 (0)),.v (.int .i64 (0)),.v (.int .i64 (0))]),⟨none,.store 3 14 50,none⟩,m 15 51] [3,5,8,11,14,15,17,18,19]<|.seq (s [m 52 15,nt 53 52] [3,5,8,11,14,17,18,19,53]<|.cond 53 (s [mn 6,mf 7] [6,7]<|.ret) .skip)<|.seq
 (.naming 8 (.region [m 54 8,lt 55 3 14,o 56 (.bslice 3 1 [.v (.int .i64 (0)),.v (.int .i64 (0)),.v (.int .i64 (0))] [(0,55)]),o 57 (.append 3 24 54 56),m 8 57] [3,5,8,11,17,18,19] []))<|.region [lt 58 2 11,⟨none,.store 2 3 58,none⟩] [3,5,8,17,18,19] []))<|.region [ad 59 19 1,m 19 59] [3,5,8,17,18,19]
 [])))<|s [m 60 8,m 6 60,mt 7] [6,7]<|.ret
theorem Cd.i_controlsAlong_k:CK 36 Tryz.f36 Cd.dH 61 [.tmp 6,.tmp 7]:=ck Tryz.func36
def Cd.mO:aF:=s [o 2 (.mv (.const (.pointer none)))] [0]<|s [m 3 0,o 4 (.build [.v (.slice none 0 0),.v (.int .i64 (0)),.v (.int .u64 (0))] [(0,1,3)]),bx 5 4,m 2 5] [2]<|.ret
theorem Cd.s_l00From_k:CK 45 Tryz.f45 Cd.mO 6 [.tmp 2]:=ck Tryz.func45
def Cd.jM:aF:=s [o 2 (.alloc [.v (.int .i64 (0)),.v (.int .i64 (0)),.v (.int .i64 (0))])] [0,2]<|s [m 4 0,o 5 (.call (.func F.aD) [4,(k 100)] [0]),m 6 0,o 7 (.call (.func F.aD) [6,(k 10000)] [0]),o 8 (.bin .sub 7 (k 2000)),m 9 0,o 10 (.call (.func F.aD) [9,(k
 1000)] [0]),o 11 (.build [.v (.int .i64 (0)),.v (.int .i64 (0)),.v (.int .i64 (0))] [(0,1,5),(1,1,8),(2,1,10)]),o 3 (.alloc [.v (.int .i64 (0)),.v (.int .i64 (0)),.v (.int .i64 (0))]),⟨none,.store 3 3 11,none⟩] [0,2,3]<|.seq (s [m 12 0,o 13 (.call (.func F.aD) [12,(k 16)] [0])]
 [0,2,3,13]<|.block 0 (s [en 15 13 0,m 14 15] [0,2,3,13,14]<|.cond 14 (.region [m 16 0,o 17 (.bslice 1 4 [.v (.int .i64 (0))] [(0,(k (-1))),(1,(k 0)),(2,(k 1000000)),(3,(k 1000001))]),o 18 (.call (.func F.bA) [16,17] [0]),fa 19 0 3,⟨none,.store 1 19 18,none⟩] [2,3] []) (s [en 21 13
 1,m 20 21] [0,2,3,13,20]<|.cond 20 (.region [m 22 0,o 23 (.bslice 1 4 [.v (.int .i64 (0))] [(0,(k (-1000000000000001))),(1,(k (-1000000000000000))),(2,(k 1000000000000000)),(3,(k 1000000000000001))]),o 24 (.call (.func F.bA) [22,23] [0]),fa 25 1 3,⟨none,.store 1 25 24,none⟩] [2,3]
 []) (s [en 27 13 2,m 26 27] [0,2,3,26]<|.cond 26 (.region [m 28 0,o 29 (.bslice 1 5 [.v (.int .i64 (0))] [(0,(k (-1))),(1,(k 0)),(2,(k 1000000000)),(3,(k 1000000001)),(4,(k 9223372036854775807))]),o 30 (.call (.func F.bA) [28,29] [0]),fa 31 2 3,⟨none,.store 1 31 30,none⟩] [2,3] [])
 .skip))))<|s [lt 32 3 3,⟨none,.store 3 2 32,none⟩] [2]<|.ret
theorem Cd.s_l18Draw_k:CK 46 Tryz.f46 Cd.jM 33 [.cell 2 64]:=ck Tryz.func46
def Cd.aV:aF:=s [mf 4] [0,1]<|s [m 5 0,m 6 1,o 7 (.call (.func F.aD) [5,6] [0]),en 8 7 0,m 4 8] [4]<|.ret
theorem Cd._s_l00Src__one_k:CK 47 Tryz.f47 Cd.aV 9 [.tmp 4]:=ck Tryz.func47
def Cd.aD:aF:=s [mi 4 0] [0,1]<|.seq (s [m 6 1,o 7 (.bin .leq 6 (k 1))] [0,1,7]<|.cond 7 (s [mi 4 0] [4]<|.ret) .skip)<|s [m 8 0,o 9 (.call (.func F.fO) [8] [0]),m 5 9] [0,1,5]<|.seq (s [m 10 1,o 11 (.bin .gtr 10 (k 200))] [0,1,5,11]<|.cond 11 (.region [m 12 5,o 13 (.bin .mul 12 (k 256)),m 14 0,o
 15 (.call (.func F.fO) [14] [0]),o 16 (.bin .add 13 15),m 5 16] [1,5] []) .skip)<|s [m 17 5,m 18 1,o 19 (.bin .rem 17 18),m 4 19] [4]<|.ret
theorem Cd._s_l00Src__pick_k:CK 48 Tryz.f48 Cd.aD 20 [.tmp 4]:=ck Tryz.func48
def Cd.kU:aF:=s [mn 4] [0,1]<|.seq (.naming 5 (.region [o 7 (.bslice 1 0 [.v (.slice none 0 0)] []),m 5 7] [0,1,5] []))<|.seq (s [m 8 0,m 9 1,ad 10 9 1,o 11 (.call (.func F.aD) [8,10] [0]),m 6 11] [0,5,6]<|.block 0 (.loop (.seq (s [m 12 6,o 13 (.bin .gtr 12 (k 0))] [0,5,6,13]<|.cond 13 .skip
 (.exit 0))<|.seq (.block 1 (.naming 5 (.region [m 16 5,m 17 0,o 18 (.call (.func F.kV) [17] [0]),o 19 (.bslice 1 1 [.v (.slice none 0 0)] [(0,18)]),o 20 (.append 1 24 16 19),m 5 20] [0,5,6] [])))<|.region [m 14 6,o 15 (.bin .sub 14 (k 1)),m 6 15] [0,5,6] [])))<|s [m 21 5,m 4 21] [4]<|.ret
theorem Cd.s_l13Deck_k:CK 50 Tryz.f50 Cd.kU 22 [.tmp 4]:=ck Tryz.func50
def Cd.mD:aF:=s [bx 3 1,mn 4,mi 5 0] [0,3]<|s [m 12 0,lt 13 2 3,c 14 F.jN [12,13],m 11 14,ex 15 11 0,ex 16 11 1,m 6 15,m 7 16] [0,6,7]<|.seq (s [m 17 7,ne 18 17 0] [0,6,7,18]<|.cond 18 (s [m 19 7,mn 4,m 5 19] [4,5]<|.ret) .skip)<|s [m 20 6,c 21 F.pG [20],m 8 21] [0,8]<|.seq (.naming 9
 (.region [o 22 (.bslice 1 0 [.v (.slice none 0 0)] []),m 9 22] [0,8,9] []))<|.seq (s [mi 10 0] [0,8,9,10]<|.block 0 (.loop (.seq (s [m 23 10,m 24 8,ln 25 24,ls 26 23 25] [0,8,9,10,26]<|.cond 26 .skip (.exit 0))<|.seq (.block 1 (.naming 9 (.region [m 29 9,m 30 0,m 31 8,m 32 10,ix 33 1 31 32,lf 34 1
 33,ix 35 1 30 34,c 36 F.jE [35],o 37 (.bslice 1 1 [.v (.slice none 0 0)] [(0,36)]),o 38 (.append 1 24 29 37),m 9 38] [0,8,9,10] [])))<|.region [m 27 10,ad 28 27 1,m 10 28] [0,8,9,10] [])))<|s [m 39 9,m 4 39,mi 5 0] [4,5]<|.ret
theorem Cd.s_SortedBy_k:CK 51 Tryz.f51 Cd.mD 40 [.tmp 4,.tmp 5]:=ck Tryz.func51
def Cd.iG:aF:=s [mf 2] [0]<|.seq (s [m 5 0,ln 6 5,mi 7 0] [0,5,6,7]<|.block 0 (.loop (s [ls 8 7 6] [0,5,6,7,8]<|.seq (.cond 8 .skip (.exit 0))<|.seq (.block 1 (s [ix 9 1 5 7,lt 10 1 9,o 4 (.alloc [.v (.slice none 0 0)]),⟨none,.store 1 4 10,none⟩] [0,4,5,6,7]<|r [lt 11 1 4,c 12 F.p9 [11],nt 13 12,m 14
 13,⟨some 15,.load true 1 4,some (14,false)⟩,⟨some 16,.call (.func F.bV) [15] [],some (14,false)⟩,mg 17 0 14 false,⟨some 18,.idxSl 1 17 (k 0),some (14,false)⟩,⟨some 19,.load true 1 18,some (14,false)⟩,⟨some 20,.call (.func F.bV) [19] [],some (14,false)⟩,⟨some 21,.bin
 .neq 16 20,some (14,false)⟩,pt 22 14 21] [0,5,6,7,22] [11,13,14,15,12,16,17,18,19,20,21,22]<|.cond 22 (s [mf 2] [2]<|.ret) .skip))<|.region [ad 23 7 1,m 7 23] [0,5,6,7] [])))<|s [m 24 0,ln 25 24,o 26 (.bin .leq 25 (k 40)),m 2 26] [2]<|.ret
theorem Cd.i_ValidDeck_k:CK 53 Tryz.f53 Cd.iG 27 [.tmp 2]:=ck Tryz.func53
def Cd.fG:aF:=s [bx 2 0,mf 4] [1,2]<|s [lt 5 2 2,m 6 1,c 7 F.mY [5,6],m 8 7,fg 9 1 2 8 true,lg 10 1 9 8 true,fg 11 0 2 8 true,lg 12 1 11 8 true,⟨some 13,.bin .sub 10 12,some (8,true)⟩,⟨some 14,.bin .leq 13 (k 12),some (8,true)⟩,pf 15 8 14,m 4 15] [4]<|.ret
theorem Cd.i_isNumberField_k:CK 54 Tryz.f54 Cd.fG 16 [.tmp 4]:=ck Tryz.func54
def Cd.eO:aF:=s [mi 2 0] [0]<|.seq (s [m 3 0,ln 4 3,en 5 4 0] [0,5]<|.cond 5 (s [mi 2 20] [2]<|.ret) .skip)<|s [m 6 0,o 7 (.idxSl 1 6 (k 0)),lt 8 1 7,c 9 F.bV [8],m 2 9] [2]<|.ret
theorem Cd.i_deckColumns_k:CK 55 Tryz.f55 Cd.eO 10 [.tmp 2]:=ck Tryz.func55
def Cd.iW:aF:=s [bx 3 1,o 4 (.alloc [.v (.int .i64 (0)),.v (.int .i64 (0)),.v (.int .i64 (0))]),mf 5] [0,3,4]<|s [m 11 0,c 12 F.iP [11],o 13 (.build [.v (.int .i64 (0)),.v (.int .i64 (0)),.v (.int .i64 (0))] [(0,1,12)]),o 6 (.alloc [.v (.int .i64 (0)),.v (.int .i64 (0)),.v (.int .i64
 (0))]),⟨none,.store 3 6 13,none⟩] [0,3,4,6]<|.seq (s [m 14 0,ln 15 14,mi 16 0] [3,4,6,14,15,16]<|.block 0 (.loop (s [ls 17 16 15] [3,4,6,14,15,16,17]<|.seq (.cond 17 .skip (.exit 0))<|.seq (.block 1 (s [ix 18 1 14 16,lt 19 1 18,o 8 (.alloc [.v (.slice none 0 0)]),⟨none,.store 1 8 19,none⟩]
 [3,4,6,8,14,15,16]<|s [lt 21 1 8,lt 22 2 3,c 23 F.mH [21,22],m 20 23,ex 24 20 0,ex 25 20 1,m 9 24,m 10 25] [3,4,6,9,10,14,15,16]<|.seq (s [m 26 10,nt 27 26] [3,4,6,9,14,15,16,27]<|.cond 27 (s [o 28 (.build [.v (.int .i64 (0)),.v (.int .i64 (0)),.v (.int .i64 (0))] []),⟨none,.store 3 4
 28,none⟩,mf 5] [4,5]<|.ret) .skip)<|s [fa 29 1 6,lf 30 1 29,m 31 9,o 32 (.bin .add 30 31),fa 33 1 6,⟨none,.store 1 33 32,none⟩] [3,4,6,9,14,15,16]<|.region [fa 34 2 6,lf 35 1 34,m 36 9,c 37 F.sH [36],o 38 (.bin .add 35 37),fa 39 2 6,⟨none,.store 1 39 38,none⟩] [3,4,6,14,15,16]
 [34,36,35,37,38]))<|.region [ad 40 16 1,m 16 40] [3,4,6,14,15,16] [])))<|s [lt 41 3 6,⟨none,.store 3 4 41,none⟩,mt 5] [4,5]<|.ret
theorem Cd.i_controlOf_k:CK 56 Tryz.f56 Cd.iW 42 [.cell 4 64,.tmp 5]:=ck Tryz.func56
def Cd.kZ:aF:=s [bx 5 2,mn 6,mi 7 0] [0,1,5]<|s [lt 10 2 5,m 11 0,m 12 1,o 13 (.bslice 1 2 [.v (.slice none 0 0)] [(0,11),(1,12)]),c 14 F.eP [10,(.const (.bool true)),(.const (.slice none 0 0)),13],m 8 14] [0,1,5,8]<|.seq (.block 0 (s [m 16 8,ne 17 16 0,m 15 17] [0,1,5,8,15]<|.cond 15 (s [m 18 8,mn
 6,m 7 18] [6,7]<|.ret) (s [m 20 0,lt 21 2 5,c 22 F.gJ [20,21],nt 23 22,m 24 23,mg 25 1 24 false,⟨some 26,.load true 2 5,some (24,false)⟩,⟨some 27,.call (.func F.gJ) [25,26] [],some (24,false)⟩,⟨some 28,.un .not 27,some (24,false)⟩,pt 29 24 28,m 19 29] [0,1,5,19]<|.cond 19
 (s [mn 6,mi 7 6] [6,7]<|.ret) .skip)))<|s [o 30 (.mkfn F.kP [5]),m 9 30] [0,1,9]<|s [m 31 9,m 32 0,m 33 1,o 34 (.call 31 [32,33,(.const (.bool true))] []),m 35 9,m 36 1,m 37 0,o 38 (.call 35 [36,37,(.const (.bool true))] []),m 39 9,m 40 0,m 41 1,o 42 (.call 39 [40,41,(.const (.bool
 false))] []),m 43 9,m 44 1,m 45 0,o 46 (.call 43 [44,45,(.const (.bool false))] []),o 47 (.bslice 1 4 [.v (.slice none 0 0)] [(0,34),(1,38),(2,42),(3,46)]),m 6 47,mi 7 0] [6,7]<|.ret
theorem Cd.i_MatchDecks_k:CK 57 Tryz.f57 Cd.kZ 48 [.tmp 6,.tmp 7]:=ck Tryz.func57
def Cd.iT:aF:=s [bx 3 0,bx 4 1,o 6 (.alloc [.v (.int .i64 (0)),.v (.int .i64 (0)),.v (.int .i64 (0))])] [2,3,4,6]<|s [fa 7 0 3,lf 8 1 7,m 9 2,fa 10 0 4,lf 11 1 10,o 12 (.bin .mul 9 11),o 13 (.bin .add 8 12),fa 14 1 3,lf 15 1 14,m 16 2,fa 17 1 4,lf 18 1 17,o 19 (.bin .mul 16 18),o 20 (.bin .add 15 19),fa 21 2 3,lf
 22 1 21,m 23 2,fa 24 2 4,lf 25 1 24,o 26 (.bin .mul 23 25),o 27 (.bin .add 22 26),o 28 (.build [.v (.int .i64 (0)),.v (.int .i64 (0)),.v (.int .i64 (0))] [(0,1,13),(1,1,20),(2,1,27)]),⟨none,.store 3 6 28,none⟩] [6]<|.ret
theorem Cd._i_Control__plus_k:CK 58 Tryz.f58 Cd.iT 29 [.cell 6 64]:=ck Tryz.func58
def Cd.iO:aF:=s [mf 2] [0]<|.seq (s [mi 3 0] [0,3]<|.block 0 (.loop (.seq (s [m 4 3,m 5 0,ln 6 5,ls 7 4 6] [0,3,7]<|.cond 7 .skip (.exit 0))<|.seq (.block 1 (r [m 10 0,m 11 3,ix 12 1 10 11,c 13 F.aAK [12],nt 14 13,m 15 14,mg 16 0 15 false,mg 17 3 15 false,⟨some 18,.idxSl 1 16 17,some (15,false)⟩,fg 19 0 18
 15 false,lg 20 1 19 15 false,⟨some 21,.len 20,some (15,false)⟩,mg 22 0 15 false,⟨some 23,.idxSl 1 22 (k 0),some (15,false)⟩,fg 24 0 23 15 false,lg 25 1 24 15 false,⟨some 26,.len 25,some (15,false)⟩,⟨some 27,.bin .neq 21 26,some (15,false)⟩,pt 28 15 27] [0,3,28]
 [10,11,13,14,12,15,16,17,18,19,20,21,22,23,24,25,26,27,28]<|.cond 28 (s [mf 2] [2]<|.ret) .skip))<|.region [m 8 3,ad 9 8 1,m 3 9] [0,3] [])))<|s [m 29 0,ln 30 29,o 31 (.bin .leq 30 (k 40)),m 2 31] [2]<|.ret
theorem Cd.s_l02Deck_k:CK 59 Tryz.f59 Cd.iO 32 [.tmp 2]:=ck Tryz.func59
def Cd.oH:aF:=s [bx 2 0,mf 4] [1,2]<|s [lt 5 2 2,m 6 1,c 7 F.fD [5,6],m 8 7,fg 9 1 2 8 true,lg 10 1 9 8 true,fg 11 0 2 8 true,lg 12 1 11 8 true,⟨some 13,.bin .sub 10 12,some (8,true)⟩,⟨some 14,.bin .leq 13 (k 12),some (8,true)⟩,pf 15 8 14,m 4 15] [4]<|.ret
theorem Cd.s_l18Field_k:CK 60 Tryz.f60 Cd.oH 16 [.tmp 4]:=ck Tryz.func60
def Cd.iZ:aF:=s [mi 2 0] [0]<|.seq (s [m 3 0,ln 4 3,en 5 4 0] [0,5]<|.cond 5 (s [mi 2 20] [2]<|.ret) .skip)<|s [m 6 0,o 7 (.idxSl 1 6 (k 0)),fa 8 0 7,lf 9 1 8,ln 10 9,m 2 10] [2]<|.ret
theorem Cd.s_l07Width_k:CK 61 Tryz.f61 Cd.iZ 11 [.tmp 2]:=ck Tryz.func61
def Cd.sU:aF:=s [bx 3 1,o 4 (.alloc [.v (.int .i64 (0)),.v (.int .i64 (0)),.v (.int .i64 (0))]),mf 5] [0,3,4]<|s [m 10 0,ln 11 10,o 12 (.build [.v (.int .i64 (0)),.v (.int .i64 (0)),.v (.int .i64 (0))] [(0,1,11)]),o 6 (.alloc [.v (.int .i64 (0)),.v (.int .i64 (0)),.v (.int .i64 (0))]),⟨none,.store 3 6 12,none⟩]
 [0,3,4,6]<|.seq (s [mi 7 0] [0,3,4,6,7]<|.block 0 (.loop (.seq (s [m 13 7,m 14 0,ln 15 14,ls 16 13 15] [0,3,4,6,7,16]<|.cond 16 .skip (.exit 0))<|.seq (.block 1 (r [m 20 0,m 21 7,ix 22 1 20 21,lt 23 2 3,c 24 F.mM [22,23],c 25 F.kE [24],m 19 25,ex 26 19 0,ex 27 19 1,m 8 26,m 9
 27] [0,3,4,6,7,8,9] [20,21,23,22,24,25,19,26,27,8]<|.seq (s [m 28 9,nt 29 28] [0,3,4,6,7,8,29]<|.cond 29 (s [o 30 (.build [.v (.int .i64 (0)),.v (.int .i64 (0)),.v (.int .i64 (0))] []),⟨none,.store 3 4 30,none⟩,mf 5] [4,5]<|.ret) .skip)<|s [fa 31 1 6,lf 32 1 31,m 33 8,o 34 (.bin .add 32 33),fa 35 1
 6,⟨none,.store 1 35 34,none⟩] [0,3,4,6,7,8]<|.region [fa 36 2 6,lf 37 1 36,m 38 8,c 39 F.pF [38],o 40 (.bin .add 37 39),fa 41 2 6,⟨none,.store 1 41 40,none⟩] [0,3,4,6,7] [36,38,37,39,40]))<|.region [m 17 7,ad 18 17 1,m 7 18] [0,3,4,6,7] [])))<|s [lt 42 3 6,⟨none,.store 3 4 42,none⟩,mt 5]
 [4,5]<|.ret
theorem Cd.s_l18Of_k:CK 62 Tryz.f62 Cd.sU 43 [.cell 4 64,.tmp 5]:=ck Tryz.func62
def Cd.kW:aF:=s [bx 5 2,mn 6,mi 7 0] [0,1,5]<|s [m 16 0,m 17 1,lt 18 2 5,c 19 F.rF [16,17,18],m 15 19,ex 20 15 0,ex 21 15 1,ex 22 15 2,m 8 20,m 9 21,m 10 22] [0,1,8,9,10]<|.seq (s [m 23 10,ne 24 23 0] [0,1,8,9,10,24]<|.cond 24 (s [m 25 10,mn 6,m 7 25] [6,7]<|.ret) .skip)<|.seq (s [m 26 8,c 27
 F.mK [26],o 28 (.bin .geq 27 (k 0)),m 29 28,mg 30 9 29 false,⟨some 31,.call (.func F.mK) [30] [],some (29,false)⟩,⟨some 32,.bin .geq 31 (k 0),some (29,false)⟩,pt 33 29 32] [0,1,8,9,33]<|.cond 33 (s [mn 6,mi 7 6] [6,7]<|.ret) .skip)<|s [m 35 0,m 36 8,m 37 9,c 38 F.oM
 [35,36,37],m 34 38,ex 39 34 0,ex 40 34 1,m 11 39,m 12 40] [1,8,9,11,12]<|s [m 42 1,m 43 9,m 44 8,c 45 F.oM [42,43,44],m 41 45,ex 46 41 0,ex 47 41 1,m 13 46,m 14 47] [11,12,13,14]<|s [m 48 11,m 49 13,m 50 12,m 51 14,o 52 (.bslice 1 4 [.v (.slice none 0 0)] [(0,48),(1,49),(2,50),(3,51)]),m 6
 52,mi 7 0] [6,7]<|.ret
theorem Cd.s_MatchDecks_k:CK 63 Tryz.f63 Cd.kW 53 [.tmp 6,.tmp 7]:=ck Tryz.func63
def Cd.aAI:aF:=s [mf 2] [0]<|.seq (s [mi 3 0] [0,3]<|.block 0 (.loop (.seq (s [m 4 3,m 5 0,nc 6 5,fa 7 0 6,lf 8 1 7,ln 9 8,ls 10 4 9] [0,3,10]<|.cond 10 .skip (.exit 0))<|.seq (.block 1 (r [m 13 0,nc 14 13,fa 15 0 14,lf 16 1 15,m 17 3,ix 18 1 16 17,lf 19 1 18,c 20 F.iO [19],nt 21 20,m 22 21,mg 23 0 22
 false,⟨some 24,.nilc 23,some (22,false)⟩,fg 25 0 24 22 false,lg 26 1 25 22 false,mg 27 3 22 false,⟨some 28,.idxSl 1 26 27,some (22,false)⟩,lg 29 1 28 22 false,⟨some 30,.len 29,some (22,false)⟩,⟨some 31,.bin .gtr 30 (k 0),some (22,false)⟩,mg 32 31 22 false,mg 33 0 32 true,⟨some 34,.nilc 33,some
 (32,true)⟩,fg 35 0 34 32 true,lg 36 1 35 32 true,mg 37 3 32 true,⟨some 38,.idxSl 1 36 37,some (32,true)⟩,lg 39 1 38 32 true,⟨some 40,.idxSl 1 39 (k 0),some (32,true)⟩,fg 41 0 40 32 true,lg 42 1 41 32 true,⟨some 43,.len 42,some (32,true)⟩,mg 44 0 32 true,⟨some 45,.call (.func F.iY) [44]
 [],some (32,true)⟩,⟨some 46,.bin .neq 43 45,some (32,true)⟩,⟨some 47,.pick 32 46 (.const (.bool false)),some (22,false)⟩,pt 48 22 47] [0,3,48] [13,15,16,14,17,18,19,20,21,22,23,24,25,26,27,28,29,30,31,32,33,34,35,36,37,38,39,40,41,42,43,44,45,46,47,48]<|.cond 48 (s [mf 2] [2]<|.ret) .skip))<|.region
 [m 11 3,ad 12 11 1,m 3 12] [0,3] [])))<|s [m 49 0,nc 50 49,fa 51 0 50,lf 52 1 51,ln 53 52,en 54 53 6,m 55 54,mg 56 0 55 true,⟨some 57,.nilc 56,some (55,true)⟩,fg 58 1 57 55 true,lg 59 1 58 55 true,⟨some 60,.len 59,some (55,true)⟩,⟨some 61,.bin .leq 60 (k 20),some (55,true)⟩,pf 62 55 61,m 2 62]
 [2]<|.ret
theorem Cd.s_l15Ok_k:CK 66 Tryz.f66 Cd.aAI 63 [.tmp 2]:=ck Tryz.func66
def Cd.iY:aF:=s [mi 2 0] [0]<|.seq (s [mi 3 0] [0,3]<|.block 0 (.loop (.seq (s [m 4 3,m 5 0,nc 6 5,fa 7 0 6,lf 8 1 7,ln 9 8,ls 10 4 9] [0,3,10]<|.cond 10 .skip (.exit 0))<|.seq (.block 1 (s [m 13 0,nc 14 13,fa 15 0 14,lf 16 1 15,m 17 3,ix 18 1 16 17,lf 19 1 18,ln 20 19,o 21 (.bin .gtr 20 (k 0))] [0,3,21]<|.cond 21
 (s [m 22 0,nc 23 22,fa 24 0 23,lf 25 1 24,m 26 3,ix 27 1 25 26,lf 28 1 27,o 29 (.idxSl 1 28 (k 0)),fa 30 0 29,lf 31 1 30,ln 32 31,m 2 32] [2]<|.ret) .skip))<|.region [m 11 3,ad 12 11 1,m 3 12] [0,3] [])))<|s [mi 2 20] [2]<|.ret
theorem Cd.s_l15Width_k:CK 67 Tryz.f67 Cd.iY 33 [.tmp 2]:=ck Tryz.func67
def Cd.kD:aF:=s [o 2 (.alloc [.v (.slice none 0 0),.v (.slice none 0 0)])] [0,2]<|s [o 6 (.build [.v (.slice none 0 0),.v (.slice none 0 0)] []),o 3 (.alloc [.v (.slice none 0 0),.v (.slice none 0 0)]),⟨none,.store 2 3 6,none⟩] [0,2,3]<|.seq (s [mi 4 0] [0,2,3,4]<|.block 0 (.loop (.seq (s [m 7 4,m 8 0,nc 9 8,fa 10
 0 9,lf 11 1 10,ln 12 11,ls 13 7 12] [0,2,3,4,13]<|.cond 13 .skip (.exit 0))<|.seq (.block 1 (.region [fa 16 0 3,lf 17 1 16,m 18 0,nc 19 18,fa 20 0 19,lf 21 1 20,m 22 4,ix 23 1 21 22,lf 24 1 23,c 25 F.oP [24],o 26 (.bslice 1 1 [.v (.slice none 0 0)] [(0,25)]),o 27 (.append 1 24 17 26),fa 28
 0 3,⟨none,.store 1 28 27,none⟩] [0,2,3,4] [16,18,17,19,20,21,22,23,24,25,26,27]))<|.region [m 14 4,ad 15 14 1,m 4 15] [0,2,3,4] [])))<|.seq (s [mi 5 0] [0,2,3,5]<|.block 2 (.loop (.seq (s [m 29 5,m 30 0,nc 31 30,fa 32 1 31,lf 33 1 32,ln 34 33,ls 35 29 34] [0,2,3,5,35]<|.cond 35 .skip (.exit 2))<|.seq
 (.block 3 (.region [o 38 (.fieldV 1 3),o 39 (.loadV false 1 38),o 40 (.bslice 2 0 [.v (.string ⟨#[]⟩),.v (.int .i64 (0))] []),m 41 0,nc 42 41,fa 43 1 42,lf 44 1 43,m 45 5,ix 46 1 44 45,lf 47 1 46,o 48 (.appendC 2 24 40 47),o 49 (.bslice 1 1 [.v (.slice none 0 0)] [(0,48)]),o 50 (.append 1 24 39
 49),fa 51 1 3,⟨none,.store 1 51 50,none⟩] [0,2,3,5] [38,40,39,41,42,43,44,45,46,47,48,1000038,1000039,49,50]))<|.region [m 36 5,ad 37 36 1,m 5 37] [0,2,3,5] [])))<|s [lt 52 2 3,⟨none,.store 2 2 52,none⟩] [2]<|.ret
theorem Cd.s_l15Own_k:CK 68 Tryz.f68 Cd.kD 53 [.cell 2 37]:=ck Tryz.func68
def Cd.qU:aF:=s [mf 4] [0,1]<|.seq (s [m 5 0,nc 6 5,fa 7 0 6,lf 8 1 7,c 9 F.nE [8,(k 1),(k 7)],nt 10 9,m 11 10,mg 12 0 11 false,⟨some 13,.nilc 12,some (11,false)⟩,fg 14 1 13 11 false,lg 15 1 14 11 false,⟨some 16,.call (.func F.oI) [15] [],some (11,false)⟩,⟨some 17,.un .not 16,some (11,false)⟩,pt
 18 11 17,m 19 18,mg 20 0 19 false,⟨some 21,.nilc 20,some (19,false)⟩,fg 22 2 21 19 false,lg 23 1 22 19 false,⟨some 24,.call (.func F.oI) [23] [],some (19,false)⟩,⟨some 25,.un .not 24,some (19,false)⟩,pt 26 19 25,m 27 26,mg 28 0 27 false,⟨some 29,.nilc 28,some (27,false)⟩,fg 30 3 29 27
 false,lg 31 1 30 27 false,⟨some 32,.call (.func F.oI) [31] [],some (27,false)⟩,⟨some 33,.un .not 32,some (27,false)⟩,pt 34 27 33,m 35 34,mg 36 0 35 false,⟨some 37,.nilc 36,some (35,false)⟩,fg 38 4 37 35 false,⟨some 39,.load true 2 38,some (35,false)⟩,mg 40 1 35 false,⟨some 41,.call (.func
 F.fD) [39,40] [],some (35,false)⟩,⟨some 42,.un .not 41,some (35,false)⟩,pt 43 35 42] [0,1,43]<|.cond 43 (s [mf 4] [4]<|.ret) .skip)<|.seq (s [m 44 0,nc 45 44,fa 46 2 45,lf 47 1 46,ne 48 47 0,m 49 48,mg 50 0 49 true,⟨some 51,.nilc 50,some (49,true)⟩,fg 52 0 51 49 true,lg 53 1 52 49
 true,⟨some 54,.call (.func F.uK) [53] [],some (49,true)⟩,⟨some 55,.un .not 54,some (49,true)⟩,pf 56 49 55] [0,1,56]<|.cond 56 (s [mf 4] [4]<|.ret) .skip)<|.seq (s [m 57 0,nc 58 57,fa 59 0 58,lf 60 1 59,en 61 60 7] [0,1,61]<|.cond 61 (r [m 62 0,nc 63 62,fa 64 3 63,lf 65 1 64,en 66 65 0,m 67
 66,mg 68 0 67 true,⟨some 69,.nilc 68,some (67,true)⟩,fg 70 6 69 67 true,⟨some 71,.load true 2 70,some (67,true)⟩,mg 72 1 67 true,⟨some 73,.call (.func F.fD) [71,72] [],some (67,true)⟩,pf 74 67 73,m 75 74,mg 76 0 75 true,⟨some 77,.nilc 76,some (75,true)⟩,fg 78 6 77 75 true,fg 79 1 78 75
 true,lg 80 1 79 75 true,mg 81 0 75 true,⟨some 82,.nilc 81,some (75,true)⟩,fg 83 6 82 75 true,fg 84 0 83 75 true,lg 85 1 84 75 true,⟨some 86,.bin .sub 80 85,some (75,true)⟩,⟨some 87,.bin .leq 86 (k 12),some (75,true)⟩,pf 88 75 87,m 89 88,mg 90 0 89 true,⟨some 91,.nilc 90,some (89,true)⟩,fg 92 8 91 89
 true,lg 93 1 92 89 true,⟨some 94,.binS .eql 93 (.const (.string ⟨#[]⟩)),some (89,true)⟩,pf 95 89 94,m 4 95] [4] [62,64,65,63,66,67,68,69,70,71,72,73,74,75,76,77,78,79,80,81,82,83,84,85,86,87,88,89,90,91,92,93,94,95]<|.ret) .skip)<|.seq (s [m 96 0,nc 97 96,fa 98 6 97,lt 99 2 98,o 100 (.build [.v (.int
 .i64 (0)),.v (.int .i64 (0))] []),o 101 (.eqA true [0,0] 99 100)] [0,101]<|.cond 101 (s [mf 4] [4]<|.ret) .skip)<|.seq (s [m 102 0,nc 103 102,fa 104 0 103,lf 105 1 104,en 106 105 5] [0,106]<|.cond 106 (r [m 107 0,nc 108 107,fa 109 8 108,lf 110 1 109,m 111 0,nc 112 111,fa 113 4 112,lt 114 2 113,c 115
 F.qV [110,114],en 116 115 0,m 4 116] [4] [107,109,110,108,111,112,113,114,115,116]<|.ret) .skip)<|s [m 117 0,nc 118 117,fa 119 8 118,lf 120 1 119,o 121 (.binS .eql 120 (.const (.string ⟨#[]⟩))),m 4 121] [4]<|.ret
theorem Cd.s_l15Step_k:CK 69 Tryz.f69 Cd.qU 122 [.tmp 4]:=ck Tryz.func69
def Cd.lW:aF:=s [bx 1 0,mf 2] [1]<|.seq (s [fa 5 0 1,lf 6 1 5,ln 7 6,ne 8 7 6,m 9 8,fg 10 1 1 9 false,lg 11 1 10 9 false,⟨some 12,.len 11,some (9,false)⟩,⟨some 13,.bin .gtr 12 (k 20),some (9,false)⟩,pt 14 9 13] [1,14]<|.cond 14 (s [mf 2] [2]<|.ret) .skip)<|.seq (s [fa 15 0 1,lf 16 1 15,ln 17 16,mi 18 0]
 [1,16,17,18]<|.block 0 (.loop (s [ls 19 18 17] [1,16,17,18,19]<|.seq (.cond 19 .skip (.exit 0))<|.seq (.block 1 (s [ix 20 1 16 18,lf 21 1 20,m 4 21] [1,4,16,17,18]<|r [m 22 4,c 23 F.iG [22],nt 24 23,m 25 24,mg 26 4 25 false,⟨some 27,.len 26,some (25,false)⟩,⟨some 28,.bin .gtr 27 (k
 0),some (25,false)⟩,mg 29 28 25 false,mg 30 4 29 true,⟨some 31,.idxSl 1 30 (k 0),some (29,true)⟩,⟨some 32,.load true 1 31,some (29,true)⟩,⟨some 33,.call (.func F.bV) [32] [],some (29,true)⟩,⟨some 34,.load true 2 1,some (29,true)⟩,⟨some 35,.call (.func F.fF) [34]
 [],some (29,true)⟩,⟨some 36,.bin .neq 33 35,some (29,true)⟩,⟨some 37,.pick 29 36 (.const (.bool false)),some (25,false)⟩,pt 38 25 37] [1,16,17,18,38] [22,24,25,26,23,27,28,29,30,31,32,33,34,35,36,37,38]<|.cond 38 (s [mf 2] [2]<|.ret) .skip))<|.region [ad 39 18 1,m 18 39] [1,16,17,18] [])))<|s [mt 2]
 [2]<|.ret
theorem Cd.i_ValidOffice_k:CK 73 Tryz.f73 Cd.lW 40 [.tmp 2]:=ck Tryz.func73
def Cd.fF:aF:=s [bx 1 0,mi 2 0] [1]<|.seq (s [fa 5 0 1,lf 6 1 5,ln 7 6,mi 8 0] [6,7,8]<|.block 0 (.loop (s [ls 9 8 7] [6,7,8,9]<|.seq (.cond 9 .skip (.exit 0))<|.seq (.block 1 (s [ix 10 1 6 8,lf 11 1 10,m 4 11] [4,6,7,8]<|s [m 12 4,ln 13 12,o 14 (.bin .gtr 13 (k 0))] [4,6,7,8,14]<|.cond 14 (s [m 15 4,o 16 (.idxSl
 1 15 (k 0)),lt 17 1 16,c 18 F.bV [17],m 2 18] [2]<|.ret) .skip))<|.region [ad 19 8 1,m 8 19] [6,7,8] [])))<|s [mi 2 20] [2]<|.ret
theorem Cd.i_officeColumns_k:CK 74 Tryz.f74 Cd.fF 20 [.tmp 2]:=ck Tryz.func74
def Cd.xZ:aF:=s [bx 2 0,bx 3 1,o 4 (.alloc [.v (.slice none 0 0),.v (.slice none 0 0)]),mi 5 0] [2,3,4]<|.seq (.block 0 (r [lt 12 9 3,lt 13 2 2,c 14 F.fF [13],c 15 F.p8 [12,14],nt 16 15,m 11 16] [2,3,4,11] [12,13,14,15,16,11]<|.cond 11 (s [o 17 (.build [.v (.slice none 0 0),.v (.slice
 none 0 0)] []),⟨none,.store 2 4 17,none⟩,mi 5 2] [4,5]<|.ret) (s [fa 19 0 3,lf 20 1 19,en 21 20 7,m 22 21,fg 23 1 2 22 true,lg 24 1 23 22 true,⟨some 25,.len 24,some (22,true)⟩,⟨some 26,.bin .eql 25 (k 20),some (22,true)⟩,pf 27 22 26,m 18 27] [2,3,4,18]<|.cond 18 (s [o 28 (.build [.v (.slice none 0
 0),.v (.slice none 0 0)] []),⟨none,.store 2 4 28,none⟩,mi 5 5] [4,5]<|.ret) .skip)))<|s [lt 29 2 2,c 30 F.mX [29],o 6 (.alloc [.v (.slice none 0 0),.v (.slice none 0 0)]),⟨none,.store 2 6 30,none⟩] [2,3,4,6]<|.seq (s [fa 31 0 3,lf 32 1 31,en 33 32 7] [2,3,4,6,33]<|.cond 33 (r [fa 35 0
 2,lf 36 1 35,fa 37 1 3,lf 38 1 37,ix 39 1 36 38,lf 40 1 39,fa 41 4 3,lt 42 2 41,fa 43 6 3,lt 44 2 43,c 45 F.rW [40,42,44],m 34 45,ex 46 34 0,ex 47 34 1,m 7 46,m 8 47] [4,6,7,8] [35,37,36,38,39,40,41,42,43,44,45,34,46,47,7]<|.seq (s [m 48 8,ne 49 48 0] [4,6,7,8,49]<|.cond 49 (s [o 50
 (.build [.v (.slice none 0 0),.v (.slice none 0 0)] []),m 51 8,⟨none,.store 2 4 50,none⟩,m 5 51] [4,5]<|.ret) .skip)<|s [fa 52 1 6,lf 53 1 52,m 54 7,o 55 (.bslice 1 1 [.v (.slice none 0 0)] [(0,54)]),o 56 (.append 1 24 53 55),fa 57 1 6,⟨none,.store 1 57 56,none⟩] [4,6]<|s [lt 58 2 6,⟨none,.store 2 4
 58,none⟩,mi 5 0] [4,5]<|.ret) .skip)<|s [lt 60 2 2,lt 61 9 3,c 62 F.x8 [60,61],m 59 62,ex 63 59 0,ex 64 59 1,m 9 63,m 10 64] [3,4,6,9,10]<|.seq (s [m 65 10,ne 66 65 0] [3,4,6,9,10,66]<|.cond 66 (s [o 67 (.build [.v (.slice none 0 0),.v (.slice none 0 0)] []),m 68 10,⟨none,.store 2 4
 67,none⟩,m 5 68] [4,5]<|.ret) .skip)<|s [fa 69 0 6,lf 70 1 69,fa 71 3 3,lf 72 1 71,m 73 9,ix 74 1 70 72,⟨none,.store 1 74 73,none⟩] [4,6]<|s [lt 75 2 6,⟨none,.store 2 4 75,none⟩,mi 5 0] [4,5]<|.ret
theorem Cd.i_doStep_k:CK 75 Tryz.f75 Cd.xZ 76 [.cell 4 37,.tmp 5]:=ck Tryz.func75
def Cd.uJ:aF:=s [o 2 (.alloc [.v (.slice none 0 0),.v (.slice none 0 0)])] [0,2]<|s [m 5 0,c 6 F.oP [5],o 7 (.bslice 1 1 [.v (.slice none 0 0)] [(0,6)]),o 8 (.build [.v (.slice none 0 0),.v (.slice none 0 0)] [(0,1,7)]),o 3 (.alloc [.v (.slice none 0 0),.v (.slice none 0 0)]),⟨none,.store 2 3 8,none⟩]
 [2,3]<|.seq (s [mi 4 1] [2,3,4]<|.block 0 (.loop (.seq (s [m 9 4,o 10 (.bin .lss 9 (k 6))] [2,3,4,10]<|.cond 10 .skip (.exit 0))<|.seq (.block 1 (.region [fa 13 0 3,lf 14 1 13,o 15 (.bsliceC 1 0 [.v (.slice none 0 0)] []),o 16 (.bslice 1 1 [.v (.slice none 0 0)] [(0,15)]),o 17 (.append 1 24 14 16),fa
 18 0 3,⟨none,.store 1 18 17,none⟩] [2,3,4] []))<|.region [m 11 4,ad 12 11 1,m 4 12] [2,3,4] [])))<|s [lt 19 2 3,⟨none,.store 2 2 19,none⟩] [2]<|.ret
theorem Cd.s_l15New_k:CK 81 Tryz.f81 Cd.uJ 20 [.cell 2 37]:=ck Tryz.func81
def Cd.bA:aF:=s [mi 4 0] [0,1]<|s [m 5 1,m 6 0,m 7 1,ln 8 7,o 9 (.call (.func F.aD) [6,8] [0]),ix 10 1 5 9,lf 11 1 10,m 4 11] [4]<|.ret
theorem Cd._s_l00Src__among_k:CK 84 Tryz.f84 Cd.bA 12 [.tmp 4]:=ck Tryz.func84
def Cd.fO:aF:=s [mi 2 0] [0]<|s [mi 3 0] [0,3]<|.seq (r [m 4 0,nc 5 4,fa 6 1 5,lf 7 1 6,m 8 0,nc 9 8,fa 10 0 9,lf 11 1 10,ln 12 11,ls 13 7 12] [0,3,13] [4,6,7,5,8,9,10,11,12,13]<|.cond 13 (.region [m 14 0,nc 15 14,fa 16 0 15,lf 17 1 16,m 18 0,nc 19 18,fa 20 1 19,lf 21 1 20,ix 22 1 17 21,lf 23 1 22,o 24 (.conv .i64
 23),m 3 24] [0,3] [14,16,17,15,18,19,20,21,22,23,24]) .skip)<|s [m 25 0,nc 26 25,fa 27 1 26,lf 28 1 27,ad 29 28 1,nc 30 25,fa 31 1 30,⟨none,.store 1 31 29,none⟩] [0,3]<|s [m 32 0,m 33 0,nc 34 33,fa 35 2 34,lf 36 1 35,o 37 (.bin .mul 36 (.const (.int .u64 (6364136223846793005)))),m 38 3,o 39 (.conv
 .u64 38),o 40 (.bin .add 37 39),o 41 (.bin .add 40 (.const (.int .u64 (1442695040888963407)))),nc 42 32,fa 43 2 42,⟨none,.store 1 43 41,none⟩] [0,3]<|.seq (r [m 44 0,nc 45 44,fa 46 1 45,lf 47 1 46,m 48 0,nc 49 48,fa 50 0 49,lf 51 1 50,ln 52 51,o 53 (.bin .leq 47 52)] [0,3,53]
 [44,46,47,45,48,49,50,51,52,53]<|.cond 53 (s [m 54 3,m 2 54] [2]<|.ret) .skip)<|s [m 55 0,nc 56 55,fa 57 2 56,lf 58 1 57,o 59 (.bin .shr 58 (.const (.int .u64 (40)))),o 60 (.bin .and 59 (.const (.int .u64 (255)))),o 61 (.conv .i64 60),m 2 61] [2]<|.ret
theorem Cd._s_l00Src__next_k:CK 85 Tryz.f85 Cd.fO 62 [.tmp 2]:=ck Tryz.func85
def Cd.uO:aF:=s [mi 4 0] [0,1]<|.seq (s [m 5 0,m 6 1,o 7 (.bin .gtr 5 6)] [0,1,7]<|.cond 7 (s [m 8 0,m 4 8] [4]<|.ret) .skip)<|s [m 9 1,m 4 9] [4]<|.ret
theorem Cd.s_l00Max_k:CK 86 Tryz.f86 Cd.uO 10 [.tmp 4]:=ck Tryz.func86
def Cd.kV:aF:=s [o 2 (.alloc [.v (.slice none 0 0)])] [0,2]<|s [m 9 0,o 10 (.call (.func F.aD) [9,(k 3)] [0]),o 11 (.sstr (.const (.string ⟨#[65,66,49]⟩)) (some 10) none),o 12 (.sstr 11 none (some (k 1))),o 13 (.binS .add 12 (.const (.string ⟨#[48,48,48,48]⟩))),c 14 F.oO [13],o 3 (.alloc
 [.v (.slice none 0 0)]),⟨none,.store 1 3 14,none⟩] [0,2,3]<|s [m 16 0,o 17 (.call (.func F.aD) [16,(k 100)] [0]),c 18 F.uM [17,(k 2)],m 15 18,ex 19 15 0,ex 20 15 1,m 4 19,m 5 20] [0,2,3,4]<|s [m 22 0,o 23 (.call (.func F.aD) [22,(k 130)] [0]),o 24 (.bin .sub
 23 (k 30)),c 25 F.uM [24,(k 2)],m 21 25,ex 26 21 0,ex 27 21 1,m 6 26,m 7 27] [2,3,4,6]<|.seq (s [mi 8 0] [2,3,4,6,8]<|.block 0 (.loop (.seq (s [m 28 8,o 29 (.bin .lss 28 (k 2))] [2,3,4,6,8,29]<|.cond 29 .skip (.exit 0))<|.seq (.block 1 (r [fa 32 0 3,lf 33 1 32,m 34 8,o 35 (.bin .add (k 1)
 34),m 36 4,m 37 8,ix 38 1 36 37,lf 39 1 38,ix 40 1 33 35,⟨none,.store 1 40 39,none⟩] [2,3,4,6,8] [32,34,33,35,36,37,38,39]<|.region [fa 41 0 3,lf 42 1 41,m 43 8,o 44 (.bin .add (k 3) 43),m 45 6,m 46 8,ix 47 1 45 46,lf 48 1 47,ix 49 1 42 44,⟨none,.store 1 49 48,none⟩] [2,3,4,6,8]
 [41,43,42,44,45,46,47,48]))<|.region [m 30 8,ad 31 30 1,m 8 31] [2,3,4,6,8] [])))<|s [lt 50 1 3,⟨none,.store 1 2 50,none⟩] [2]<|.ret
theorem Cd.s_l13Card_k:CK 87 Tryz.f87 Cd.kV 51 [.cell 2 143]:=ck Tryz.func87
def Cd.jN:aF:=s [bx 3 1,mn 4,mi 5 0] [0,3]<|.seq (s [m 10 0,c 11 F.iO [10],nt 12 11] [0,3,12]<|.cond 12 (s [mn 4,mi 5 1] [4,5]<|.ret) .skip)<|.seq (r [lt 13 2 3,m 14 0,c 15 F.iZ [14],c 16 F.fD [13,15],nt 17 16] [0,3,17] [13,14,15,16,17]<|.cond 17 (s [mn 4,mi 5 2] [4,5]<|.ret)
 .skip)<|.seq (.naming 6 (.region [o 18 (.bslice 1 0 [.v (.string ⟨#[]⟩)] []),m 6 18] [0,3,6] []))<|.seq (s [mi 7 0] [0,3,6,7]<|.block 0 (.loop (.seq (s [m 19 7,m 20 0,ln 21 20,ls 22 19 21] [0,3,6,7,22]<|.cond 22 .skip (.exit 0))<|.seq (.block 1 (r [m 26 0,m 27 7,ix 28 1 26 27,lt 29 2 3,c 30
 F.xH [28,29],m 25 30,ex 31 25 0,ex 32 25 1,m 8 31,m 9 32] [0,3,6,7,8,9] [26,27,29,28,30,25,31,32,8]<|.seq (s [m 33 9,nt 34 33] [0,3,6,7,8,34]<|.cond 34 (s [mn 4,mi 5 8] [4,5]<|.ret) .skip)<|.naming 6 (.region [m 35 6,m 36 8,o 37 (.bslice 1 1 [.v (.string ⟨#[]⟩)] [(0,36)]),o 38 (.append 1 16
 35 37),m 6 38] [0,3,6,7] [])))<|.region [m 23 7,ad 24 23 1,m 7 24] [0,3,6,7] [])))<|s [m 39 6,m 4 39,mi 5 0] [4,5]<|.ret
theorem Cd.s_l07Keys_k:CK 88 Tryz.f88 Cd.jN 40 [.tmp 4,.tmp 5]:=ck Tryz.func88
def Cd.pG:aF:=s [mn 2] [0]<|.seq (.naming 3 (.region [o 7 (.bslice 1 0 [.v (.int .i64 (0))] []),m 3 7] [0,3] []))<|.seq (s [mi 4 0] [0,3,4]<|.block 0 (.loop (.seq (s [m 8 4,m 9 0,ln 10 9,ls 11 8 10] [0,3,4,11]<|.cond 11 .skip (.exit 0))<|.seq (.block 1 (s [m 14 3,ln 15 14,m 5 15] [0,3,4,5]<|.seq (.block 2 (.loop
 (.seq (r [m 16 5,o 17 (.bin .gtr 16 (k 0)),m 18 17,mg 19 0 18 true,mg 20 4 18 true,⟨some 21,.idxSl 1 19 20,some (18,true)⟩,lg 22 1 21 18 true,mg 23 0 18 true,mg 24 3 18 true,mg 25 5 18 true,⟨some 26,.bin .sub 25 (k 1),some (18,true)⟩,⟨some 27,.idxSl 1 24 26,some (18,true)⟩,lg 28 1 27 18 true,⟨some
 29,.idxSl 1 23 28,some (18,true)⟩,lg 30 1 29 18 true,⟨some 31,.call (.func F.fZ) [22,30] [],some (18,true)⟩,⟨some 32,.bin .lss 31 (k 0),some (18,true)⟩,pf 33 18 32] [0,3,4,5,33] [16,18,19,17,20,21,22,23,24,25,26,27,28,29,30,31,32,33]<|.cond 33 .skip (.exit 2))<|.block 3 (.region [m 34
 5,o 35 (.bin .sub 34 (k 1)),m 5 35] [0,3,4,5] []))))<|.seq (.naming 6 (.region [m 36 3,m 37 5,o 38 (.slc 1 36 none (some 37)),c 39 F.pI [38],m 40 4,o 41 (.bslice 1 1 [.v (.int .i64 (0))] [(0,40)]),o 42 (.append 1 8 39 41),m 6 42] [0,3,4,5,6] []))<|.naming 3 (.region [m 43 6,m 44 3,m 45 5,o
 46 (.slc 1 44 (some 45) none),o 47 (.append 1 8 43 46),m 3 47] [0,3,4] [])))<|.region [m 12 4,ad 13 12 1,m 4 13] [0,3,4] [])))<|s [m 48 3,m 2 48] [2]<|.ret
theorem Cd.s_l07Places_k:CK 89 Tryz.f89 Cd.pG 49 [.tmp 2]:=ck Tryz.func89
def Cd.jE:aF:=s [o 2 (.alloc [.v (.slice none 0 0)])] [0,2]<|s [m 3 0,nc 4 3,fa 5 0 4,lf 6 1 5,c 7 F.pI [6],o 8 (.build [.v (.slice none 0 0)] [(0,1,7)]),⟨none,.store 1 2 8,none⟩] [2]<|.ret
theorem Cd.s_l02Own_k:CK 90 Tryz.f90 Cd.jE 9 [.cell 2 143]:=ck Tryz.func90
def Cd.pE:aF:=s [o 2 (.alloc [.v (.int .i64 (0)),.v (.int .i64 (0))])] [0,2]<|.seq (s [m 3 0,o 4 (.call (.func F.aV) [3,(k 10)] [0])] [0,2,4]<|.cond 4 (s [m 5 0,o 6 (.call (.func F.kF) [5,(k 5)] [0]),⟨none,.store 2 2 6,none⟩] [2]<|.ret) .skip)<|.seq (s [m 7 0,o 8 (.call (.func
 F.aV) [7,(k 12)] [0])] [0,2,8]<|.cond 8 (s [m 9 0,o 10 (.call (.func F.aD) [9,(k 2)] [0]),o 11 (.bin .add (k 13) 10),o 12 (.build [.v (.int .i64 (0)),.v (.int .i64 (0))] [(0,1,(k 1)),(1,1,11)]),⟨none,.store 2 2 12,none⟩] [2]<|.ret) .skip)<|s [m 13 0,o 14 (.call (.func
 F.aD) [13,(k 2)] [0]),o 15 (.bin .mul (k 2) 14),o 16 (.bin .add (k 1) 15),o 17 (.build [.v (.int .i64 (0)),.v (.int .i64 (0))] [(0,1,16),(1,1,(k 5))]),⟨none,.store 2 2 17,none⟩] [2]<|.ret
theorem Cd.s_l18Sum_k:CK 91 Tryz.f91 Cd.pE 18 [.cell 2 41]:=ck Tryz.func91
def Cd.p9:aF:=s [bx 1 0,mf 2] [1]<|s [lt 3 1 1,c 4 F.bV [3],c 5 F.kK [4,(k 1),(k 20)],m 6 5,fg 7 0 1 6 true,lg 8 1 7 6 true,⟨some 9,.call (.func F.lF) [8,(.func F.eQ)] [],some (6,true)⟩,⟨some 10,.un .not 9,some (6,true)⟩,pf 11 6 10,m 2 11]
 [2]<|.ret
theorem Cd.i_ValidCard_k:CK 92 Tryz.f92 Cd.p9 12 [.tmp 2]:=ck Tryz.func92
def Cd.bV:aF:=s [bx 1 0,mi 2 0] [1]<|s [fa 3 0 1,lf 4 1 3,c 5 F.lU [4],m 2 5] [2]<|.ret
theorem Cd._i_Card__columns_k:CK 93 Tryz.f93 Cd.bV 6 [.tmp 2]:=ck Tryz.func93
def Cd.mY:aF:=s [bx 2 0,mf 4] [1,2]<|s [fa 5 0 2,lf 6 1 5,o 7 (.bin .leq (k 0) 6),m 8 7,fg 9 0 2 8 true,lg 10 1 9 8 true,fg 11 1 2 8 true,lg 12 1 11 8 true,⟨some 13,.bin .lss 10 12,some (8,true)⟩,pf 14 8 13,m 15 14,fg 16 1 2 15 true,lg 17 1 16 15 true,mg 18 1 15 true,⟨some 19,.bin .leq 17 18,some (15,true)⟩,pf 20
 15 19,m 4 20] [4]<|.ret
theorem Cd.i_isField_k:CK 94 Tryz.f94 Cd.mY 21 [.tmp 4]:=ck Tryz.func94
def Cd.iP:aF:=s [mi 2 0] [0]<|s [m 3 0,ln 4 3,m 2 4] [2]<|.ret
theorem Cd.i_size_i_Card__k:CK 95 Tryz.f95 Cd.iP 5 [.tmp 2]:=ck Tryz.func95
def Cd.mH:aF:=s [bx 2 0,bx 3 1,mi 4 0,mf 5] [2,3]<|s [fa 14 0 2,lf 15 1 14,fa 16 0 3,lf 17 1 16,fa 18 1 3,lf 19 1 18,o 20 (.slc 1 15 (some 17) (some 19)),c 21 F.kM [20],m 6 21] [6]<|.seq (s [m 22 6,c 23 F.lF [22,(.func F.gD)],nt 24 23] [6,24]<|.cond 24 (s [mi
 4 0,mt 5] [4,5]<|.ret) .skip)<|s [m 25 6,ln 26 25,o 27 (.bin .sub 26 (k 1)),m 7 27] [6,7]<|r [m 28 6,m 29 7,ix 30 1 28 29,lf 31 1 30,c 32 F.fA [(k 11)],o 33 (.bin .and 31 32),ne 34 33 0,m 8 34] [6,7,8] [28,29,31,32,30,33,34]<|r [m 35 6,m 36 7,ix 37 1 35 36,lf 38 1 37,c 39 F.fA [(k
 11)],o 40 (.bin .andNot 38 39),ix 41 1 35 36,⟨none,.store 1 41 40,none⟩] [6,7,8] [35,36,38,39,37,40]<|s [mi 9 0,mf 10] [6,7,8,9,10]<|.seq (s [m 42 6,ln 43 42,mi 44 0] [6,7,8,9,10,42,43,44]<|.block 0 (.loop (s [ls 45 44 43] [6,7,8,9,10,42,43,44,45]<|.seq (.cond 45 .skip (.exit 0))<|.seq (.block 1 (s
 [ix 46 1 42 44,lf 47 1 46,m 12 47] [6,7,8,9,10,12,42,43,44]<|s [m 48 12,c 49 F.vB [48],m 13 49] [6,7,8,9,10,12,13,42,43,44]<|.seq (.block 2 (s [m 51 12,en 52 51 0,m 53 52,mg 54 10 53 true,⟨some 55,.un .not 54,some (53,true)⟩,pf 56 53 55,m 50 56] [6,7,8,9,10,13,42,43,44,50]<|.cond 50 (.exit
 1) (s [m 58 13,o 59 (.bin .lss 58 (k 0)),m 57 59] [6,7,8,9,13,42,43,44,57]<|.cond 57 (s [mi 4 0,mf 5] [4,5]<|.ret) .skip)))<|s [mt 10] [6,7,8,9,10,13,42,43,44]<|.region [m 60 9,o 61 (.bin .mul (k 10) 60),m 62 13,o 63 (.bin .add 61 62),m 9 63] [6,7,8,9,10,42,43,44] []))<|.region [ad 64 44 1,m 44 64]
 [6,7,8,9,10,42,43,44] [])))<|.seq (s [m 65 10,nt 66 65,m 67 66,mg 68 6 67 false,mg 69 7 67 false,⟨some 70,.idxSl 1 68 69,some (67,false)⟩,lg 71 1 70 67 false,⟨some 72,.bin .eql 71 (k 0),some (67,false)⟩,pt 73 67 72,m 74 73,mg 75 8 74 false,mg 76 75 74 false,mg 77 9 76 true,⟨some 78,.bin .eql 77 (k
 0),some (76,true)⟩,⟨some 79,.pick 76 78 (.const (.bool false)),some (74,false)⟩,pt 80 74 79] [8,9,80]<|.cond 80 (s [mi 4 0,mf 5] [4,5]<|.ret) .skip)<|.seq (s [m 81 8] [9,81]<|.cond 81 (.region [m 82 9,o 83 (.un .neg 82),m 9 83] [9] []) .skip)<|s [m 84 9,m 4 84,mt 5] [4,5]<|.ret
theorem Cd.i_numberIn_k:CK 96 Tryz.f96 Cd.mH 85 [.tmp 4,.tmp 5]:=ck Tryz.func96
def Cd.sH:aF:=s [mi 2 0] [0]<|s [mi 3 0] [0,3]<|.seq (s [m 6 0,c 7 F.pY [6],ln 8 7,mi 9 0] [3,7,8,9]<|.block 0 (.loop (s [ls 10 9 8] [3,7,8,9,10]<|.seq (.cond 10 .skip (.exit 0))<|.seq (.block 1 (s [ix 11 1 7 9,lf 12 1 11,m 5 12] [3,5,7,8,9]<|.region [m 13 3,m 14 5,o 15 (.bin .add 13 14),m 3 15]
 [3,7,8,9] []))<|.region [ad 16 9 1,m 9 16] [3,7,8,9] [])))<|s [m 17 3,m 2 17] [2]<|.ret
theorem Cd.i_digitSum_k:CK 97 Tryz.f97 Cd.sH 18 [.tmp 2]:=ck Tryz.func97
def Cd.eP:aF:=s [bx 4 0,mi 8 0] [1,2,3,4]<|.seq (s [m 19 3,ln 20 19,mi 21 0] [1,2,3,4,19,20,21]<|.block 0 (.loop (s [ls 22 21 20] [1,2,3,4,19,20,21,22]<|.seq (.cond 22 .skip (.exit 0))<|.seq (.block 1 (s [ix 23 1 19 21,lf 24 1 23,m 10 24] [1,2,3,4,10,19,20,21]<|s [m 25 10,c 26 F.iG [25],nt 27 26]
 [1,2,3,4,19,20,21,27]<|.cond 27 (s [mi 8 1] [8]<|.ret) .skip))<|.region [ad 28 21 1,m 21 28] [1,2,3,4,19,20,21] [])))<|.seq (s [m 29 1,nt 30 29] [2,3,4,30]<|.cond 30 (s [mi 8 1] [8]<|.ret) .skip)<|.seq (s [m 31 3,ln 32 31,mi 33 0] [2,3,4,31,32,33]<|.block 2 (.loop (s [ls 34 33 32]
 [2,3,4,31,32,33,34]<|.seq (.cond 34 .skip (.exit 2))<|.seq (.block 3 (s [ix 35 1 31 33,lf 36 1 35,m 12 36] [2,3,4,12,31,32,33]<|r [lt 37 2 4,m 38 12,c 39 F.eO [38],c 40 F.mY [37,39],nt 41 40] [2,3,4,31,32,33,41] [37,38,39,40,41]<|.cond 41 (s [mi 8 2] [8]<|.ret)
 .skip))<|.region [ad 42 33 1,m 33 42] [2,3,4,31,32,33] [])))<|.seq (s [m 43 2,ln 44 43,mi 45 0] [2,3,4,43,44,45]<|.block 4 (.loop (s [ls 46 45 44] [2,3,4,43,44,45,46]<|.seq (.cond 46 .skip (.exit 4))<|.seq (.block 5 (s [ix 47 1 43 45,lf 48 1 47,m 14 48] [2,3,4,14,43,44,45]<|s [m 49 14,o 50 (.lenS
 49),fa 51 1 4,lf 52 1 51,fa 53 0 4,lf 54 1 53,o 55 (.bin .sub 52 54),o 56 (.bin .neq 50 55)] [2,3,4,43,44,45,56]<|.cond 56 (s [mi 8 2] [8]<|.ret) .skip))<|.region [ad 57 45 1,m 45 57] [2,3,4,43,44,45] [])))<|.seq (s [m 58 2,ln 59 58,mi 60 0] [3,4,58,59,60]<|.block 6 (.loop (s [ls 61 60 59]
 [3,4,58,59,60,61]<|.seq (.cond 61 .skip (.exit 6))<|.seq (.block 7 (s [ix 62 1 58 60,lf 63 1 62,m 16 63] [3,4,16,58,59,60]<|s [m 64 16,c 65 F.gY [64],nt 66 65] [3,4,58,59,60,66]<|.cond 66 (s [mi 8 7] [8]<|.ret) .skip))<|.region [ad 67 60 1,m 60 67] [3,4,58,59,60] [])))<|.seq (s [m 68
 3,ln 69 68,mi 70 0] [4,68,69,70]<|.block 8 (.loop (s [ls 71 70 69] [4,68,69,70,71]<|.seq (.cond 71 .skip (.exit 8))<|.seq (.block 9 (s [ix 72 1 68 70,lf 73 1 72,m 18 73] [4,18,68,69,70]<|s [m 74 18,lt 75 2 4,c 76 F.kL [74,75],nt 77 76] [4,68,69,70,77]<|.cond 77 (s [mi 8 8] [8]<|.ret)
 .skip))<|.region [ad 78 70 1,m 70 78] [4,68,69,70] [])))<|s [mi 8 0] [8]<|.ret
theorem Cd.i_collateCode_k:CK 98 Tryz.f98 Cd.eP 79 [.tmp 8]:=ck Tryz.func98
def Cd.gJ:aF:=s [bx 3 1,mf 4] [0,3]<|s [m 5 0,lt 6 2 3,c 7 F.aA4 [5,6],ln 8 7,en 9 8 0,m 4 9] [4]<|.ret
theorem Cd.i_isAscending_k:CK 99 Tryz.f99 Cd.gJ 10 [.tmp 4]:=ck Tryz.func99
def Cd.kP:aF:=s [bx 5 1,bx 6 2,mn 7] [0,3,5,6]<|s [m 8 0,c 9 F.jT [8],o 10 (.mkfn F.gP [5,3,6]),o 11 (.call (.func F.sM) [9,10] [0]),m 7 11] [7]<|.ret
theorem Cd.i_MatchDecks_1_k:CK 100 Tryz.f100 Cd.kP 12 [.tmp 7]:=ck Tryz.func100
def Cd.sM:aF:=s [mn 4] [0,1]<|s [m 8 0,m 9 1,c 10 F.lT [8,9],m 5 10] [0,1,5]<|.seq (s [m 11 5,en 12 11 (-1)] [0,1,5,12]<|.cond 12 (s [m 13 0,m 4 13] [4]<|.ret) .skip)<|.seq (s [m 14 5,ad 15 14 1,m 6 15] [0,1,5,6]<|.block 0 (.loop (.seq (s [m 16 6,m 17 0,ln 18 17,ls 19 16 18]
 [0,1,5,6,19]<|.cond 19 .skip (.exit 0))<|.seq (.block 1 (s [m 22 0,m 23 6,ix 24 1 22 23,lt 25 1 24,o 7 (.alloc [.v (.slice none 0 0)]),⟨none,.store 1 7 25,none⟩] [0,1,5,6,7]<|s [m 26 1,lt 27 1 7,o 28 (.call 26 [27] []),nt 29 28] [0,1,5,6,7,29]<|.cond 29 (s [m 30 0,m 31 5,lt 32 1 7,ix 33 1 30
 31,⟨none,.store 1 33 32,none⟩] [0,1,5,6]<|.region [m 34 5,ad 35 34 1,m 5 35] [0,1,5,6] []) .skip))<|.region [m 20 6,ad 21 20 1,m 6 21] [0,1,5,6] [])))<|s [m 36 0,m 37 5,o 38 (.slc 1 36 (some 37) none),⟨none,.clr 1 [.v (.slice none 0 0)] 38,none⟩] [0,5]<|s [m 39 0,m 40 5,o 41 (.slc 1 39 none (some
 40)),m 4 41] [4]<|.ret
theorem Cd.dlf_Card_k:CK 101 Tryz.f101 Cd.sM 42 [.tmp 4]:=ck Tryz.func101
def Cd.jT:aF:=s [mn 2] [0]<|.seq (.naming 3 (.region [o 6 (.bslice 1 0 [.v (.slice none 0 0)] []),m 3 6] [0,3] []))<|.seq (s [m 7 0,ln 8 7,mi 9 0] [3,7,8,9]<|.block 0 (.loop (s [ls 10 9 8] [3,7,8,9,10]<|.seq (.cond 10 .skip (.exit 0))<|.seq (.block 1 (s [ix 11 1 7 9,lt 12 1 11,o 5 (.alloc [.v (.slice none 0
 0)]),⟨none,.store 1 5 12,none⟩] [3,5,7,8,9]<|.naming 3 (.region [m 13 3,lt 14 1 5,c 15 F.oZ [14],o 16 (.bslice 1 1 [.v (.slice none 0 0)] [(0,15)]),o 17 (.append 1 24 13 16),m 3 17] [3,7,8,9] [])))<|.region [ad 18 9 1,m 9 18] [3,7,8,9] [])))<|s [m 19 3,m 2 19] [2]<|.ret
theorem Cd.i_newDeck_k:CK 102 Tryz.f102 Cd.jT 20 [.tmp 2]:=ck Tryz.func102
def Cd.gP:aF:=s [bx 4 0,mf 5] [1,2,3,4]<|r [lf 6 1 1,lt 7 1 4,lt 8 2 2,c 9 F.sF [6,7,8],lf 10 1 3,o 11 (.binB .neq 9 10),m 5 11] [5] [6,7,8,10,9,11]<|.ret
theorem Cd.i_MatchDecks_1_1_k:CK 103 Tryz.f103 Cd.gP 12 [.tmp 5]:=ck Tryz.func103
def Cd.sF:aF:=s [bx 4 1,bx 5 2,mf 6] [0,4,5]<|s [m 7 0,o 8 (.mkfn F.gF [4,5]),c 9 F.sN [7,8],m 6 9] [6]<|.ret
theorem Cd.i_hasEqual_k:CK 104 Tryz.f104 Cd.sF 10 [.tmp 6]:=ck Tryz.func104
def Cd.aAK:aF:=s [mf 2] [0]<|.seq (s [mi 3 0] [0,3]<|.block 0 (.loop (.seq (s [m 4 3,m 5 0,nc 6 5,fa 7 0 6,lf 8 1 7,ln 9 8,ls 10 4 9] [0,3,10]<|.cond 10 .skip (.exit 0))<|.seq (.block 1 (s [m 13 0,nc 14 13,fa 15 0 14,lf 16 1 15,m 17 3,ix 18 1 16 17,lf 19 1 18,c 20 F.nE [19,(k 0),(k 4095)],nt 21 20]
 [0,3,21]<|.cond 21 (s [mf 2] [2]<|.ret) .skip))<|.region [m 11 3,ad 12 11 1,m 3 12] [0,3] [])))<|s [m 22 0,nc 23 22,fa 24 0 23,lf 25 1 24,ln 26 25,c 27 F.nE [26,(k 1),(k 20)],m 2 27] [2]<|.ret
theorem Cd.s_l02Ok_k:CK 105 Tryz.f105 Cd.aAK 28 [.tmp 2]:=ck Tryz.func105
def Cd.fD:aF:=s [bx 2 0,mf 4] [1,2]<|s [fa 5 0 2,lf 6 1 5,o 7 (.bin .geq 6 (k 0)),m 8 7,fg 9 0 2 8 true,lg 10 1 9 8 true,fg 11 1 2 8 true,lg 12 1 11 8 true,⟨some 13,.bin .lss 10 12,some (8,true)⟩,pf 14 8 13,m 15 14,fg 16 1 2 15 true,lg 17 1 16 15 true,mg 18 1 15 true,⟨some 19,.bin .leq 17 18,some (15,true)⟩,pf 20
 15 19,m 4 20] [4]<|.ret
theorem Cd.s_l02Field_k:CK 106 Tryz.f106 Cd.fD 21 [.tmp 4]:=ck Tryz.func106
def Cd.kE:aF:=s [mi 2 0,mf 3] [0]<|s [mi 4 0] [0,4]<|s [mf 5] [0,4,5]<|s [mf 6] [0,4,5,6]<|.seq (s [mi 7 0] [0,4,5,6,7]<|.block 0 (.loop (.seq (s [m 10 7,m 11 0,ln 12 11,ls 13 10 12] [0,4,5,6,7,13]<|.cond 13 .skip (.exit 0))<|.seq (.block 1 (s [m 16 0,m 17 7,ix 18 1 16 17,lf 19 1 18,m 8 19] [0,4,5,6,7,8]<|.seq (s
 [m 20 7,m 21 0,ln 22 21,o 23 (.bin .sub 22 (k 1)),o 24 (.bin .eql 20 23),m 25 24,mg 26 8 25 true,⟨some 27,.bin .and 26 (k 2),some (25,true)⟩,⟨some 28,.bin .neq 27 (k 0),some (25,true)⟩,pf 29 25 28] [0,4,5,6,7,8,29]<|.cond 29 (s [mt 6] [0,4,5,6,7,8]<|.region [m 30 8,o 31 (.bin .sub 30 (k 2)),m 8 31]
 [0,4,5,6,7,8] []) .skip)<|.seq (s [m 32 8,en 33 32 0,m 34 33,mg 35 5 34 true,⟨some 36,.un .not 35,some (34,true)⟩,pf 37 34 36,m 38 37,mg 39 6 38 true,⟨some 40,.un .not 39,some (38,true)⟩,pf 41 38 40] [0,4,5,6,7,8,41]<|.cond 41 (.exit 1) .skip)<|s [m 42 8,c 43 F.rH [42],m 9 43]
 [0,4,6,7,9]<|.seq (s [m 44 9,o 45 (.bin .lss 44 (k 0))] [0,4,6,7,9,45]<|.cond 45 (s [mi 2 0,mf 3] [2,3]<|.ret) .skip)<|s [mt 5] [0,4,5,6,7,9]<|.region [m 46 4,o 47 (.bin .mul (k 10) 46),m 48 9,o 49 (.bin .add 47 48),m 4 49] [0,4,5,6,7] []))<|.region [m 14 7,ad 15 14 1,m 7 15] [0,4,5,6,7] [])))<|.seq
 (s [m 50 6] [4,50]<|.cond 50 (s [m 51 4,o 52 (.un .neg 51),m 53 4,ne 54 53 0,m 2 52,m 3 54] [2,3]<|.ret) .skip)<|s [m 55 4,m 2 55,mt 3] [2,3]<|.ret
theorem Cd.s_l03Number_k:CK 107 Tryz.f107 Cd.kE 56 [.tmp 2,.tmp 3]:=ck Tryz.func107
def Cd.mM:aF:=s [bx 3 1,mn 4] [0,3]<|r [m 5 0,nc 6 5,fa 7 0 6,lf 8 1 7,fa 9 0 3,lf 10 1 9,fa 11 1 3,lf 12 1 11,o 13 (.slc 1 8 (some 10) (some 12)),m 4 13] [4] [5,7,8,6,9,10,11,12,13]<|.ret
theorem Cd.s_l02Part_k:CK 108 Tryz.f108 Cd.mM 14 [.tmp 4]:=ck Tryz.func108
def Cd.pF:aF:=s [mi 2 0] [0]<|.seq (s [m 4 0,o 5 (.bin .lss 4 (k 0))] [0,5]<|.cond 5 (.region [m 6 0,o 7 (.un .neg 6),m 0 7] [0] []) .skip)<|s [mi 3 0] [0,3]<|.seq (.block 0 (.loop (.seq (s [m 8 0,o 9 (.bin .gtr 8 (k 0))] [0,3,9]<|.cond 9 .skip (.exit 0))<|.seq (.block 1 (.region [m 12 3,m 13 0,o 14 (.bin .rem 13
 (k 10)),o 15 (.bin .add 12 14),m 3 15] [0,3] []))<|.region [m 10 0,o 11 (.bin .quo 10 (k 10)),m 0 11] [0,3] [])))<|s [m 16 3,m 2 16] [2]<|.ret
theorem Cd.s_l18Digits_k:CK 109 Tryz.f109 Cd.pF 17 [.tmp 2]:=ck Tryz.func109
def Cd.rF:aF:=s [bx 5 2,mn 6,mn 7,mi 8 0] [0,1,5]<|.seq (s [m 13 0,c 14 F.iO [13],nt 15 14,m 16 15,mg 17 1 16 false,⟨some 18,.call (.func F.iO) [17] [],some (16,false)⟩,⟨some 19,.un .not 18,some (16,false)⟩,pt 20 16 19] [0,1,5,20]<|.cond 20 (s [mn 6,mn 7,mi 8 1] [6,7,8]<|.ret) .skip)<|.seq (r
 [lt 21 2 5,m 22 0,c 23 F.iZ [22],c 24 F.fD [21,23],nt 25 24,m 26 25,⟨some 27,.load true 2 5,some (26,false)⟩,mg 28 1 26 false,⟨some 29,.call (.func F.iZ) [28] [],some (26,false)⟩,⟨some 30,.call (.func F.fD) [27,29] [],some (26,false)⟩,⟨some 31,.un .not
 30,some (26,false)⟩,pt 32 26 31] [0,1,5,32] [21,22,23,24,25,26,27,28,29,30,31,32]<|.cond 32 (s [mn 6,mn 7,mi 8 2] [6,7,8]<|.ret) .skip)<|s [m 34 0,lt 35 2 5,c 36 F.jN [34,35],m 33 36,ex 37 33 0,ex 38 33 1,m 9 37,m 10 38] [1,5,9,10]<|s [m 40 1,lt 41 2 5,c 42 F.jN [40,41],m 39 42,ex
 43 39 0,ex 44 39 1,m 11 43,m 12 44] [9,10,11,12]<|.seq (s [m 45 10,ne 46 45 0,m 47 46,mg 48 12 47 false,⟨some 49,.bin .neq 48 (k 0),some (47,false)⟩,pt 50 47 49] [9,11,50]<|.cond 50 (s [mn 6,mn 7,mi 8 8] [6,7,8]<|.ret) .skip)<|s [m 51 9,m 52 11,m 6 51,m 7 52,mi 8 0] [6,7,8]<|.ret
theorem Cd.s_l09Two_k:CK 110 Tryz.f110 Cd.rF 53 [.tmp 6,.tmp 7,.tmp 8]:=ck Tryz.func110
def Cd.mK:aF:=s [mi 2 0] [0]<|.seq (s [mi 3 1] [0,3]<|.block 0 (.loop (.seq (s [m 4 3,m 5 0,ln 6 5,ls 7 4 6] [0,3,7]<|.cond 7 .skip (.exit 0))<|.seq (.block 1 (r [m 10 0,m 11 3,ix 12 1 10 11,lf 13 1 12,m 14 0,m 15 3,o 16 (.bin .sub 15 (k 1)),ix 17 1 14 16,lf 18 1 17,c 19 F.fZ [13,18],o 20 (.bin .lss
 19 (k 0))] [0,3,20] [10,11,13,14,12,15,16,17,18,19,20]<|.cond 20 (s [m 21 3,m 2 21] [2]<|.ret) .skip))<|.region [m 8 3,ad 9 8 1,m 3 9] [0,3] [])))<|s [mi 2 (-1)] [2]<|.ret
theorem Cd.s_l07Step_k:CK 111 Tryz.f111 Cd.mK 22 [.tmp 2]:=ck Tryz.func111
def Cd.oM:aF:=s [mn 6,mn 7] [0,1,2]<|.seq (.naming 8 (.region [o 11 (.bslice 1 0 [.v (.slice none 0 0)] []),m 8 11] [0,1,2,8] []))<|.seq (.naming 9 (.region [o 12 (.bslice 1 0 [.v (.slice none 0 0)] []),m 9 12] [0,1,2,8,9] []))<|.seq (s [mi 10 0] [0,1,2,8,9,10]<|.block 0 (.loop (.seq (s [m 13 10,m 14 0,ln 15 14,ls
 16 13 15] [0,1,2,8,9,10,16]<|.cond 16 .skip (.exit 0))<|.seq (.block 1 (s [m 19 2,m 20 1,m 21 10,ix 22 1 20 21,lf 23 1 22,c 24 F.xE [19,23]] [0,1,2,8,9,10,24]<|.cond 24 (.naming 8 (.region [m 25 8,m 26 0,m 27 10,ix 28 1 26 27,c 29 F.jE [28],o 30 (.bslice 1 1 [.v (.slice none 0 0)]
 [(0,29)]),o 31 (.append 1 24 25 30),m 8 31] [0,1,2,8,9,10] [])) (.naming 9 (.region [m 32 9,m 33 0,m 34 10,ix 35 1 33 34,c 36 F.jE [35],o 37 (.bslice 1 1 [.v (.slice none 0 0)] [(0,36)]),o 38 (.append 1 24 32 37),m 9 38] [0,1,2,8,9,10] []))))<|.region [m 17 10,ad 18 17 1,m 10 18]
 [0,1,2,8,9,10] [])))<|s [m 39 8,m 40 9,m 6 39,m 7 40] [6,7]<|.ret
theorem Cd.s_l09Match_k:CK 112 Tryz.f112 Cd.oM 41 [.tmp 6,.tmp 7]:=ck Tryz.func112
def Cd.oP:aF:=s [mn 2] [0]<|.seq (.naming 3 (.region [o 5 (.bslice 1 0 [.v (.slice none 0 0)] []),m 3 5] [0,3] []))<|.seq (s [mi 4 0] [0,3,4]<|.block 0 (.loop (.seq (s [m 6 4,m 7 0,ln 8 7,ls 9 6 8] [0,3,4,9]<|.cond 9 .skip (.exit 0))<|.seq (.block 1 (.naming 3 (.region [m 12 3,m 13 0,m 14 4,ix 15 1 13 14,c 16
 F.jE [15],o 17 (.bslice 1 1 [.v (.slice none 0 0)] [(0,16)]),o 18 (.append 1 24 12 17),m 3 18] [0,3,4] [])))<|.region [m 10 4,ad 11 10 1,m 4 11] [0,3,4] [])))<|s [m 19 3,m 2 19] [2]<|.ret
theorem Cd.s_l02Copy_k:CK 115 Tryz.f115 Cd.oP 20 [.tmp 2]:=ck Tryz.func115
def Cd.nE:aF:=s [mf 6] [0,1,2]<|s [m 7 0,m 8 1,o 9 (.bin .geq 7 8),m 10 9,mg 11 0 10 true,mg 12 2 10 true,⟨some 13,.bin .leq 11 12,some (10,true)⟩,pf 14 10 13,m 6 14] [6]<|.ret
theorem Cd.s_l00In_k:CK 116 Tryz.f116 Cd.nE 15 [.tmp 6]:=ck Tryz.func116
def Cd.oI:aF:=s [mf 2] [0]<|s [m 3 0,c 4 F.nE [3,(k 0),(k 5)],m 2 4] [2]<|.ret
theorem Cd.s_l15Tray_k:CK 117 Tryz.f117 Cd.oI 5 [.tmp 2]:=ck Tryz.func117
def Cd.uK:aF:=s [mf 2] [0]<|s [m 3 0,c 4 F.nE [3,(k 2),(k 4)],m 2 4] [2]<|.ret
theorem Cd.s_l15Both_k:CK 118 Tryz.f118 Cd.uK 5 [.tmp 2]:=ck Tryz.func118
def Cd.qV:aF:=s [bx 3 1,mi 4 0] [0,3]<|.seq (s [m 6 0,o 7 (.lenS 6),fa 8 1 3,lf 9 1 8,fa 10 0 3,lf 11 1 10,o 12 (.bin .sub 9 11),o 13 (.bin .neq 7 12)] [0,13]<|.cond 13 (s [mi 4 2] [4]<|.ret) .skip)<|.seq (s [mi 5 0] [0,5]<|.block 0 (.loop (.seq (s [m 14 5,m 15 0,o 16 (.lenS 15),ls 17 14 16] [0,5,17]<|.cond 17
 .skip (.exit 0))<|.seq (.block 1 (s [m 20 0,m 21 5,o 22 (.idxStr 20 21),c 23 F.oN [22],o 24 (.bin .lss 23 (k 0))] [0,5,24]<|.cond 24 (s [mi 4 7] [4]<|.ret) .skip))<|.region [m 18 5,ad 19 18 1,m 5 19] [0,5] [])))<|s [mi 4 0] [4]<|.ret
theorem Cd.s_l09Text_k:CK 119 Tryz.f119 Cd.qV 25 [.tmp 4]:=ck Tryz.func119
def Cd.uI:aF:=s [bx 4 1,bx 5 2,mn 6,mi 7 0] [0,4,5]<|s [lt 13 2 4,lt 14 2 5,o 15 (.bslice 2 1 [.v (.int .i64 (0)),.v (.int .i64 (0))] [(0,14)]),o 16 (.build [.v (.int .i64 (0)),.v (.int .i64 (0)),.v (.slice none 0 0),.v (.bool false)] [(0,2,13),(2,1,15)]),bx 17 16,m 18 0,c 19 F.yR [17,18],m 12 19,ex 20
 12 0,ex 21 12 1,m 8 20,m 9 21] [8,9]<|.seq (s [m 22 9,ne 23 22 0] [8,9,23]<|.cond 23 (s [m 24 9,mn 6,m 7 24] [6,7]<|.ret) .skip)<|.seq (.naming 10 (.region [o 25 (.bslice 2 0 [.v (.string ⟨#[]⟩),.v (.int .i64 (0))] []),m 10 25] [8,10] []))<|.seq (s [mi 11 0] [8,10,11]<|.block 0 (.loop (.seq (s [m 26
 11,m 27 8,nc 28 27,fa 29 2 28,lf 30 1 29,ln 31 30,ls 32 26 31] [8,10,11,32]<|.cond 32 .skip (.exit 0))<|.seq (.block 1 (.naming 10 (.region [m 35 10,m 36 8,nc 37 36,fa 38 0 37,lf 39 1 38,m 40 8,nc 41 40,fa 42 2 41,lf 43 1 42,m 44 11,ix 45 1 43 44,lf 46 1 45,ix 47 1 39 46,lf 48 1 47,m 49 8,m 50 8,nc
 51 50,fa 52 2 51,lf 53 1 52,m 54 11,ix 55 1 53 54,lf 56 1 55,m 57 8,m 58 11,c 59 F.nX [57,58],c 60 F.l5 [49,56,59,(k 1)],o 61 (.idxSl 1 60 (k 0)),lf 62 1 61,o 63 (.build [.v (.string ⟨#[]⟩),.v (.int .i64 (0))] [(0,1,48),(1,1,62)]),o 64 (.bslice 2 1 [.v (.string ⟨#[]⟩),.v
 (.int .i64 (0))] [(0,63)]),o 65 (.append 2 24 35 64),m 10 65] [8,10,11] [35,36,37,38,39,40,41,42,43,44,45,46,47,48,49,50,51,52,53,54,55,56,57,58,59,60,61,62,63,64,65])))<|.region [m 33 11,ad 34 33 1,m 11 34] [8,10,11] [])))<|s [m 66 10,m 6 66,mi 7 0] [6,7]<|.ret
theorem Cd.s_l15Sums_k:CK 120 Tryz.f120 Cd.uI 67 [.tmp 6,.tmp 7]:=ck Tryz.func120
def Cd.bZ:aF:=s [mn 4,mi 5 0] [0,1]<|r [m 10 0,nc 11 10,fa 12 0 11,lf 13 1 12,m 14 1,nc 15 14,fa 16 1 15,lf 17 1 16,ix 18 1 13 17,lf 19 1 18,m 6 19] [0,1,6] [10,12,13,11,14,15,16,17,18,19]<|r [m 20 0,nc 21 20,fa 22 0 21,lf 23 1 22,m 24 1,nc 25 24,fa 26 2 25,lf 27 1 26,ix 28 1 23 27,lf 29 1 28,m 7 29] [1,6,7]
 [20,22,23,21,24,25,26,27,28,29]<|.seq (s [m 30 1,nc 31 30,fa 32 0 31,lf 33 1 32] [1,6,7,33]<|.block 0 (s [en 35 33 1,m 34 35] [1,6,7,33,34]<|.cond 34 (s [m 36 6,m 37 1,nc 38 37,fa 39 4 38,lt 40 2 39,c 41 F.mD [36,40],ex 42 41 0,ex 43 41 1,m 4 42,m 5 43] [4,5]<|.ret) (s [en 45 33 2,m 44 45]
 [1,6,7,33,44]<|.cond 44 (s [m 46 6,m 47 7,m 48 1,nc 49 48,fa 50 4 49,lt 51 2 50,c 52 F.nH [46,47,51],ex 53 52 0,ex 54 52 1,m 4 53,m 5 54] [4,5]<|.ret) (s [en 56 33 5,m 55 56] [1,6,7,33,55]<|.cond 55 (r [m 57 6,m 58 1,nc 59 58,fa 60 4 59,lt 61 2 60,m 62 1,nc 63 62,fa 64 8 63,lf 65 1 64,c
 66 F.lN [57,61,65],ex 67 66 0,ex 68 66 1,m 4 67,m 5 68] [4,5] [57,58,59,60,61,62,63,64,65,66,67,68]<|.ret) (s [en 70 33 6,m 69 70] [1,6,7,69]<|.cond 69 (s [m 71 6,m 72 1,nc 73 72,fa 74 4 73,lt 75 2 74,c 76 F.jG [71,75],ex 77 76 0,ex 78 76 1,m 4 77,m 5 78] [4,5]<|.ret)
 .skip)))))<|s [m 80 6,m 81 7,m 82 1,nc 83 82,fa 84 4 83,lt 85 2 84,c 86 F.kW [80,81,85],m 79 86,ex 87 79 0,ex 88 79 1,m 8 87,m 9 88] [1,8,9]<|.seq (s [m 89 9,ne 90 89 0] [1,8,9,90]<|.cond 90 (s [m 91 9,mn 4,m 5 91] [4,5]<|.ret) .skip)<|.seq (s [m 92 1,nc 93 92,fa 94 0 93,lf 95 1 94,en 96
 95 3] [8,96]<|.cond 96 (s [m 97 8,o 98 (.idxSl 1 97 (k 0)),lf 99 1 98,m 4 99,mi 5 0] [4,5]<|.ret) .skip)<|s [m 100 8,o 101 (.idxSl 1 100 (k 2)),lf 102 1 101,m 4 102,mi 5 0] [4,5]<|.ret
theorem Cd.s_l15Make_k:CK 121 Tryz.f121 Cd.bZ 103 [.tmp 4,.tmp 5]:=ck Tryz.func121
def Cd.p8:aF:=s [bx 2 0,mf 4] [1,2]<|.seq (.block 0 (s [m 6 1,c 7 F.kK [6,(k 1),(k 20)],nt 8 7,m 9 8,fg 10 0 2 9 false,lg 11 1 10 9 false,⟨some 12,.call (.func F.kK) [11,(k 1),(k 7)] [],some (9,false)⟩,⟨some 13,.un .not 12,some (9,false)⟩,pt 14 9 13,m 15 14,fg 16 1 2 15 false,lg 17 1 16 15
 false,⟨some 18,.call (.func F.rZ) [17] [],some (15,false)⟩,⟨some 19,.un .not 18,some (15,false)⟩,pt 20 15 19,m 21 20,fg 22 2 2 21 false,lg 23 1 22 21 false,⟨some 24,.call (.func F.rZ) [23] [],some (21,false)⟩,⟨some 25,.un .not 24,some (21,false)⟩,pt 26 21 25,m 27 26,fg 28 3 2 27
 false,lg 29 1 28 27 false,⟨some 30,.call (.func F.rZ) [29] [],some (27,false)⟩,⟨some 31,.un .not 30,some (27,false)⟩,pt 32 27 31,m 5 32] [1,2,5]<|.cond 5 (s [mf 4] [4]<|.ret) (s [fa 34 2 2,lf 35 1 34,ne 36 35 0,m 37 36,fg 38 0 2 37 true,lg 39 1 38 37 true,⟨some 40,.call (.func
 F.rX) [39] [],some (37,true)⟩,⟨some 41,.un .not 40,some (37,true)⟩,pf 42 37 41,m 43 42,fg 44 3 2 43 false,lg 45 1 44 43 false,⟨some 46,.bin .neq 45 (k 0),some (43,false)⟩,mg 47 46 43 false,fg 48 0 2 47 true,lg 49 1 48 47 true,⟨some 50,.bin .eql 49 (k 7),some (47,true)⟩,⟨some 51,.pick 47 50
 (.const (.bool false)),some (43,false)⟩,pt 52 43 51,m 53 52,fg 54 4 2 53 false,⟨some 55,.load true 2 54,some (53,false)⟩,mg 56 1 53 false,⟨some 57,.call (.func F.mY) [55,56] [],some (53,false)⟩,⟨some 58,.un .not 57,some (53,false)⟩,pt 59 53 58,m 33 59] [1,2,33]<|.cond 33 (s [mf 4]
 [4]<|.ret) (s [fa 61 0 2,lf 62 1 61,en 63 62 7,m 64 63,fg 65 6 2 64 true,⟨some 66,.load true 2 65,some (64,true)⟩,mg 67 1 64 true,⟨some 68,.call (.func F.fG) [66,67] [],some (64,true)⟩,⟨some 69,.un .not 68,some (64,true)⟩,pf 70 64 69,m 71 70,fg 72 0 2 71 false,lg 73 1 72 71
 false,⟨some 74,.bin .neq 73 (k 7),some (71,false)⟩,mg 75 74 71 false,fg 76 6 2 75 true,⟨some 77,.load true 2 76,some (75,true)⟩,⟨some 78,.build [.v (.int .i64 (0)),.v (.int .i64 (0))] [],some (75,true)⟩,⟨some 79,.eqA true [0,0] 77 78,some (75,true)⟩,⟨some 80,.pick 75 79 (.const (.bool false)),some
 (71,false)⟩,pt 81 71 80,m 60 81] [2,60]<|.cond 60 (s [mf 4] [4]<|.ret) (s [fa 83 0 2,lf 84 1 83,en 85 84 5,m 82 85] [2,82]<|.cond 82 (s [fa 86 8 2,lf 87 1 86,c 88 F.gY [87],m 89 88,fg 90 8 2 89 true,lg 91 1 90 89 true,⟨some 92,.lenS 91,some (89,true)⟩,fg 93 4 2 89 true,fg 94 1 93 89
 true,lg 95 1 94 89 true,fg 96 4 2 89 true,fg 97 0 96 89 true,lg 98 1 97 89 true,⟨some 99,.bin .sub 95 98,some (89,true)⟩,⟨some 100,.bin .eql 92 99,some (89,true)⟩,pf 101 89 100,m 4 101] [4]<|.ret) .skip)))))<|s [fa 102 8 2,lf 103 1 102,o 104 (.binS .eql 103 (.const (.string ⟨#[]⟩))),m 4 104]
 [4]<|.ret
theorem Cd.i_ValidStep_k:CK 124 Tryz.f124 Cd.p8 105 [.tmp 4]:=ck Tryz.func124
def Cd.mX:aF:=s [bx 1 0,o 2 (.alloc [.v (.slice none 0 0),.v (.slice none 0 0)])] [1,2]<|s [o 8 (.bslice 1 0 [.v (.slice none 0 0)] []),o 9 (.bslice 1 0 [.v (.slice none 0 0)] []),o 10 (.build [.v (.slice none 0 0),.v (.slice none 0 0)] [(0,1,8),(1,1,9)]),o 3 (.alloc [.v (.slice none 0 0),.v (.slice none 0
 0)]),⟨none,.store 2 3 10,none⟩] [1,2,3]<|.seq (s [fa 11 0 1,lf 12 1 11,ln 13 12,mi 14 0] [1,2,3,12,13,14]<|.block 0 (.loop (s [ls 15 14 13] [1,2,3,12,13,14,15]<|.seq (.cond 15 .skip (.exit 0))<|.seq (.block 1 (s [ix 16 1 12 14,lf 17 1 16,m 5 17] [1,2,3,5,12,13,14]<|.region [fa 18 0 3,lf 19 1 18,m 20
 5,c 21 F.jT [20],o 22 (.bslice 1 1 [.v (.slice none 0 0)] [(0,21)]),o 23 (.append 1 24 19 22),fa 24 0 3,⟨none,.store 1 24 23,none⟩] [1,2,3,12,13,14] [18,20,19,21,22,23]))<|.region [ad 25 14 1,m 14 25] [1,2,3,12,13,14] [])))<|.seq (s [fa 26 1 1,lf 27 1 26,ln 28 27,mi 29 0]
 [2,3,27,28,29]<|.block 2 (.loop (s [ls 30 29 28] [2,3,27,28,29,30]<|.seq (.cond 30 .skip (.exit 2))<|.seq (.block 3 (s [ix 31 1 27 29,lf 32 1 31,m 7 32] [2,3,7,27,28,29]<|.region [o 33 (.fieldV 1 3),o 34 (.loadV false 1 33),o 35 (.bslice 2 0 [.v (.string ⟨#[]⟩),.v (.int .i64 (0))] []),m 36 7,o 37
 (.appendC 2 24 35 36),o 38 (.bslice 1 1 [.v (.slice none 0 0)] [(0,37)]),o 39 (.append 1 24 34 38),fa 40 1 3,⟨none,.store 1 40 39,none⟩] [2,3,27,28,29] [33,35,34,36,37,1000033,1000034,38,39]))<|.region [ad 41 29 1,m 29 41] [2,3,27,28,29] [])))<|s [lt 42 2 3,⟨none,.store 2 2 42,none⟩] [2]<|.ret
theorem Cd.i_newOffice_k:CK 125 Tryz.f125 Cd.mX 43 [.cell 2 37]:=ck Tryz.func125
def Cd.rW:aF:=s [bx 4 1,bx 5 2,mn 6,mi 7 0] [0,4,5]<|.seq (s [lt 16 2 5,o 17 (.bslice 2 1 [.v (.int .i64 (0)),.v (.int .i64 (0))] [(0,16)]),m 18 0,c 19 F.uZ [17,18],m 15 19,ex 20 15 0,ex 21 15 1,m 8 20,m 9 21] [0,4,5,9]<|s [m 22 9,nt 23 22,m 24 23,mg 25 0 24 false,⟨some 26,.load true 2 4,some
 (24,false)⟩,⟨some 27,.call (.func F.kL) [25,26] [],some (24,false)⟩,⟨some 28,.un .not 27,some (24,false)⟩,pt 29 24 28] [0,4,5,29]<|.cond 29 (s [mn 6,mi 7 8] [6,7]<|.ret) .skip)<|.seq (.naming 10 (.region [o 30 (.bslice 2 0 [.v (.string ⟨#[]⟩),.v (.int .i64 (0))] []),m 10 30] [0,4,5,10]
 []))<|.seq (s [m 31 0,lt 32 2 4,c 33 F.xY [31,32],ln 34 33,mi 35 0] [4,5,10,33,34,35]<|.block 0 (.loop (s [ls 36 35 34] [4,5,10,33,34,35,36]<|.seq (.cond 36 .skip (.exit 0))<|.seq (.block 1 (s [ix 37 1 33 35,lf 38 1 37,m 12 38] [4,5,10,12,33,34,35]<|s [lt 40 2 5,o 41 (.bslice 2 1 [.v (.int
 .i64 (0)),.v (.int .i64 (0))] [(0,40)]),m 42 12,c 43 F.uZ [41,42],m 39 43,ex 44 39 0,ex 45 39 1,m 13 44,m 14 45] [4,5,10,12,13,33,34,35]<|.naming 10 (.region [m 46 10,m 47 12,o 48 (.idxSl 1 47 (k 0)),lt 49 1 48,lt 50 2 4,c 51 F.pX [49,50],m 52 13,o 53 (.idxSl 1 52 (k 0)),lf 54 1
 53,o 55 (.build [.v (.string ⟨#[]⟩),.v (.int .i64 (0))] [(0,1,51),(1,1,54)]),o 56 (.bslice 2 1 [.v (.string ⟨#[]⟩),.v (.int .i64 (0))] [(0,55)]),o 57 (.append 2 24 46 56),m 10 57] [4,5,10,33,34,35] [46,47,48,49,50,51,52,53,54,55,56,57])))<|.region [ad 58 35 1,m 35 58] [4,5,10,33,34,35] [])))<|s [m 59
 10,m 6 59,mi 7 0] [6,7]<|.ret
theorem Cd.i_totalsOf_k:CK 126 Tryz.f126 Cd.rW 60 [.tmp 6,.tmp 7]:=ck Tryz.func126
def Cd.x8:aF:=s [bx 2 0,bx 3 1,mn 4,mi 5 0] [2,3]<|r [fa 10 0 2,lf 11 1 10,fa 12 1 3,lf 13 1 12,ix 14 1 11 13,lf 15 1 14,fa 16 0 2,lf 17 1 16,fa 18 2 3,lf 19 1 18,ix 20 1 17 19,lf 21 1 20,m 6 15,m 7 21] [3,6,7] [10,12,11,13,14,15,16,17,18,19,20,21,6]<|.seq (s [fa 22 0 3,lf 23 1 22] [3,6,7,23]<|.block 0 (s [en 25
 23 1,m 24 25] [3,6,7,23,24]<|.cond 24 (s [m 26 6,fa 27 4 3,lt 28 2 27,c 29 F.sI [26,28],ex 30 29 0,ex 31 29 1,m 4 30,m 5 31] [4,5]<|.ret) (s [en 33 23 2,m 32 33] [3,6,7,23,32]<|.cond 32 (s [m 34 6,m 35 7,fa 36 4 3,lt 37 2 36,c 38 F.nU [34,35,37],ex 39 38 0,ex 40 38 1,m 4 39,m
 5 40] [4,5]<|.ret) (s [en 42 23 5,m 41 42] [3,6,7,23,41]<|.cond 41 (s [m 43 6,fa 44 4 3,lt 45 2 44,fa 46 8 3,lf 47 1 46,c 48 F.lX [43,45,47],ex 49 48 0,ex 50 48 1,m 4 49,m 5 50] [4,5]<|.ret) (s [en 52 23 6,m 51 52] [3,6,7,51]<|.cond 51 (s [m 53 6,fa 54 4 3,lt 55 2 54,c 56
 F.jJ [53,55],ex 57 56 0,ex 58 56 1,m 4 57,m 5 58] [4,5]<|.ret) .skip)))))<|s [m 60 6,m 61 7,fa 62 4 3,lt 63 2 62,c 64 F.kZ [60,61,63],m 59 64,ex 65 59 0,ex 66 59 1,m 8 65,m 9 66] [3,8,9]<|.seq (.block 1 (s [m 68 9,ne 69 68 0,m 67 69] [3,8,9,67]<|.cond 67 (s [m 70 9,mn 4,m
 5 70] [4,5]<|.ret) (s [fa 72 0 3,lf 73 1 72,en 74 73 3,m 71 74] [8,71]<|.cond 71 (s [m 75 8,o 76 (.idxSl 1 75 (k 0)),lf 77 1 76,m 4 77,mi 5 0] [4,5]<|.ret) .skip)))<|s [m 78 8,o 79 (.idxSl 1 78 (k 2)),lf 80 1 79,m 4 80,mi 5 0] [4,5]<|.ret
theorem Cd.i_deckOf_k:CK 127 Tryz.f127 Cd.x8 81 [.tmp 4,.tmp 5]:=ck Tryz.func127
def Cd.oK:aF:=s [o 2 (.alloc [.v (.slice none 0 0),.v (.slice none 0 0)])] [0,2]<|s [m 7 0,o 8 (.call (.func F.kU) [7,(k 6)] [0]),c 9 F.uJ [8],o 3 (.alloc [.v (.slice none 0 0),.v (.slice none 0 0)]),⟨none,.store 2 3 9,none⟩] [0,2,3]<|s [m 10 0,o 11 (.call (.func F.bK) [10] [0]),m
 4 11] [2,3,4]<|s [m 13 4,m 14 4,ln 15 14,c 16 F.xI [(k 4),15],o 17 (.slc 9 13 none (some 16)),c 18 F.rE [3,17],m 12 18,ex 19 12 0,ex 20 12 1,o 5 (.alloc [.v (.slice none 0 0),.v (.slice none 0 0)]),⟨none,.store 2 5 19,none⟩,m 6 20] [2,5]<|s [lt 21 2 5,⟨none,.store 2 2 21,none⟩]
 [2]<|.ret
theorem Cd.s_l15Draw_k:CK 131 Tryz.f131 Cd.oK 22 [.cell 2 37]:=ck Tryz.func131
def Cd.dL:aF:=s [mn 2] [0]<|s [m 6 0,o 7 (.call (.func F.aD) [6,(k 4)] [0]),o 8 (.bin .add (k 1) 7),m 3 8] [0,3]<|s [m 9 0,m 10 3,o 11 (.call (.func F.dK) [9,10,(k 7)] [0]),m 4 11] [0,3,4]<|.seq (s [m 12 0,o 13 (.call (.func F.aD) [12,(k 16)] [0])] [0,3,4,13]<|.block
 0 (s [en 15 13 0,m 14 15] [0,3,4,13,14]<|.cond 14 (.region [m 16 4,m 17 0,m 18 3,ad 19 18 1,o 20 (.call (.func F.gM) [17,19] [0]),o 21 (.bslice 1 1 [.v (.slice none 0 0)] [(0,20)]),o 22 (.append 1 24 16 21),m 4 22] [4] []) (s [en 24 13 1,m 23 24] [0,4,13,23]<|.cond 23 (s [m 25 4,ln 26 25,o
 27 (.bin .gtr 26 (k 0))] [0,4,27]<|.cond 27 (.region [m 28 0,m 29 4,m 30 0,m 31 4,ln 32 31,o 33 (.call (.func F.aD) [30,32] [0]),ix 34 1 29 33,o 35 (.call (.func F.rJ) [28,34] [0,1])] [4] []) .skip) (s [en 37 13 2,m 36 37] [0,4,36]<|.cond 36 (s [o 38 (.bslice 1 0 [.v
 (.slice none 0 0)] []),m 4 38] [0,4]<|s [m 39 0,o 40 (.call (.func F.aD) [39,(k 2)] [0]),o 41 (.bin .add (k 40) 40),m 5 41] [0,4,5]<|.block 1 (.loop (.seq (s [m 42 5,o 43 (.bin .gtr 42 (k 0))] [0,4,5,43]<|.cond 43 .skip (.exit 1))<|.seq (.block 2 (.region [m 46 4,m 47 0,o 48 (.call
 (.func F.gM) [47,(k 1)] [0]),o 49 (.bslice 1 1 [.v (.slice none 0 0)] [(0,48)]),o 50 (.append 1 24 46 49),m 4 50] [0,4,5] []))<|.region [m 44 5,o 45 (.bin .sub 44 (k 1)),m 5 45] [0,4,5] []))) .skip))))<|s [m 51 4,m 2 51] [2]<|.ret
theorem Cd.s_l02BentDeck_k:CK 132 Tryz.f132 Cd.dL 52 [.tmp 2]:=ck Tryz.func132
def Cd.iI:aF:=s [o 2 (.alloc [.v (.int .i64 (0)),.v (.int .i64 (0)),.v (.int .i64 (0)),.v (.int .i64 (0)),.v (.int .i64 (0)),.v (.int .i64 (0)),.v (.int .i64 (0)),.v (.int .i64 (0)),.v (.string ⟨#[]⟩)])] [0,2]<|s [m 4 0,o 5 (.call (.func F.aD) [4,(k 7)] [0]),o 6 (.bin .add (k 1) 5),o 7 (.build [.v
 (.int .i64 (0)),.v (.int .i64 (0))] [(1,1,(k 1))]),o 8 (.build [.v (.int .i64 (0)),.v (.int .i64 (0)),.v (.int .i64 (0)),.v (.int .i64 (0)),.v (.int .i64 (0)),.v (.int .i64 (0)),.v (.int .i64 (0)),.v (.int .i64 (0)),.v (.string ⟨#[]⟩)] [(0,1,6),(4,2,7)]),o 3 (.alloc [.v (.int .i64 (0)),.v (.int .i64
 (0)),.v (.int .i64 (0)),.v (.int .i64 (0)),.v (.int .i64 (0)),.v (.int .i64 (0)),.v (.int .i64 (0)),.v (.int .i64 (0)),.v (.string ⟨#[]⟩)]),⟨none,.store 9 3 8,none⟩] [0,2,3]<|s [m 9 0,o 10 (.call (.func F.aD) [9,(k 3)] [0]),fa 11 1 3,⟨none,.store 1 11 10,none⟩] [0,2,3]<|.seq (s [m 12
 0,o 13 (.call (.func F.aV) [12,(k 4)] [0])] [0,2,3,13]<|.cond 13 (.region [o 14 (.build [.v (.int .i64 (0)),.v (.int .i64 (0))] [(0,1,(k 1)),(1,1,(k 3))]),fa 15 4 3,⟨none,.store 2 15 14,none⟩] [0,2,3] []) .skip)<|.seq (s [fa 16 0 3,lf 17 1 16] [0,2,3,17]<|.block 0 (s [en 19 17 7,m 18
 19] [0,2,3,17,18]<|.cond 18 (s [m 20 0,o 21 (.call (.func F.aD) [20,(k 2)] [0]),o 22 (.bin .mul (k 2) 21),o 23 (.bin .add (k 1) 22),o 24 (.build [.v (.int .i64 (0)),.v (.int .i64 (0))] [(0,1,23)]),fa 25 6 3,⟨none,.store 2 25 24,none⟩] [2,3]<|s [fa 26 6 3,fa 27 0 26,lf 28 1 27,ad 29
 28 2,fa 30 6 3,fa 31 1 30,⟨none,.store 1 31 29,none⟩] [2,3]<|s [lt 32 9 3,⟨none,.store 9 2 32,none⟩] [2]<|.ret) (s [en 34 17 5,m 33 34] [0,2,3,17,33]<|.cond 33 (s [m 35 0,fa 36 4 3,fa 37 1 36,lf 38 1 37,fa 39 4 3,fa 40 0 39,lf 41 1 40,o 42 (.bin .sub 38 41),o 43 (.call (.func F.jO)
 [35,42] [0]),fa 44 8 3,⟨none,.store 1 44 43,none⟩] [0,2,3]<|s [fa 45 4 3,fa 46 1 45,lf 47 1 46,en 48 47 1] [0,2,3,48]<|.cond 48 (.region [m 49 0,o 50 (.bslice 1 3 [.v (.string ⟨#[]⟩)] [(0,(.const (.string ⟨#[65]⟩))),(1,(.const (.string ⟨#[66]⟩))),(2,(.const (.string ⟨#[49]⟩)))]),o 51 (.call (.func
 F.fM) [49,50] [0]),fa 52 8 3,⟨none,.store 1 52 51,none⟩] [0,2,3] []) .skip) (.seq (s [en 54 17 2,m 53 54] [0,2,3,17,53]<|.cond 53 .skip (s [en 55 17 3,m 53 55] [0,2,3,17,53]<|.cond 53 .skip (.region [en 56 17 4,m 53 56] [0,2,3,53] [])))<|.cond 53 (.region [m 57 0,o 58 (.call (.func
 F.aD) [57,(k 3)] [0]),fa 59 2 3,⟨none,.store 1 59 58,none⟩] [0,2,3] []) .skip))))<|s [m 60 0,o 61 (.call (.func F.aD) [60,(k 3)] [0]),fa 62 3 3,⟨none,.store 1 62 61,none⟩] [2,3]<|s [lt 63 9 3,⟨none,.store 9 2 63,none⟩] [2]<|.ret
theorem Cd.s_l15DrawStep_k:CK 133 Tryz.f133 Cd.iI 64 [.cell 2 76]:=ck Tryz.func133
def Cd.oO:aF:=s [o 2 (.alloc [.v (.slice none 0 0)])] [0,2]<|s [o 5 (.build [.v (.slice none 0 0)] []),o 3 (.alloc [.v (.slice none 0 0)]),⟨none,.store 1 3 5,none⟩] [0,2,3]<|.seq (s [mi 4 0] [0,2,3,4]<|.block 0 (.loop (.seq (s [m 6 4,m 7 0,o 8 (.lenS 7),ls 9 6 8] [0,2,3,4,9]<|.cond 9 .skip (.exit 0))<|.seq (.block
 1 (.region [fa 12 0 3,lf 13 1 12,m 14 0,m 15 4,o 16 (.idxStr 14 15),c 17 F.oN [16],o 18 (.bslice 1 1 [.v (.int .i64 (0))] [(0,17)]),o 19 (.append 1 8 13 18),fa 20 0 3,⟨none,.store 1 20 19,none⟩] [0,2,3,4] [12,14,13,15,16,17,18,19]))<|.region [m 10 4,ad 11 10 1,m 4 11] [0,2,3,4] [])))<|s [lt
 21 1 3,⟨none,.store 1 2 21,none⟩] [2]<|.ret
theorem Cd.s_l03Card_k:CK 135 Tryz.f135 Cd.oO 22 [.cell 2 143]:=ck Tryz.func135
def Cd.uM:aF:=s [mn 4,mf 5] [0,1]<|s [m 9 1,o 10 (.mk 1 8 [.v (.int .i64 (0))] 9),m 6 10] [0,1,6]<|s [m 11 0,m 7 11] [0,1,6,7]<|.seq (s [m 12 0,o 13 (.bin .lss 12 (k 0))] [0,1,6,7,13]<|.cond 13 (.region [m 14 0,o 15 (.un .neg 14),m 7 15] [0,1,6,7] []) .skip)<|.seq (s [m 16 1,o 17 (.bin .sub 16 (k 1)),m 8 17]
 [0,1,6,7,8]<|.block 0 (.loop (.seq (s [m 18 8,o 19 (.bin .geq 18 (k 0))] [0,1,6,7,8,19]<|.cond 19 .skip (.exit 0))<|.seq (.block 1 (s [m 22 6,m 23 8,m 24 7,o 25 (.bin .rem 24 (k 10)),c 26 F.jF [25],ix 27 1 22 23,⟨none,.store 1 27 26,none⟩] [0,1,6,7,8]<|.region [m 28 7,o 29 (.bin .quo 28 (k
 10)),m 7 29] [0,1,6,7,8] []))<|.region [m 20 8,o 21 (.bin .sub 20 (k 1)),m 8 21] [0,1,6,7,8] [])))<|.seq (s [m 30 0,o 31 (.bin .lss 30 (k 0))] [1,6,7,31]<|.cond 31 (.region [m 32 6,m 33 1,o 34 (.bin .sub 33 (k 1)),ix 35 1 32 34,lf 36 1 35,o 37 (.bin .or 36 (k 2)),ix 38 1 32 34,⟨none,.store 1 38
 37,none⟩] [6,7] []) .skip)<|s [m 39 6,m 40 7,en 41 40 0,m 4 39,m 5 41] [4,5]<|.ret
theorem Cd.s_l03Put_k:CK 136 Tryz.f136 Cd.uM 42 [.tmp 4,.tmp 5]:=ck Tryz.func136
def Cd.xH:aF:=s [bx 3 1,o 4 (.mv (.const (.string ⟨#[]⟩))),mf 5] [0,3]<|s [m 6 0,lt 7 2 3,c 8 F.mM [6,7],c 9 F.uL [8],ex 10 9 0,ex 11 9 1,m 4 10,m 5 11] [4,5]<|.ret
theorem Cd.s_l03Key_k:CK 137 Tryz.f137 Cd.xH 12 [.tmp 4,.tmp 5]:=ck Tryz.func137
def Cd.fZ:aF:=s [mi 4 0] [0,1]<|.seq (s [mi 5 0] [0,1,5]<|.block 0 (.loop (.seq (s [m 8 5,m 9 0,o 10 (.lenS 9),ls 11 8 10] [0,1,5,11]<|.cond 11 .skip (.exit 0))<|.seq (.block 1 (s [m 14 0,m 15 5,o 16 (.idxStr 14 15),c 17 F.qW [16],m 6 17] [0,1,5,6]<|s [m 18 1,m 19 5,o 20 (.idxStr 18 19),c 21
 F.qW [20],m 7 21] [0,1,5,6,7]<|.block 2 (s [m 23 6,m 24 7,ls 25 23 24,m 22 25] [0,1,5,6,7,22]<|.cond 22 (s [mi 4 (-1)] [4]<|.ret) (s [m 27 6,m 28 7,o 29 (.bin .gtr 27 28),m 26 29] [0,1,5,26]<|.cond 26 (s [mi 4 1] [4]<|.ret) .skip))))<|.region [m 12 5,ad 13 12 1,m 5 13] [0,1,5] [])))<|s [mi
 4 0] [4]<|.ret
theorem Cd.s_l03Compare_k:CK 138 Tryz.f138 Cd.fZ 30 [.tmp 4]:=ck Tryz.func138
def Cd.pI:aF:=s [mn 2] [0]<|s [o 3 (.bslice 1 0 [.v (.int .i64 (0))] []),m 4 0,o 5 (.append 1 8 3 4),m 2 5] [2]<|.ret
theorem Cd.s_l00Own_k:CK 139 Tryz.f139 Cd.pI 6 [.tmp 2]:=ck Tryz.func139
def Cd.kK:aF:=s [mf 6] [0,1,2]<|s [m 7 0,m 8 1,o 9 (.bin .geq 7 8),m 10 9,mg 11 0 10 true,mg 12 2 10 true,⟨some 13,.bin .leq 11 12,some (10,true)⟩,pf 14 10 13,m 6 14] [6]<|.ret
theorem Cd.i_inside_k:CK 140 Tryz.f140 Cd.kK 15 [.tmp 6]:=ck Tryz.func140
def Cd.lF:aF:=s [mf 4] [0,1]<|s [m 5 0,m 6 1,c 7 F.jR [5,6],o 8 (.bin .geq 7 (k 0)),m 4 8] [4]<|.ret
theorem Cd.ctf_int64_k:CK 141 Tryz.f141 Cd.lF 9 [.tmp 4]:=ck Tryz.func141
def Cd.eQ:aF:=s [mf 2] [0]<|s [m 3 0,c 4 F.kK [3,(k 0),(k 4095)],nt 5 4,m 2 5] [2]<|.ret
theorem Cd.i_ValidCard_1_k:CK 142 Tryz.f142 Cd.eQ 6 [.tmp 2]:=ck Tryz.func142
def Cd.lU:aF:=s [mi 2 0] [0]<|s [m 3 0,ln 4 3,m 2 4] [2]<|.ret
theorem Cd.i_size_int64__k:CK 143 Tryz.f143 Cd.lU 5 [.tmp 2]:=ck Tryz.func143
def Cd.kM:aF:=s [mn 2] [0]<|s [o 3 (.bslice 1 0 [.v (.int .i64 (0))] []),m 4 0,o 5 (.append 1 8 3 4),m 2 5] [2]<|.ret
theorem Cd.i_copyInts_k:CK 144 Tryz.f144 Cd.kM 6 [.tmp 2]:=ck Tryz.func144
def Cd.gD:aF:=s [mf 2] [0]<|s [m 3 0,ne 4 3 0,m 2 4] [2]<|.ret
theorem Cd.i_numberIn_1_k:CK 145 Tryz.f145 Cd.gD 5 [.tmp 2]:=ck Tryz.func145
def Cd.fA:aF:=s [mi 2 0] [0]<|.seq (.block 0 (s [m 4 0,en 5 4 12,m 3 5] [0,3]<|.cond 3 (s [mi 2 1] [2]<|.ret) (s [m 7 0,en 8 7 11,m 6 8] [0,6]<|.cond 6 (s [mi 2 2] [2]<|.ret) (s [m 10 0,c 11 F.kK [10,(k 0),(k 9)],m 9 11] [0,9]<|.cond 9 (s [m 12 0,o 13 (.bin .shl (k 4) 12),m 2 13] [2]<|.ret) .skip))))<|s
 [mi 2 0] [2]<|.ret
theorem Cd.i_bitOf_k:CK 146 Tryz.f146 Cd.fA 14 [.tmp 2]:=ck Tryz.func146
def Cd.vB:aF:=s [mi 2 0] [0]<|.seq (s [mi 4 0] [0,4]<|.block 0 (.loop (s [o 5 (.bin .lss 4 (k 10))] [0,4,5]<|.seq (.cond 5 .skip (.exit 0))<|.seq (.block 1 (s [m 6 4,m 3 6] [0,3,4]<|s [m 7 3,c 8 F.fA [7],m 9 0,o 10 (.bin .eql 8 9)] [0,3,4,10]<|.cond 10 (s [m 11 3,m 2 11] [2]<|.ret) .skip))<|.region [ad 12
 4 1,m 4 12] [0,4] [])))<|s [mi 2 (-1)] [2]<|.ret
theorem Cd.i_digitOf_k:CK 147 Tryz.f147 Cd.vB 13 [.tmp 2]:=ck Tryz.func147
def Cd.pY:aF:=s [mn 2] [0]<|s [m 3 0,c 4 F.zO [3],c 5 F.sG [4],m 6 0,c 7 F.zO [6],c 8 F.nR [5,7],o 9 (.field false 0 1 8),m 2 9] [2]<|.ret
theorem Cd.i_digitList_k:CK 148 Tryz.f148 Cd.pY 10 [.tmp 2]:=ck Tryz.func148
def Cd.gY:aF:=s [mf 2] [0]<|.seq (s [mi 3 0] [0,3]<|.block 0 (.loop (.seq (s [m 4 3,m 5 0,o 6 (.lenS 5),ls 7 4 6] [0,3,7]<|.cond 7 .skip (.exit 0))<|.seq (.block 1 (s [m 10 0,m 11 3,o 12 (.idxStr 10 11),c 13 F.lV [12],nt 14 13] [0,3,14]<|.cond 14 (s [mf 2] [2]<|.ret) .skip))<|.region [m 8 3,ad 9 8
 1,m 3 9] [0,3] [])))<|s [mt 2] [2]<|.ret
theorem Cd.i_areCharacters_k:CK 149 Tryz.f149 Cd.gY 15 [.tmp 2]:=ck Tryz.func149
def Cd.kL:aF:=s [bx 3 1,mf 4] [0,3]<|s [m 5 0,o 6 (.mkfn F.eH [3]),c 7 F.sN [5,6],nt 8 7,m 4 8] [4]<|.ret
theorem Cd.i_haveField_k:CK 150 Tryz.f150 Cd.kL 9 [.tmp 4]:=ck Tryz.func150
def Cd.aA4:aF:=s [bx 3 1,mn 4] [0,3]<|.seq (.naming 5 (.region [o 7 (.bslice 1 0 [.v (.int .i64 (0))] []),m 5 7] [0,3,5] []))<|.seq (s [mi 6 1] [0,3,5,6]<|.block 0 (.loop (.seq (s [m 8 6,m 9 0,ln 10 9,ls 11 8 10] [0,3,5,6,11]<|.cond 11 .skip (.exit 0))<|.seq (.block 1 (r [m 14 0,m 15 6,ix 16 1 14 15,lt 17 1 16,m 18
 0,m 19 6,o 20 (.bin .sub 19 (k 1)),ix 21 1 18 20,lt 22 1 21,lt 23 2 3,c 24 F.dR [17,22,23],o 25 (.bin .lss 24 (k 0))] [0,3,5,6,25] [14,15,17,18,16,19,20,21,22,23,24,25]<|.cond 25 (.naming 5 (.region [m 26 5,m 27 6,o 28 (.bslice 1 1 [.v (.int .i64 (0))] [(0,27)]),o 29 (.append 1 8 26
 28),m 5 29] [0,3,5,6] [])) .skip))<|.region [m 12 6,ad 13 12 1,m 6 13] [0,3,5,6] [])))<|s [m 30 5,m 4 30] [4]<|.ret
theorem Cd.i_steps_k:CK 151 Tryz.f151 Cd.aA4 31 [.tmp 4]:=ck Tryz.func151
def Cd.lT:aF:=s [mi 4 0] [0,1]<|.seq (s [m 6 0,ln 7 6,mi 8 0] [0,1,7,8]<|.block 0 (.loop (s [ls 9 8 7] [0,1,7,8,9]<|.seq (.cond 9 .skip (.exit 0))<|.seq (.block 1 (s [m 10 8,m 5 10] [0,1,5,7,8]<|s [m 11 1,m 12 0,m 13 5,ix 14 1 12 13,lt 15 1 14,o 16 (.call 11 [15] [])] [0,1,5,7,8,16]<|.cond 16 (s [m 17 5,m 4 17]
 [4]<|.ret) .skip))<|.region [ad 18 8 1,m 8 18] [0,1,7,8] [])))<|s [mi 4 (-1)] [4]<|.ret
theorem Cd.ixf_Card_k:CK 152 Tryz.f152 Cd.lT 19 [.tmp 4]:=ck Tryz.func152
def Cd.oZ:aF:=s [bx 1 0,o 2 (.alloc [.v (.slice none 0 0)])] [1,2]<|s [fa 3 0 1,lf 4 1 3,c 5 F.kM [4],o 6 (.build [.v (.slice none 0 0)] [(0,1,5)]),⟨none,.store 1 2 6,none⟩] [2]<|.ret
theorem Cd.i_newCard_k:CK 153 Tryz.f153 Cd.oZ 7 [.cell 2 143]:=ck Tryz.func153
def Cd.sN:aF:=s [mf 4] [0,1]<|s [m 5 0,m 6 1,c 7 F.lT [5,6],o 8 (.bin .geq 7 (k 0)),m 4 8] [4]<|.ret
theorem Cd.ctf_Card_k:CK 154 Tryz.f154 Cd.sN 9 [.tmp 4]:=ck Tryz.func154
def Cd.gF:aF:=s [bx 3 0,mf 4] [1,2,3]<|s [lt 5 1 3,lt 6 1 1,lt 7 2 2,c 8 F.dR [5,6,7],en 9 8 0,m 4 9] [4]<|.ret
theorem Cd.i_hasEqual_1_k:CK 155 Tryz.f155 Cd.gF 10 [.tmp 4]:=ck Tryz.func155
def Cd.dR:aF:=s [bx 3 0,bx 4 1,bx 5 2,mi 6 0] [3,4,5]<|r [fa 7 0 3,lf 8 1 7,fa 9 0 5,lf 10 1 9,fa 11 1 5,lf 12 1 11,o 13 (.slc 1 8 (some 10) (some 12)),fa 14 0 4,lf 15 1 14,fa 16 0 5,lf 17 1 16,fa 18 1 5,lf 19 1 18,o 20 (.slc 1 15 (some 17) (some 19)),c 21 F.iQ [13,20],m 6 21] [6]
 [7,9,8,10,11,12,13,14,15,16,17,18,19,20,21]<|.ret
theorem Cd.i_compareFields_k:CK 156 Tryz.f156 Cd.dR 22 [.tmp 6]:=ck Tryz.func156
def Cd.rH:aF:=s [mi 2 0] [0]<|.seq (s [mi 3 0] [0,3]<|.block 0 (.loop (.seq (s [m 4 3,o 5 (.bin .leq 4 (k 9))] [0,3,5]<|.cond 5 .skip (.exit 0))<|.seq (.block 1 (s [m 8 0,m 9 3,c 10 F.jF [9],o 11 (.bin .eql 8 10)] [0,3,11]<|.cond 11 (s [m 12 3,m 2 12] [2]<|.ret) .skip))<|.region [m 6 3,ad 7 6 1,m 3 7]
 [0,3] [])))<|s [mi 2 (-1)] [2]<|.ret
theorem Cd.s_l03Digit_k:CK 157 Tryz.f157 Cd.rH 13 [.tmp 2]:=ck Tryz.func157
def Cd.xE:aF:=s [mf 4] [0,1]<|.seq (s [mi 5 0] [0,1,5]<|.block 0 (.loop (.seq (s [m 6 5,m 7 0,ln 8 7,ls 9 6 8] [0,1,5,9]<|.cond 9 .skip (.exit 0))<|.seq (.block 1 (s [m 12 0,m 13 5,ix 14 1 12 13,lf 15 1 14,m 16 1,o 17 (.binS .eql 15 16)] [0,1,5,17]<|.cond 17 (s [mt 4] [4]<|.ret) .skip))<|.region [m 10 5,ad 11 10
 1,m 5 11] [0,1,5] [])))<|s [mf 4] [4]<|.ret
theorem Cd.s_l09Has_k:CK 158 Tryz.f158 Cd.xE 18 [.tmp 4]:=ck Tryz.func158
def Cd.oN:aF:=s [mi 2 0] [0]<|s [m 4 0,o 5 (.conv .i64 4),m 3 5] [0,3]<|.seq (.block 0 (s [m 7 0,o 8 (.bin .eql 7 (.const (.int .u8 (32)))),m 6 8] [0,3,6]<|.cond 6 (s [mi 2 0] [2]<|.ret) (s [m 10 0,o 11 (.bin .eql 10 (.const (.int .u8 (38)))),m 9 11] [0,3,9]<|.cond 9 (s [mi 2 1] [2]<|.ret) (s [m 13 0,o 14 (.bin
 .eql 13 (.const (.int .u8 (45)))),m 12 14] [0,3,12]<|.cond 12 (s [mi 2 2] [2]<|.ret) (s [m 16 0,o 17 (.bin .eql 16 (.const (.int .u8 (47)))),m 15 17] [0,3,15]<|.cond 15 (s [c 18 F.jF [(k 1)],o 19 (.bin .or (k 4) 18),m 2 19] [2]<|.ret) (s [m 21 0,c 22 F.rM [21],m 20 22]
 [0,3,20]<|.cond 20 (s [m 23 3,o 24 (.bin .sub 23 (k 48)),c 25 F.jF [24],m 2 25] [2]<|.ret) (s [m 27 0,o 28 (.bin .geq 27 (.const (.int .u8 (65)))),m 29 28,mg 30 0 29 true,⟨some 31,.bin .leq 30 (.const (.int .u8 (73))),some (29,true)⟩,pf 32 29 31,m 26 32] [0,3,26]<|.cond 26 (s [m 33 3,o 34
 (.bin .sub 33 (k 65)),ad 35 34 1,c 36 F.jF [35],o 37 (.bin .or (k 1) 36),m 2 37] [2]<|.ret) (s [m 39 0,o 40 (.bin .geq 39 (.const (.int .u8 (74)))),m 41 40,mg 42 0 41 true,⟨some 43,.bin .leq 42 (.const (.int .u8 (82))),some (41,true)⟩,pf 44 41 43,m 38 44] [0,3,38]<|.cond 38 (s [m 45 3,o 46
 (.bin .sub 45 (k 74)),ad 47 46 1,c 48 F.jF [47],o 49 (.bin .or (k 2) 48),m 2 49] [2]<|.ret) (s [m 51 0,o 52 (.bin .geq 51 (.const (.int .u8 (83)))),m 53 52,mg 54 0 53 true,⟨some 55,.bin .leq 54 (.const (.int .u8 (90))),some (53,true)⟩,pf 56 53 55,m 50 56] [3,50]<|.cond 50 (s [m 57 3,o 58
 (.bin .sub 57 (k 83)),ad 59 58 2,c 60 F.jF [59],o 61 (.bin .or (k 4) 60),m 2 61] [2]<|.ret) .skip)))))))))<|s [mi 2 (-1)] [2]<|.ret
theorem Cd.s_l03Code_k:CK 160 Tryz.f160 Cd.oN 62 [.tmp 2]:=ck Tryz.func160
def Cd.l5:aF:=s [mn 8] [0,1,2,3]<|s [m 12 3,o 13 (.mk 1 8 [.v (.int .i64 (0))] 12),m 9 13] [0,1,2,3,9]<|.seq (s [m 14 1,m 10 14] [0,2,3,9,10]<|.block 0 (.loop (.seq (s [m 15 10,m 16 2,ls 17 15 16] [0,2,3,9,10,17]<|.cond 17 .skip (.exit 0))<|.seq (.block 1 (s [mi 11 0] [0,2,3,9,10,11]<|.block 2 (.loop (.seq (s [m
 20 11,m 21 3,ls 22 20 21] [0,2,3,9,10,11,22]<|.cond 22 .skip (.exit 2))<|.seq (.block 3 (.region [m 25 9,m 26 11,ix 27 1 25 26,lf 28 1 27,m 29 0,nc 30 29,fa 31 1 30,lf 32 1 31,m 33 10,ix 34 1 32 33,lf 35 1 34,m 36 11,ix 37 1 35 36,lf 38 1 37,o 39 (.bin .add 28 38),ix 40 1 25 26,⟨none,.store 1 40
 39,none⟩] [0,2,3,9,10,11] [25,26,28,29,27,30,31,32,33,34,35,36,37,38,39]))<|.region [m 23 11,ad 24 23 1,m 11 24] [0,2,3,9,10,11] []))))<|.region [m 18 10,ad 19 18 1,m 10 19] [0,2,3,9,10] [])))<|s [m 41 9,m 8 41] [8]<|.ret
theorem Cd._s_l13R__sums_k:CK 162 Tryz.f162 Cd.l5 42 [.tmp 8]:=ck Tryz.func162
def Cd.nX:aF:=s [mi 4 0] [0,1]<|.seq (s [m 5 1,ad 6 5 1,m 7 0,nc 8 7,fa 9 2 8,lf 10 1 9,ln 11 10,ls 12 6 11] [0,1,12]<|.cond 12 (s [m 13 0,nc 14 13,fa 15 2 14,lf 16 1 15,m 17 1,ad 18 17 1,ix 19 1 16 18,lf 20 1 19,m 4 20] [4]<|.ret) .skip)<|s [m 21 0,nc 22 21,fa 23 0 22,lf 24 1 23,ln 25 24,m 4 25] [4]<|.ret
theorem Cd._s_l13R__end_k:CK 163 Tryz.f163 Cd.nX 26 [.tmp 4]:=ck Tryz.func163
def Cd.nH:aF:=s [bx 5 2,mn 6,mi 7 0] [0,1,5]<|s [m 12 0,m 13 1,lt 14 2 5,c 15 F.rF [12,13,14],m 11 15,ex 16 11 0,ex 17 11 1,ex 18 11 2,m 8 16,m 9 17,m 10 18] [0,1,8,9,10]<|.seq (s [m 19 10,ne 20 19 0] [0,1,8,9,10,20]<|.cond 20 (s [m 21 10,mn 6,m 7 21] [6,7]<|.ret) .skip)<|.seq (r [m 22 0,ln 23 22,o 24
 (.bin .gtr 23 (k 0)),m 25 24,mg 26 1 25 true,⟨some 27,.len 26,some (25,true)⟩,⟨some 28,.bin .gtr 27 (k 0),some (25,true)⟩,pf 29 25 28,m 30 29,mg 31 0 30 true,⟨some 32,.idxSl 1 31 (k 0),some (30,true)⟩,fg 33 0 32 30 true,lg 34 1 33 30 true,⟨some 35,.len 34,some (30,true)⟩,mg 36 1 30 true,⟨some
 37,.idxSl 1 36 (k 0),some (30,true)⟩,fg 38 0 37 30 true,lg 39 1 38 30 true,⟨some 40,.len 39,some (30,true)⟩,⟨some 41,.bin .neq 35 40,some (30,true)⟩,pf 42 30 41] [0,1,8,9,42] [22,24,25,23,26,27,28,29,30,31,32,33,34,35,36,37,38,39,40,41,42]<|.cond 42 (s [mn 6,mi 7 9] [6,7]<|.ret) .skip)<|.seq (s [m 43
 8,c 44 F.mK [43],o 45 (.bin .geq 44 (k 0)),m 46 45,mg 47 9 46 false,⟨some 48,.call (.func F.mK) [47] [],some (46,false)⟩,⟨some 49,.bin .geq 48 (k 0),some (46,false)⟩,pt 50 46 49] [0,1,8,9,50]<|.cond 50 (s [mn 6,mi 7 6] [6,7]<|.ret) .skip)<|.seq (s [m 51 0,ln 52 51,m 53 1,ln 54
 53,o 55 (.bin .add 52 54),o 56 (.bin .gtr 55 (k 40))] [0,1,8,9,56]<|.cond 56 (s [mn 6,mi 7 5] [6,7]<|.ret) .skip)<|s [m 57 0,m 58 1,m 59 8,m 60 9,c 61 F.rG [57,58,59,60],m 6 61,mi 7 0] [6,7]<|.ret
theorem Cd.s_MergeDecks_k:CK 164 Tryz.f164 Cd.nH 62 [.tmp 6,.tmp 7]:=ck Tryz.func164
def Cd.lN:aF:=s [bx 4 1,mn 6,mi 7 0] [0,2,4]<|s [m 13 0,lt 14 2 4,m 15 2,o 16 (.bslice 1 1 [.v (.string ⟨#[]⟩)] [(0,15)]),c 17 F.xG [13,14,16],m 12 17,ex 18 12 0,ex 19 12 1,m 8 18,m 9 19] [0,2,8,9]<|.seq (s [m 20 9,ne 21 20 0] [0,2,8,9,21]<|.cond 21 (s [m 22 9,mn 6,m 7 22] [6,7]<|.ret) .skip)<|.seq
 (.naming 10 (.region [o 23 (.bslice 1 0 [.v (.slice none 0 0)] []),m 10 23] [0,2,8,10] []))<|.seq (s [mi 11 0] [0,2,8,10,11]<|.block 0 (.loop (.seq (s [m 24 11,m 25 8,ln 26 25,ls 27 24 26] [0,2,8,10,11,27]<|.cond 27 .skip (.exit 0))<|.seq (.block 1 (s [m 30 8,m 31 11,ix 32 1 30 31,lf 33 1 32,m 34 2,o
 35 (.binS .eql 33 34)] [0,2,8,10,11,35]<|.cond 35 (.naming 10 (.region [m 36 10,m 37 0,m 38 11,ix 39 1 37 38,c 40 F.jE [39],o 41 (.bslice 1 1 [.v (.slice none 0 0)] [(0,40)]),o 42 (.append 1 24 36 41),m 10 42] [0,2,8,10,11] [])) .skip))<|.region [m 28 11,ad 29 28 1,m 11 29] [0,2,8,10,11]
 [])))<|s [m 43 10,m 6 43,mi 7 0] [6,7]<|.ret
theorem Cd.s_SelectEqual_k:CK 165 Tryz.f165 Cd.lN 44 [.tmp 6,.tmp 7]:=ck Tryz.func165
def Cd.jG:aF:=s [bx 3 1,mn 4,mi 5 0] [0,3]<|s [m 12 0,lt 13 2 3,c 14 F.jN [12,13],m 11 14,ex 15 11 0,ex 16 11 1,m 6 15,m 7 16] [0,6,7]<|.seq (s [m 17 7,ne 18 17 0] [0,6,7,18]<|.cond 18 (s [m 19 7,mn 4,m 5 19] [4,5]<|.ret) .skip)<|s [m 20 6,c 21 F.mJ [20],m 8 21] [0,8]<|.seq (.naming 9
 (.region [o 22 (.bslice 1 0 [.v (.slice none 0 0)] []),m 9 22] [0,8,9] []))<|.seq (s [mi 10 0] [0,8,9,10]<|.block 0 (.loop (.seq (s [m 23 10,m 24 8,ln 25 24,ls 26 23 25] [0,8,9,10,26]<|.cond 26 .skip (.exit 0))<|.seq (.block 1 (.naming 9 (.region [m 29 9,m 30 0,m 31 8,m 32 10,ix 33 1 31 32,lf 34 1
 33,ix 35 1 30 34,c 36 F.jE [35],o 37 (.bslice 1 1 [.v (.slice none 0 0)] [(0,36)]),o 38 (.append 1 24 29 37),m 9 38] [0,8,9,10] [])))<|.region [m 27 10,ad 28 27 1,m 10 28] [0,8,9,10] [])))<|s [m 39 9,m 4 39,mi 5 0] [4,5]<|.ret
theorem Cd.s_FirstOfGroups_k:CK 166 Tryz.f166 Cd.jG 40 [.tmp 4,.tmp 5]:=ck Tryz.func166
def Cd.rZ:aF:=s [mf 2] [0]<|s [m 3 0,c 4 F.kK [3,(k 0),(k 5)],m 2 4] [2]<|.ret
theorem Cd.i_isTray_k:CK 168 Tryz.f168 Cd.rZ 5 [.tmp 2]:=ck Tryz.func168
def Cd.rX:aF:=s [mf 2] [0]<|s [m 3 0,c 4 F.kK [3,(k 2),(k 4)],m 2 4] [2]<|.ret
theorem Cd.i_takesTwo_k:CK 169 Tryz.f169 Cd.rX 5 [.tmp 2]:=ck Tryz.func169
def Cd.uZ:aF:=s [mn 4,mf 5] [0,1]<|.seq (.naming 6 (.region [o 14 (.bslice 1 0 [.v (.int .i64 (0))] []),m 6 14] [0,1,6] []))<|.seq (s [m 15 0,ln 16 15,mi 17 0] [1,6,15,16,17]<|.block 0 (.loop (s [ls 18 17 16] [1,6,15,16,17,18]<|.seq (.cond 18 .skip (.exit 0))<|.seq (.block 1 (s [ix 19 2 15 17,lt 20 2 19,o 8
 (.alloc [.v (.int .i64 (0)),.v (.int .i64 (0))]),⟨none,.store 2 8 20,none⟩] [1,6,8,15,16,17]<|s [mi 9 0] [1,6,8,9,15,16,17]<|.seq (s [m 21 1,ln 22 21,mi 23 0] [1,6,8,9,15,16,17,21,22,23]<|.block 2 (.loop (s [ls 24 23 22] [1,6,8,9,15,16,17,21,22,23,24]<|.seq (.cond 24 .skip (.exit 2))<|.seq (.block 3
 (s [ix 25 1 21 23,lt 26 1 25,o 11 (.alloc [.v (.slice none 0 0)]),⟨none,.store 1 11 26,none⟩] [1,6,8,9,11,15,16,17,21,22,23]<|s [lt 28 1 11,lt 29 2 8,c 30 F.mH [28,29],m 27 30,ex 31 27 0,ex 32 27 1,m 12 31,m 13 32] [1,6,8,9,12,13,15,16,17,21,22,23]<|.seq (s [m 33 13,nt 34 33]
 [1,6,8,9,12,15,16,17,21,22,23,34]<|.cond 34 (s [mn 4,mf 5] [4,5]<|.ret) .skip)<|.region [m 35 9,m 36 12,o 37 (.bin .add 35 36),m 9 37] [1,6,8,9,15,16,17,21,22,23] []))<|.region [ad 38 23 1,m 23 38] [1,6,8,9,15,16,17,21,22,23] [])))<|.naming 6 (.region [m 39 6,m 40 9,o 41 (.bslice 1 1 [.v (.int .i64
 (0))] [(0,40)]),o 42 (.append 1 8 39 41),m 6 42] [1,6,15,16,17] [])))<|.region [ad 43 17 1,m 17 43] [1,6,15,16,17] [])))<|s [m 44 6,m 4 44,mt 5] [4,5]<|.ret
theorem Cd.i_sumsOf_k:CK 170 Tryz.f170 Cd.uZ 45 [.tmp 4,.tmp 5]:=ck Tryz.func170
def Cd.xY:aF:=s [bx 3 1,mn 4] [0,3]<|.seq (.naming 5 (.region [o 10 (.bslice 1 0 [.v (.slice none 0 0)] []),m 11 0,lt 12 2 3,c 13 F.o5 [11,12],m 5 10,m 6 13] [0,5,6] []))<|.seq (s [m 14 6,ln 15 14,mi 16 0] [0,5,6,14,15,16]<|.block 0 (.loop (s [ls 17 16 15] [0,5,6,14,15,16,17]<|.seq (.cond 17 .skip
 (.exit 0))<|.seq (.block 1 (s [m 18 16,ix 19 1 14 16,lf 20 1 19,m 7 18,m 8 20] [0,5,6,7,8,14,15,16]<|s [m 21 0,c 22 F.iP [21],m 9 22] [0,5,6,7,8,9,14,15,16]<|.seq (s [m 23 7,ad 24 23 1,m 25 6,ln 26 25,ls 27 24 26] [0,5,6,7,8,9,14,15,16,27]<|.cond 27 (.region [m 28 6,m 29 7,ad 30 29
 1,ix 31 1 28 30,lf 32 1 31,m 9 32] [0,5,6,8,9,14,15,16] []) .skip)<|.naming 5 (.region [m 33 5,m 34 0,m 35 8,m 36 9,o 37 (.slc 1 34 (some 35) (some 36)),o 38 (.bslice 1 1 [.v (.slice none 0 0)] [(0,37)]),o 39 (.append 1 24 33 38),m 5 39] [0,5,6,14,15,16] [])))<|.region [ad 40 16 1,m 16 40]
 [0,5,6,14,15,16] [])))<|s [m 41 5,m 4 41] [4]<|.ret
theorem Cd.i_groups_k:CK 171 Tryz.f171 Cd.xY 42 [.tmp 4]:=ck Tryz.func171
def Cd.pX:aF:=s [bx 2 0,bx 3 1,o 4 (.mv (.const (.string ⟨#[]⟩)))] [2,3]<|s [fa 5 0 2,lf 6 1 5,fa 7 0 3,lf 8 1 7,fa 9 1 3,lf 10 1 9,o 11 (.slc 1 6 (some 8) (some 10)),c 12 F.xX [11],m 4 12] [4]<|.ret
theorem Cd.i_fieldText_k:CK 172 Tryz.f172 Cd.pX 13 [.tmp 4]:=ck Tryz.func172
def Cd.sI:aF:=s [bx 3 1,mn 4,mi 5 0] [0,3]<|.seq (s [m 7 0,lt 8 2 3,c 9 F.rY [7,8],m 6 9] [0,3,6]<|s [m 10 6,ne 11 10 0] [0,3,6,11]<|.cond 11 (s [m 12 6,mn 4,m 5 12] [4,5]<|.ret) .skip)<|s [m 13 0,lt 14 2 3,c 15 F.oW [13,14],m 4 15,mi 5 0] [4,5]<|.ret
theorem Cd.i_SortedBy_k:CK 173 Tryz.f173 Cd.sI 16 [.tmp 4,.tmp 5]:=ck Tryz.func173
def Cd.nU:aF:=s [bx 5 2,mn 6,mi 7 0] [0,1,5]<|s [lt 9 2 5,m 10 0,m 11 1,o 12 (.bslice 1 2 [.v (.slice none 0 0)] [(0,10),(1,11)]),c 13 F.eP [9,(.const (.bool true)),(.const (.slice none 0 0)),12],m 8 13] [0,1,5,8]<|.seq (.block 0 (s [m 15 8,ne 16 15 0,m 14 16] [0,1,5,8,14]<|.cond 14 (s [m 17 8,mn 6,m
 7 17] [6,7]<|.ret) (s [m 19 0,ln 20 19,o 21 (.bin .gtr 20 (k 0)),m 22 21,mg 23 1 22 true,⟨some 24,.len 23,some (22,true)⟩,⟨some 25,.bin .gtr 24 (k 0),some (22,true)⟩,pf 26 22 25,m 27 26,mg 28 0 27 true,⟨some 29,.call (.func F.eO) [28] [],some (27,true)⟩,mg 30 1 27 true,⟨some 31,.call
 (.func F.eO) [30] [],some (27,true)⟩,⟨some 32,.bin .neq 29 31,some (27,true)⟩,pf 33 27 32,m 18 33] [0,1,5,18]<|.cond 18 (s [mn 6,mi 7 9] [6,7]<|.ret) (s [m 35 0,lt 36 2 5,c 37 F.gJ [35,36],nt 38 37,m 39 38,mg 40 1 39 false,⟨some 41,.load true 2 5,some (39,false)⟩,⟨some
 42,.call (.func F.gJ) [40,41] [],some (39,false)⟩,⟨some 43,.un .not 42,some (39,false)⟩,pt 44 39 43,m 34 44] [0,1,5,34]<|.cond 34 (s [mn 6,mi 7 6] [6,7]<|.ret) (s [m 46 0,ln 47 46,m 48 1,ln 49 48,o 50 (.bin .add 47 49),o 51 (.bin .gtr 50 (k 40)),m 45 51] [0,1,5,45]<|.cond 45 (s [mn 6,mi
 7 5] [6,7]<|.ret) .skip)))))<|r [m 52 0,c 53 F.jT [52],m 54 1,o 55 (.append 1 24 53 54),o 56 (.loadV true 2 5),c 57 F.oW [55,56],m 6 57,mi 7 0] [6,7] [52,54,53,55,56,1000056,57]<|.ret
theorem Cd.i_MergeDecks_k:CK 174 Tryz.f174 Cd.nU 58 [.tmp 6,.tmp 7]:=ck Tryz.func174
def Cd.lX:aF:=s [bx 4 1,mn 6,mi 7 0] [0,2,4]<|s [m 8 0,lt 9 2 4,m 10 2,m 11 2,c 12 F.jI [8,9,10,11],ex 13 12 0,ex 14 12 1,m 6 13,m 7 14] [6,7]<|.ret
theorem Cd.i_SelectEqual_k:CK 175 Tryz.f175 Cd.lX 15 [.tmp 6,.tmp 7]:=ck Tryz.func175
def Cd.jJ:aF:=s [bx 3 1,mn 4,mi 5 0] [0,3]<|.seq (s [lt 10 2 3,m 11 0,o 12 (.bslice 1 1 [.v (.slice none 0 0)] [(0,11)]),c 13 F.eP [10,(.const (.bool true)),(.const (.slice none 0 0)),12],m 6 13] [0,3,6]<|s [m 14 6,ne 15 14 0] [0,3,6,15]<|.cond 15 (s [m 16 6,mn 4,m 5 16] [4,5]<|.ret) .skip)<|.seq
 (.naming 7 (.region [o 17 (.bslice 1 0 [.v (.slice none 0 0)] []),m 7 17] [0,3,7] []))<|.seq (s [m 18 0,lt 19 2 3,c 20 F.o5 [18,19],ln 21 20,mi 22 0] [0,7,20,21,22]<|.block 0 (.loop (s [ls 23 22 21] [0,7,20,21,22,23]<|.seq (.cond 23 .skip (.exit 0))<|.seq (.block 1 (s [ix 24 1 20 22,lf 25
 1 24,m 9 25] [0,7,9,20,21,22]<|.naming 7 (.region [m 26 7,m 27 0,m 28 9,ix 29 1 27 28,lt 30 1 29,c 31 F.oZ [30],o 32 (.bslice 1 1 [.v (.slice none 0 0)] [(0,31)]),o 33 (.append 1 24 26 32),m 7 33] [0,7,20,21,22] [])))<|.region [ad 34 22 1,m 22 34] [0,7,20,21,22] [])))<|s [m 35 7,m 4 35,mi 5
 0] [4,5]<|.ret
theorem Cd.i_FirstOfGroups_k:CK 176 Tryz.f176 Cd.jJ 36 [.tmp 4,.tmp 5]:=ck Tryz.func176
def Cd.rE:aF:=s [o 4 (.alloc [.v (.slice none 0 0),.v (.slice none 0 0)]),mi 5 0] [0,1,4]<|s [m 8 0,c 9 F.kD [8],o 6 (.alloc [.v (.slice none 0 0),.v (.slice none 0 0)]),⟨none,.store 2 6 9,none⟩] [1,4,6]<|.seq (s [mi 7 0] [1,4,6,7]<|.block 0 (.loop (.seq (s [m 10 7,m 11 1,ln 12 11,ls 13 10 12]
 [1,4,6,7,13]<|.cond 13 .skip (.exit 0))<|.seq (.block 1 (r [m 16 1,m 17 7,ix 18 9 16 17,c 19 F.iY [6],c 20 F.qU [18,19],nt 21 20,m 22 21,mg 23 1 22 false,mg 24 7 22 false,⟨some 25,.idxSl 9 23 24,some (22,false)⟩,⟨some 26,.call (.func F.sW) [6,25] [0],some
 (22,false)⟩,⟨some 27,.bin .neq 26 (k 0),some (22,false)⟩,pt 28 22 27] [1,4,6,7,28] [16,17,19,18,20,21,22,23,24,25,26,27,28,2000026]<|.cond 28 (s [lt 29 2 6,m 30 7,⟨none,.store 2 4 29,none⟩,m 5 30] [4,5]<|.ret) .skip))<|.region [m 14 7,ad 15 14 1,m 7 15] [1,4,6,7] [])))<|s [lt 31 2 6,m 32 1,ln 33
 32,⟨none,.store 2 4 31,none⟩,m 5 33] [4,5]<|.ret
theorem Cd.s_l15Run_k:CK 178 Tryz.f178 Cd.rE 34 [.cell 4 37,.tmp 5]:=ck Tryz.func178
def Cd.xI:aF:=s [mi 4 0] [0,1]<|.seq (s [m 5 0,m 6 1,ls 7 5 6] [0,1,7]<|.cond 7 (s [m 8 0,m 4 8] [4]<|.ret) .skip)<|s [m 9 1,m 4 9] [4]<|.ret
theorem Cd.s_l00Min_k:CK 179 Tryz.f179 Cd.xI 10 [.tmp 4]:=ck Tryz.func179
def Cd.dK:aF:=s [mn 6] [0,1,2]<|s [o 9 (.bslice 1 0 [.v (.slice none 0 0)] []),m 7 9] [0,1,2,7]<|.seq (s [m 10 0,m 11 2,ad 12 11 1,o 13 (.call (.func F.aD) [10,12] [0]),m 8 13] [0,1,7,8]<|.block 0 (.loop (.seq (s [m 14 8,o 15 (.bin .gtr 14 (k 0))] [0,1,7,8,15]<|.cond 15 .skip (.exit 0))<|.seq
 (.block 1 (.region [m 18 7,m 19 0,m 20 1,o 21 (.call (.func F.gM) [19,20] [0]),o 22 (.bslice 1 1 [.v (.slice none 0 0)] [(0,21)]),o 23 (.append 1 24 18 22),m 7 23] [0,1,7,8] []))<|.region [m 16 8,o 17 (.bin .sub 16 (k 1)),m 8 17] [0,1,7,8] [])))<|s [m 24 7,m 6 24] [6]<|.ret
theorem Cd.s_l02DrawDeck_k:CK 180 Tryz.f180 Cd.dK 25 [.tmp 6]:=ck Tryz.func180
def Cd.gM:aF:=s [o 4 (.alloc [.v (.slice none 0 0)])] [0,1,4]<|s [o 8 (.build [.v (.slice none 0 0)] []),o 5 (.alloc [.v (.slice none 0 0)]),⟨none,.store 1 5 8,none⟩] [0,1,4,5]<|.seq (s [mi 6 0] [0,1,4,5,6]<|.block 0 (.loop (.seq (s [m 9 6,m 10 1,ls 11 9 10] [0,1,4,5,6,11]<|.cond 11 .skip (.exit 0))<|.seq (.block
 1 (s [m 14 0,o 15 (.call (.func F.aD) [14,(k 10)] [0]),o 16 (.conv .u64 15),o 17 (.bin .shl (k 4) 16),m 7 17] [0,1,4,5,6,7]<|.seq (s [m 18 0,o 19 (.call (.func F.aD) [18,(k 6)] [0])] [0,1,4,5,6,7,19]<|.block 2 (s [en 21 19 0,m 20 21] [0,1,4,5,6,7,19,20]<|.cond 20
 (.region [mi 7 0] [0,1,4,5,6,7] []) (s [en 23 19 1,m 22 23] [0,1,4,5,6,7,19,22]<|.cond 22 (s [m 24 0,o 25 (.call (.func F.aD) [24,(k 3)] [0]),o 26 (.conv .u64 25),o 27 (.bin .shl (k 1) 26),m 7 27] [0,1,4,5,6,7]<|.region [m 28 7,m 29 0,o 30 (.call (.func F.aD) [29,(k
 9)] [0]),o 31 (.conv .u64 30),o 32 (.bin .shl (k 8) 31),o 33 (.bin .or 28 32),m 7 33] [0,1,4,5,6,7] []) (s [en 35 19 2,m 34 35] [0,1,4,5,6,7,34]<|.cond 34 (.region [m 36 0,o 37 (.call (.func F.aD) [36,(k 4096)] [0]),m 7 37] [0,1,4,5,6,7] []) .skip))))<|.region [fa 38 0 5,lf 39 1 38,m
 40 7,o 41 (.bslice 1 1 [.v (.int .i64 (0))] [(0,40)]),o 42 (.append 1 8 39 41),fa 43 0 5,⟨none,.store 1 43 42,none⟩] [0,1,4,5,6] []))<|.region [m 12 6,ad 13 12 1,m 6 13] [0,1,4,5,6] [])))<|s [lt 44 1 5,⟨none,.store 1 4 44,none⟩] [4]<|.ret
theorem Cd.s_l02Draw_k:CK 181 Tryz.f181 Cd.gM 45 [.cell 4 143]:=ck Tryz.func181
def Cd.jO:aF:=s [o 4 (.mv (.const (.string ⟨#[]⟩)))] [0,1]<|s [c 8 F.l9 [],m 5 8] [0,1,5]<|.seq (.naming 6 (.region [o 9 (.bslice 1 0 [.v (.int .u8 (0))] []),m 6 9] [0,1,5,6] []))<|.seq (s [mi 7 0] [0,1,5,6,7]<|.block 0 (.loop (.seq (s [m 10 7,m 11 1,ls 12 10 11] [0,1,5,6,7,12]<|.cond 12 .skip (.exit
 0))<|.seq (.block 1 (s [m 15 0,o 16 (.call (.func F.aV) [15,(k 3)] [0])] [0,1,5,6,7,16]<|.cond 16 (.naming 6 (.region [m 17 6,m 18 5,m 19 0,m 20 5,o 21 (.lenS 20),o 22 (.call (.func F.aD) [19,21] [0]),o 23 (.idxStr 18 22),o 24 (.bslice 1 1 [.v (.int .u8 (0))]
 [(0,23)]),o 25 (.append 1 1 17 24),m 6 25] [0,1,5,6,7] [])) (.naming 6 (.region [m 26 6,m 27 0,o 28 (.call (.func F.aD) [27,(k 7)] [0]),o 29 (.idxStr (.const (.string ⟨#[65,66,48,49,32,74,90]⟩)) 28),o 30 (.bslice 1 1 [.v (.int .u8 (0))] [(0,29)]),o 31 (.append 1 1 26 30),m 6 31]
 [0,1,5,6,7] []))))<|.region [m 13 7,ad 14 13 1,m 7 14] [0,1,5,6,7] [])))<|s [m 32 6,o 33 (.b2s 32),m 4 33] [4]<|.ret
theorem Cd.s_l03DrawText_k:CK 183 Tryz.f183 Cd.jO 34 [.tmp 4]:=ck Tryz.func183
def Cd.fM:aF:=s [o 4 (.mv (.const (.string ⟨#[]⟩)))] [0,1]<|s [m 5 1,m 6 0,m 7 1,ln 8 7,o 9 (.call (.func F.aD) [6,8] [0]),ix 10 1 5 9,lf 11 1 10,m 4 11] [4]<|.ret
theorem Cd._s_l00Src__text_k:CK 184 Tryz.f184 Cd.fM 12 [.tmp 4]:=ck Tryz.func184
def Cd.jF:aF:=s [mi 2 0] [0]<|.seq (.block 0 (s [m 4 0,en 5 4 12,m 3 5] [0,3]<|.cond 3 (s [mi 2 1] [2]<|.ret) (s [m 7 0,en 8 7 11,m 6 8] [0,6]<|.cond 6 (s [mi 2 2] [2]<|.ret) (s [m 10 0,c 11 F.nE [10,(k 0),(k 9)],m 9 11] [0,9]<|.cond 9 (s [m 12 0,o 13 (.conv .u64 12),o 14 (.bin .shl (k 4) 13),m 2 14]
 [2]<|.ret) .skip))))<|s [mi 2 0] [2]<|.ret
theorem Cd.s_l02Bit_k:CK 185 Tryz.f185 Cd.jF 15 [.tmp 2]:=ck Tryz.func185
def Cd.uL:aF:=s [o 2 (.mv (.const (.string ⟨#[]⟩))),mf 3] [0]<|.seq (.naming 4 (.region [o 8 (.bslice 1 0 [.v (.int .u8 (0))] []),m 4 8] [0,4] []))<|.seq (s [mi 5 0] [0,4,5]<|.block 0 (.loop (.seq (s [m 9 5,m 10 0,ln 11 10,ls 12 9 11] [0,4,5,12]<|.cond 12 .skip (.exit 0))<|.seq (.block 1 (s [m 16 0,m 17 5,ix 18 1
 16 17,lf 19 1 18,c 20 F.uN [19],m 15 20,ex 21 15 0,ex 22 15 1,m 6 21,m 7 22] [0,4,5,6,7]<|.seq (s [m 23 7,nt 24 23] [0,4,5,6,24]<|.cond 24 (s [o 2 (.mv (.const (.string ⟨#[]⟩))),mf 3] [2,3]<|.ret) .skip)<|.naming 4 (.region [m 25 4,m 26 6,o 27 (.bslice 1 1 [.v (.int .u8 (0))] [(0,26)]),o 28
 (.append 1 1 25 27),m 4 28] [0,4,5] [])))<|.region [m 13 5,ad 14 13 1,m 5 14] [0,4,5] [])))<|s [m 29 4,o 30 (.b2s 29),m 2 30,mt 3] [2,3]<|.ret
theorem Cd.s_l03Text_k:CK 186 Tryz.f186 Cd.uL 31 [.tmp 2,.tmp 3]:=ck Tryz.func186
def Cd.qW:aF:=s [mi 2 0] [0]<|s [c 5 F.l9 [],m 3 5] [0,3]<|.seq (s [mi 4 0] [0,3,4]<|.block 0 (.loop (.seq (s [m 6 4,m 7 3,o 8 (.lenS 7),ls 9 6 8] [0,3,4,9]<|.cond 9 .skip (.exit 0))<|.seq (.block 1 (s [m 12 3,m 13 4,o 14 (.idxStr 12 13),m 15 0,o 16 (.bin .eql 14 15)] [0,3,4,16]<|.cond 16 (s [m 17 4,m 2
 17] [2]<|.ret) .skip))<|.region [m 10 4,ad 11 10 1,m 4 11] [0,3,4] [])))<|s [mi 2 (-1)] [2]<|.ret
theorem Cd.s_l03Rank_k:CK 187 Tryz.f187 Cd.qW 18 [.tmp 2]:=ck Tryz.func187
def Cd.jR:aF:=s [mi 4 0] [0,1]<|.seq (s [m 6 0,ln 7 6,mi 8 0] [0,1,7,8]<|.block 0 (.loop (s [ls 9 8 7] [0,1,7,8,9]<|.seq (.cond 9 .skip (.exit 0))<|.seq (.block 1 (s [m 10 8,m 5 10] [0,1,5,7,8]<|s [m 11 1,m 12 0,m 13 5,ix 14 1 12 13,lf 15 1 14,o 16 (.call 11 [15] [])] [0,1,5,7,8,16]<|.cond 16 (s [m 17 5,m 4 17]
 [4]<|.ret) .skip))<|.region [ad 18 8 1,m 8 18] [0,1,7,8] [])))<|s [mi 4 (-1)] [4]<|.ret
theorem Cd.ixf_int64_k:CK 188 Tryz.f188 Cd.jR 19 [.tmp 4]:=ck Tryz.func188
def Cd.nR:aF:=s [o 4 (.alloc [.v (.slice none 0 0)])] [0,1,4]<|s [o 6 (.bslice 1 0 [.v (.int .i64 (0))] []),o 7 (.build [.v (.slice none 0 0)] [(0,1,6)]),o 5 (.alloc [.v (.slice none 0 0)]),⟨none,.store 1 5 7,none⟩] [0,1,4,5]<|.seq (s [m 8 0,mi 9 0] [1,4,5,8,9]<|.block 0 (.loop (s [ls 10 9 8] [1,4,5,8,9,10]<|.seq
 (.cond 10 .skip (.exit 0))<|.seq (.block 1 (s [fa 11 0 5,lf 12 1 11,m 13 1,o 14 (.bin .rem 13 (k 10)),o 15 (.bslice 1 1 [.v (.int .i64 (0))] [(0,14)]),o 16 (.append 1 8 12 15),fa 17 0 5,⟨none,.store 1 17 16,none⟩] [1,4,5,8,9]<|.region [m 18 1,o 19 (.bin .quo 18 (k 10)),m 1 19] [1,4,5,8,9]
 []))<|.region [ad 20 9 1,m 9 20] [1,4,5,8,9] [])))<|s [lt 21 1 5,⟨none,.store 1 4 21,none⟩] [4]<|.ret
theorem Cd.i_wheelsShow_k:CK 189 Tryz.f189 Cd.nR 22 [.cell 4 235]:=ck Tryz.func189
def Cd.sG:aF:=s [mi 2 0] [0]<|s [m 3 0,c 4 F.vD [3],o 5 (.lenS 4),m 2 5] [2]<|.ret
theorem Cd.i_digitsOf_k:CK 190 Tryz.f190 Cd.sG 6 [.tmp 2]:=ck Tryz.func190
def Cd.zO:aF:=s [mi 2 0] [0]<|s [m 3 0,m 4 0,o 5 (.un .neg 4),o 6 (.mm true 3 5),m 2 6] [2]<|.ret
theorem Cd.i_absOf_k:CK 191 Tryz.f191 Cd.zO 7 [.tmp 2]:=ck Tryz.func191
def Cd.lV:aF:=s [mf 2] [0]<|s [m 3 0,c 4 F.strings_IndexByte [(.const (.string ⟨#[32,38,65,66,67,68,69,70,71,72,73,45,74,75,76,77,78,79,80,81,82,47,83,84,85,86,87,88,89,90,48,49,50,51,52,53,54,55,56,57]⟩)),3],o 5 (.bin .geq 4 (k 0)),m 2 5] [2]<|.ret
theorem Cd.i_isCharacter_k:CK 192 Tryz.f192 Cd.lV 6 [.tmp 2]:=ck Tryz.func192
def Cd.eH:aF:=s [bx 2 0,mf 3] [1,2]<|s [lt 4 1 2,lt 5 2 1,c 6 F.sD [4,5],nt 7 6,m 3 7] [3]<|.ret
theorem Cd.i_haveField_1_k:CK 193 Tryz.f193 Cd.eH 8 [.tmp 3]:=ck Tryz.func193
def Cd.sD:aF:=s [bx 2 0,bx 3 1,mf 4] [2,3]<|s [fa 5 0 2,lf 6 1 5,fa 7 0 3,lf 8 1 7,fa 9 1 3,lf 10 1 9,o 11 (.slc 1 6 (some 8) (some 10)),c 12 F.jH [11],m 4 12] [4]<|.ret
theorem Cd.i_hasField_k:CK 194 Tryz.f194 Cd.sD 13 [.tmp 4]:=ck Tryz.func194
def Cd.iQ:aF:=s [mi 4 0] [0,1]<|.seq (s [m 8 0,ln 9 8,mi 10 0] [0,1,9,10]<|.block 0 (.loop (s [ls 11 10 9] [0,1,9,10,11]<|.seq (.cond 11 .skip (.exit 0))<|.seq (.block 1 (s [m 12 10,m 5 12] [0,1,5,9,10]<|r [m 13 0,m 14 5,ix 15 1 13 14,lf 16 1 15,c 17 F.pV [16],m 18 1,m 19 5,ix 20 1 18 19,lf 21 1 20,c 22
 F.pV [21],m 6 17,m 7 22] [0,1,6,7,9,10] [13,14,16,17,15,18,19,20,21,22,6]<|.block 2 (s [m 24 6,m 25 7,ls 26 24 25,m 23 26] [0,1,6,7,9,10,23]<|.cond 23 (s [mi 4 (-1)] [4]<|.ret) (s [m 28 6,m 29 7,o 30 (.bin .gtr 28 29),m 27 30] [0,1,9,10,27]<|.cond 27 (s [mi 4 1] [4]<|.ret) .skip))))<|.region
 [ad 31 10 1,m 10 31] [0,1,9,10] [])))<|s [mi 4 0] [4]<|.ret
theorem Cd.i_compareHoles_k:CK 195 Tryz.f195 Cd.iQ 32 [.tmp 4]:=ck Tryz.func195
def Cd.rM:aF:=s [mf 2] [0]<|s [m 3 0,o 4 (.bin .geq 3 (.const (.int .u8 (48)))),m 5 4,mg 6 0 5 true,⟨some 7,.bin .leq 6 (.const (.int .u8 (57))),some (5,true)⟩,pf 8 5 7,m 2 8] [2]<|.ret
theorem Cd.s_l01Digit_k:CK 196 Tryz.f196 Cd.rM 9 [.tmp 2]:=ck Tryz.func196
def Cd.aAJ:aF:=s [mf 4] [0,1]<|.seq (s [m 6 1,c 7 F.nE [6,(k 1),(k 20)],nt 8 7,m 9 8,mg 10 0 9 false,⟨some 11,.nilc 10,some (9,false)⟩,fg 12 0 11 9 false,⟨some 13,.load true 2 12,some (9,false)⟩,mg 14 1 9 false,⟨some 15,.call (.func F.fD) [13,14] [],some (9,false)⟩,⟨some 16,.un .not 15,some
 (9,false)⟩,pt 17 9 16] [0,1,17]<|.cond 17 (s [mf 4] [4]<|.ret) .skip)<|.seq (s [mi 5 0] [0,1,5]<|.block 0 (.loop (.seq (s [m 18 5,m 19 0,nc 20 19,fa 21 2 20,lf 22 1 21,ln 23 22,ls 24 18 23] [0,1,5,24]<|.cond 24 .skip (.exit 0))<|.seq (.block 1 (r [m 27 0,nc 28 27,fa 29 2 28,lf 30 1 29,m 31 5,ix 32 2
 30 31,lt 33 2 32,m 34 1,c 35 F.fD [33,34],nt 36 35,m 37 36,mg 38 0 37 false,⟨some 39,.nilc 38,some (37,false)⟩,fg 40 2 39 37 false,lg 41 1 40 37 false,mg 42 5 37 false,⟨some 43,.idxSl 2 41 42,some (37,false)⟩,fg 44 1 43 37 false,lg 45 1 44 37 false,mg 46 0 37 false,⟨some 47,.nilc 46,some
 (37,false)⟩,fg 48 2 47 37 false,lg 49 1 48 37 false,mg 50 5 37 false,⟨some 51,.idxSl 2 49 50,some (37,false)⟩,fg 52 0 51 37 false,lg 53 1 52 37 false,⟨some 54,.bin .sub 45 53,some (37,false)⟩,⟨some 55,.bin .gtr 54 (k 12),some (37,false)⟩,pt 56 37 55] [0,1,5,56]
 [27,29,30,28,31,32,33,34,35,36,37,38,39,40,41,42,43,44,45,46,47,48,49,50,51,52,53,54,55,56]<|.cond 56 (s [mf 4] [4]<|.ret) .skip))<|.region [m 25 5,ad 26 25 1,m 5 26] [0,1,5] [])))<|s [m 57 0,nc 58 57,fa 59 2 58,lf 60 1 59,ln 61 60,o 62 (.bin .leq 61 (k 4)),m 4 62] [4]<|.ret
theorem Cd.s_l13Ok_k:CK 197 Tryz.f197 Cd.aAJ 63 [.tmp 4]:=ck Tryz.func197
def Cd.mJ:aF:=s [mn 2] [0]<|.seq (.naming 3 (.region [o 5 (.bslice 1 0 [.v (.int .i64 (0))] []),m 3 5] [0,3] []))<|.seq (s [mi 4 0] [0,3,4]<|.block 0 (.loop (.seq (s [m 6 4,m 7 0,ln 8 7,ls 9 6 8] [0,3,4,9]<|.cond 9 .skip (.exit 0))<|.seq (.block 1 (r [m 12 4,en 13 12 0,m 14 13,mg 15 0 14 false,mg 16 4 14
 false,⟨some 17,.idxSl 1 15 16,some (14,false)⟩,lg 18 1 17 14 false,mg 19 0 14 false,mg 20 4 14 false,⟨some 21,.bin .sub 20 (k 1),some (14,false)⟩,⟨some 22,.idxSl 1 19 21,some (14,false)⟩,lg 23 1 22 14 false,⟨some 24,.binS .neq 18 23,some (14,false)⟩,pt 25 14 24] [0,3,4,25]
 [12,14,15,13,16,17,18,19,20,21,22,23,24,25]<|.cond 25 (.naming 3 (.region [m 26 3,m 27 4,o 28 (.bslice 1 1 [.v (.int .i64 (0))] [(0,27)]),o 29 (.append 1 8 26 28),m 3 29] [0,3,4] [])) .skip))<|.region [m 10 4,ad 11 10 1,m 4 11] [0,3,4] [])))<|s [m 30 3,m 2 30] [2]<|.ret
theorem Cd.s_l09Groups_k:CK 198 Tryz.f198 Cd.mJ 31 [.tmp 2]:=ck Tryz.func198
def Cd.rG:aF:=.seq (.naming 8 (.region [mn 8] [0,1,2,3,8] []))<|.seq (.naming 9 (.region [o 12 (.bslice 1 0 [.v (.slice none 0 0)] []),m 9 12] [0,1,2,3,9] []))<|s [mi 10 0] [0,1,2,3,9,10]<|.seq (s [mi 11 0] [0,1,2,3,9,10,11]<|.block 0 (.loop (.seq (s [m 13 11,m 14 0,ln 15 14,ls 16 13 15]
 [0,1,2,3,9,10,11,16]<|.cond 16 .skip (.exit 0))<|.seq (.block 1 (.seq (.block 2 (.loop (.seq (r [m 19 10,m 20 1,ln 21 20,ls 22 19 21,m 23 22,mg 24 3 23 true,mg 25 10 23 true,⟨some 26,.idxSl 1 24 25,some (23,true)⟩,lg 27 1 26 23 true,mg 28 2 23 true,mg 29 11 23 true,⟨some 30,.idxSl 1 28 29,some
 (23,true)⟩,lg 31 1 30 23 true,⟨some 32,.call (.func F.fZ) [27,31] [],some (23,true)⟩,⟨some 33,.bin .lss 32 (k 0),some (23,true)⟩,pf 34 23 33] [0,1,2,3,9,10,11,34] [19,20,21,22,23,24,25,26,27,28,29,30,31,32,33,34]<|.cond 34 .skip (.exit 2))<|.block 3 (.seq (.naming 9 (.region [m 35 9,m 36
 1,m 37 10,ix 38 1 36 37,c 39 F.jE [38],o 40 (.bslice 1 1 [.v (.slice none 0 0)] [(0,39)]),o 41 (.append 1 24 35 40),m 9 41] [0,1,2,3,9,10,11] []))<|.region [m 42 10,ad 43 42 1,m 10 43] [0,1,2,3,9,10,11] []))))<|.naming 9 (.region [m 44 9,m 45 0,m 46 11,ix 47 1 45 46,c 48 F.jE [47],o
 49 (.bslice 1 1 [.v (.slice none 0 0)] [(0,48)]),o 50 (.append 1 24 44 49),m 9 50] [0,1,2,3,9,10,11] [])))<|.region [m 17 11,ad 18 17 1,m 11 18] [0,1,2,3,9,10,11] [])))<|.seq (.naming 8 (.region [m 51 9,m 52 1,m 53 10,o 54 (.slc 1 52 (some 53) none),c 55 F.oP [54],o 56 (.append 1 24 51
 55),m 8 56] [8] []))<|.ret
theorem Cd.s_l09Merge_k:CK 199 Tryz.f199 Cd.rG 57 [.tmp 8]:=ck Tryz.func199
def Cd.xG:aF:=s [bx 4 1,mn 6,mi 7 0] [0,2,4]<|s [m 14 0,lt 15 2 4,c 16 F.jN [14,15],m 13 16,ex 17 13 0,ex 18 13 1,m 8 17,m 9 18] [2,4,8,9]<|.seq (s [m 19 9,ne 20 19 0,m 21 20,mg 22 9 21 true,⟨some 23,.bin .neq 22 (k 8),some (21,true)⟩,pf 24 21 23] [2,4,8,9,24]<|.cond 24 (s [m 25 9,mn 6,m 7 25]
 [6,7]<|.ret) .skip)<|s [mi 10 0] [2,4,8,9,10]<|.seq (s [mi 11 0] [2,4,8,9,10,11]<|.block 0 (.loop (.seq (s [m 26 11,m 27 2,ln 28 27,ls 29 26 28] [2,4,8,9,10,11,29]<|.cond 29 .skip (.exit 0))<|.seq (.block 1 (r [m 32 2,m 33 11,ix 34 1 32 33,lf 35 1 34,lt 36 2 4,c 37 F.qV [35,36],m 12 37]
 [2,4,8,9,10,11,12] [32,33,35,36,34,37]<|.seq (s [m 38 12,en 39 38 2,m 40 39,mg 41 10 40 false,⟨some 42,.bin .eql 41 (k 0),some (40,false)⟩,pt 43 40 42] [2,4,8,9,10,11,12,43]<|.cond 43 (.region [m 44 12,m 10 44] [2,4,8,9,10,11] []) .skip)<|s [m 45 10,en 46 45 2] [2,4,8,9,10,11,46]<|.cond 46 (.exit 0)
 .skip))<|.region [m 30 11,ad 31 30 1,m 11 31] [2,4,8,9,10,11] [])))<|.seq (s [m 47 10,ne 48 47 0] [8,9,10,48]<|.cond 48 (s [m 49 10,mn 6,m 7 49] [6,7]<|.ret) .skip)<|s [m 50 8,m 51 9,m 6 50,m 7 51] [6,7]<|.ret
theorem Cd.s_l09Ask_k:CK 200 Tryz.f200 Cd.xG 52 [.tmp 6,.tmp 7]:=ck Tryz.func200
def Cd.o5:aF:=s [bx 3 1,mn 4] [0,3]<|.seq (.naming 5 (.region [o 8 (.bslice 1 0 [.v (.int .i64 (0))] []),m 5 8] [0,3,5] []))<|.seq (s [m 9 0,ln 10 9,mi 11 0] [0,3,5,9,10,11]<|.block 0 (.loop (s [ls 12 11 10] [0,3,5,9,10,11,12]<|.seq (.cond 12 .skip (.exit 0))<|.seq (.block 1 (s [m 13 11,ix 14 1 9 11,lt 15 1 14,o 7
 (.alloc [.v (.slice none 0 0)]),m 6 13,⟨none,.store 1 7 15,none⟩] [0,3,5,6,7,9,10,11]<|r [m 16 6,en 17 16 0,m 18 17,mg 19 0 18 false,mg 20 6 18 false,⟨some 21,.bin .sub 20 (k 1),some (18,false)⟩,⟨some 22,.idxSl 1 19 21,some (18,false)⟩,⟨some 23,.load true 1 22,some (18,false)⟩,⟨some 24,.load true 1
 7,some (18,false)⟩,⟨some 25,.load true 2 3,some (18,false)⟩,⟨some 26,.call (.func F.dR) [23,24,25] [],some (18,false)⟩,⟨some 27,.bin .neq 26 (k 0),some (18,false)⟩,pt 28 18 27] [0,3,5,6,9,10,11,28] [16,18,19,17,20,21,22,23,24,25,26,27,28]<|.cond 28 (.naming 5 (.region [m 29 5,m 30 6,o
 31 (.bslice 1 1 [.v (.int .i64 (0))] [(0,30)]),o 32 (.append 1 8 29 31),m 5 32] [0,3,5,9,10,11] [])) .skip))<|.region [ad 33 11 1,m 11 33] [0,3,5,9,10,11] [])))<|s [m 34 5,m 4 34] [4]<|.ret
theorem Cd.i_groupsOf_k:CK 201 Tryz.f201 Cd.o5 35 [.tmp 4]:=ck Tryz.func201
def Cd.xX:aF:=s [o 2 (.mv (.const (.string ⟨#[]⟩)))] [0]<|.seq (.naming 3 (.region [o 6 (.bslice 1 0 [.v (.int .u8 (0))] []),m 3 6] [0,3] []))<|.seq (s [m 7 0,ln 8 7,mi 9 0] [3,7,8,9]<|.block 0 (.loop (s [ls 10 9 8] [3,7,8,9,10]<|.seq (.cond 10 .skip (.exit 0))<|.seq (.block 1 (s [ix 11 1 7 9,lf 12 1 11,m 5 12]
 [3,5,7,8,9]<|.naming 3 (.region [m 13 3,m 14 5,c 15 F.pV [14],o 16 (.idxStr (.const (.string ⟨#[32,38,65,66,67,68,69,70,71,72,73,45,74,75,76,77,78,79,80,81,82,47,83,84,85,86,87,88,89,90,48,49,50,51,52,53,54,55,56,57]⟩)) 15),o 17 (.bslice 1 1 [.v (.int .u8 (0))] [(0,16)]),o 18 (.append 1 1 13
 17),m 3 18] [3,7,8,9] [])))<|.region [ad 19 9 1,m 9 19] [3,7,8,9] [])))<|s [m 20 3,o 21 (.b2s 20),m 2 21] [2]<|.ret
theorem Cd.i_textOf_k:CK 202 Tryz.f202 Cd.xX 22 [.tmp 2]:=ck Tryz.func202
def Cd.rY:aF:=s [bx 3 1,mi 4 0] [0,3]<|.seq (.block 0 (s [m 6 0,c 7 F.iG [6],nt 8 7,m 5 8] [0,3,5]<|.cond 5 (s [mi 4 1] [4]<|.ret) (r [lt 10 2 3,m 11 0,c 12 F.eO [11],c 13 F.mY [10,12],nt 14 13,m 9 14] [0,3,9] [10,11,12,13,14,9]<|.cond 9 (s [mi 4 2] [4]<|.ret) (s [m 16 0,lt 17 2
 3,c 18 F.kL [16,17],nt 19 18,m 15 19] [15]<|.cond 15 (s [mi 4 8] [4]<|.ret) .skip))))<|s [mi 4 0] [4]<|.ret
theorem Cd.i_sortCode_k:CK 203 Tryz.f203 Cd.rY 20 [.tmp 4]:=ck Tryz.func203
def Cd.oW:aF:=s [bx 3 1,mn 4] [0,3]<|.seq (.naming 5 (.region [o 8 (.bslice 1 0 [.v (.slice none 0 0)] []),m 5 8] [0,3,5] []))<|.seq (s [m 9 0,lt 10 2 3,c 11 F.u6 [9,10],ln 12 11,mi 13 0] [0,5,11,12,13]<|.block 0 (.loop (s [ls 14 13 12] [0,5,11,12,13,14]<|.seq (.cond 14 .skip (.exit 0))<|.seq (.block 1
 (s [ix 15 1 11 13,lf 16 1 15,m 7 16] [0,5,7,11,12,13]<|.naming 5 (.region [m 17 5,m 18 0,m 19 7,ix 20 1 18 19,lt 21 1 20,c 22 F.oZ [21],o 23 (.bslice 1 1 [.v (.slice none 0 0)] [(0,22)]),o 24 (.append 1 24 17 23),m 5 24] [0,5,11,12,13] [])))<|.region [ad 25 13 1,m 13 25] [0,5,11,12,13]
 [])))<|s [m 26 5,m 4 26] [4]<|.ret
theorem Cd.i_sortedBy_k:CK 204 Tryz.f204 Cd.oW 27 [.tmp 4]:=ck Tryz.func204
def Cd.jI:aF:=s [bx 5 1,bx 6 2,bx 7 3,mn 8,mi 9 0] [0,5,6,7]<|.seq (s [lt 11 2 5,lf 12 1 6,lf 13 1 7,o 14 (.bslice 1 2 [.v (.string ⟨#[]⟩)] [(0,12),(1,13)]),m 15 0,o 16 (.bslice 1 1 [.v (.slice none 0 0)] [(0,15)]),c 17 F.eP [11,(.const (.bool true)),14,16],m 10 17] [0,5,6,7,10]<|s [m 18 10,ne 19 18
 0] [0,5,6,7,10,19]<|.cond 19 (s [m 20 10,mn 8,m 9 20] [8,9]<|.ret) .skip)<|s [m 21 0,c 22 F.jT [21],o 23 (.mkfn F.fB [5,6,7]),o 24 (.call (.func F.sM) [22,23] [0]),m 8 24,mi 9 0] [8,9]<|.ret
theorem Cd.i_SelectBetween_k:CK 205 Tryz.f205 Cd.jI 25 [.tmp 8,.tmp 9]:=ck Tryz.func205
def Cd.l9:aF:=s [o 0 (.mv (.const (.string ⟨#[]⟩)))] []<|s [o 0 (.mv (.const (.string ⟨#[32,38,65,66,67,68,69,70,71,72,73,45,74,75,76,77,78,79,80,81,82,47,83,84,85,86,87,88,89,90,48,49,50,51,52,53,54,55,56,57]⟩)))] [0]<|.ret
theorem Cd.s_l03Order_k:CK 206 Tryz.f206 Cd.l9 1 [.tmp 0]:=ck Tryz.func206
def Cd.uN:aF:=s [o 2 (.mv (.const (.int .u8 (0)))),mf 3] [0]<|s [c 6 F.l9 [],m 4 6] [0,4]<|.seq (s [mi 5 0] [0,4,5]<|.block 0 (.loop (.seq (s [m 7 5,m 8 4,o 9 (.lenS 8),ls 10 7 9] [0,4,5,10]<|.cond 10 .skip (.exit 0))<|.seq (.block 1 (s [m 13 4,m 14 5,o 15 (.idxStr 13 14),c 16 F.oN [15],m 17
 0,o 18 (.bin .eql 16 17)] [0,4,5,18]<|.cond 18 (s [m 19 4,m 20 5,o 21 (.idxStr 19 20),m 2 21,mt 3] [2,3]<|.ret) .skip))<|.region [m 11 5,ad 12 11 1,m 5 12] [0,4,5] [])))<|s [o 2 (.mv (.const (.int .u8 (0)))),mf 3] [2,3]<|.ret
theorem Cd.s_l03Char_k:CK 207 Tryz.f207 Cd.uN 22 [.tmp 2,.tmp 3]:=ck Tryz.func207
def Cd.vD:aF:=s [o 2 (.mv (.const (.string ⟨#[]⟩)))] [0]<|s [m 3 0,c 4 F.iC [3,(k 10)],m 2 4] [2]<|.ret
theorem Cd.i_Decimal_k:CK 208 Tryz.f208 Cd.vD 5 [.tmp 2]:=ck Tryz.func208
def Cd.strings_IndexByte:aF:=s [mi 4 0] [0,1]<|s [m 5 0,m 6 1,c 7 F.bO [5,6],m 4 7] [4]<|.ret
theorem Cd.strings_IndexByte_k:CK 209 Tryz.f209 Cd.strings_IndexByte 8 [.tmp 4]:=ck Tryz.func209
def Cd.jH:aF:=s [mf 2] [0]<|s [m 3 0,c 4 F.lF [3,(.func F.bX)],nt 5 4,m 2 5] [2]<|.ret
theorem Cd.i_hasCharacters_k:CK 210 Tryz.f210 Cd.jH 6 [.tmp 2]:=ck Tryz.func210
def Cd.pV:aF:=s [mi 2 0] [0]<|.seq (s [mi 3 0] [0,3]<|.block 0 (.loop (.seq (s [m 4 3,o 5 (.bin .lss 4 (k 40))] [0,3,5]<|.cond 5 .skip (.exit 0))<|.seq (.block 1 (s [m 8 3,o 9 (.idxStr (.const (.string
 ⟨#[32,38,65,66,67,68,69,70,71,72,73,45,74,75,76,77,78,79,80,81,82,47,83,84,85,86,87,88,89,90,48,49,50,51,52,53,54,55,56,57]⟩)) 8),c 10 F.vC [9],m 11 0,o 12 (.bin .eql 10 11)] [0,3,12]<|.cond 12 (s [m 13 3,m 2 13] [2]<|.ret) .skip))<|.region [m 6 3,ad 7 6 1,m 3 7] [0,3] [])))<|s [mi 2 (-1)]
 [2]<|.ret
theorem Cd.i_rankOf_k:CK 211 Tryz.f211 Cd.pV 14 [.tmp 2]:=ck Tryz.func211
def Cd.u6:aF:=s [bx 2 0,bx 3 1,mn 4] [2,3]<|.seq (.naming 5 (.region [o 7 (.bslice 1 0 [.v (.int .i64 (0))] []),m 5 7] [2,3,5] []))<|.seq (s [lf 8 1 2,ln 9 8,mi 10 0] [2,3,5,9,10]<|.block 0 (.loop (s [ls 11 10 9] [2,3,5,9,10,11]<|.seq (.cond 11 .skip (.exit 0))<|.seq (.block 1 (s [m 12 10,m 6 12]
 [2,3,5,6,9,10]<|.naming 5 (.region [m 13 5,m 14 6,o 15 (.bslice 1 1 [.v (.int .i64 (0))] [(0,14)]),o 16 (.append 1 8 13 15),m 5 16] [2,3,5,9,10] [])))<|.region [ad 17 10 1,m 10 17] [2,3,5,9,10] [])))<|s [m 18 5,o 19 (.mkfn F.mW [2,3]),o 20 (.call (.func
 F.iM) [18,19] [0])] [5]<|s [m 21 5,m 4 21] [4]<|.ret
theorem Cd.i_orderBy_k:CK 212 Tryz.f212 Cd.u6 22 [.tmp 4]:=ck Tryz.func212
def Cd.fB:aF:=s [bx 4 0,mf 5] [1,2,3,4]<|s [lt 6 1 4,lt 7 2 1,lf 8 1 2,c 9 F.jU [6,7,8],o 10 (.bin .lss 9 (k 0)),m 11 10,⟨some 12,.load true 1 4,some (11,false)⟩,⟨some 13,.load true 2 1,some (11,false)⟩,lg 14 1 3 11 false,⟨some 15,.call (.func F.jU) [12,13,14] [],some (11,false)⟩,⟨some
 16,.bin .gtr 15 (k 0),some (11,false)⟩,pt 17 11 16,m 5 17] [5]<|.ret
theorem Cd.i_SelectBetween_1_k:CK 213 Tryz.f213 Cd.fB 18 [.tmp 5]:=ck Tryz.func213
def Cd.jU:aF:=s [bx 3 0,bx 4 1,mi 6 0] [2,3,4]<|r [fa 7 0 3,lf 8 1 7,fa 9 0 4,lf 10 1 9,fa 11 1 4,lf 12 1 11,o 13 (.slc 1 8 (some 10) (some 12)),m 14 2,fa 15 1 4,lf 16 1 15,fa 17 0 4,lf 18 1 17,o 19 (.bin .sub 16 18),c 20 F.pW [14,19],o 21 (.field false 0 1 20),c 22 F.iQ [13,21],m 6 22]
 [6] [7,9,8,10,11,12,13,14,15,16,17,18,19,20,21,22]<|.ret
theorem Cd.i_compareText_k:CK 214 Tryz.f214 Cd.jU 23 [.tmp 6]:=ck Tryz.func214
def Cd.iC:aF:=s [o 4 (.mv (.const (.string ⟨#[]⟩)))] [0,1]<|s [m 5 0,m 6 1,c 7 F.kI [5,6],m 4 7] [4]<|.ret
theorem Cd.strconv_FormatInt_k:CK 215 Tryz.f215 Cd.iC 8 [.tmp 4]:=ck Tryz.func215
def Cd.bO:aF:=s [mi 4 0] [0,1]<|s [m 5 0,m 6 1,o 7 (.idxB 5 6),m 4 7] [4]<|.ret
theorem Cd.internal_stringslite_IndexByte_k:CK 216 Tryz.f216 Cd.bO 8 [.tmp 4]:=ck Tryz.func216
def Cd.bX:aF:=s [mf 2] [0]<|s [m 3 0,c 4 F.pV [3],o 5 (.bin .lss 4 (k 0)),m 2 5] [2]<|.ret
theorem Cd.i_hasCharacters_1_k:CK 217 Tryz.f217 Cd.bX 6 [.tmp 2]:=ck Tryz.func217
def Cd.vC:aF:=s [mi 2 0] [0]<|s [m 6 0,c 7 F.x9 [6],m 5 7,ex 8 5 0,ex 9 5 1,m 3 8,m 4 9] [3]<|s [m 10 3,m 2 10] [2]<|.ret
theorem Cd.i_codeOf_k:CK 218 Tryz.f218 Cd.vC 11 [.tmp 2]:=ck Tryz.func218
def Cd.iM:aF:=.region [m 4 0,m 5 0,ln 6 5,m 7 1,o 8 (.call (.func F.jK) [4,6,7] [0])] [] []
theorem Cd.sortst___int64_k:CK 219 Tryz.f219 Cd.iM 9 []:=ck Tryz.func219
def Cd.mW:aF:=s [mi 6 0] [0,1,2,3]<|r [lf 7 1 2,m 8 0,ix 9 1 7 8,lt 10 1 9,lf 11 1 2,m 12 1,ix 13 1 11 12,lt 14 1 13,lt 15 2 3,c 16 F.dR [10,14,15],m 6 16] [6] [7,8,10,11,9,12,13,14,15,16]<|.ret
theorem Cd.i_orderBy_1_k:CK 220 Tryz.f220 Cd.mW 17 [.tmp 6]:=ck Tryz.func220
def Cd.pW:aF:=s [o 4 (.alloc [.v (.slice none 0 0)])] [0,1,4]<|s [m 7 1,c 8 F.zN [7],o 5 (.alloc [.v (.slice none 0 0)]),⟨none,.store 1 5 8,none⟩] [0,4,5]<|.seq (s [mi 6 0] [0,4,5,6]<|.block 0 (.loop (.seq (s [m 9 6,m 10 0,o 11 (.lenS 10),ls 12 9 11] [0,4,5,6,12]<|.cond 12 .skip (.exit 0))<|.seq (.block 1
 (.region [fa 15 0 5,lf 16 1 15,m 17 6,m 18 0,m 19 6,o 20 (.idxStr 18 19),c 21 F.vC [20],ix 22 1 16 17,⟨none,.store 1 22 21,none⟩] [0,4,5,6] [15,17,16,18,19,20,21]))<|.region [m 13 6,ad 14 13 1,m 6 14] [0,4,5,6] [])))<|s [lt 23 1 5,⟨none,.store 1 4 23,none⟩] [4]<|.ret
theorem Cd.i_punchText_k:CK 221 Tryz.f221 Cd.pW 24 [.cell 4 143]:=ck Tryz.func221
def Cd.x9:aF:=s [mi 2 0,mf 3] [0]<|.seq (.block 0 (s [m 5 0,o 6 (.bin .eql 5 (.const (.int .u8 (32)))),m 4 6] [0,4]<|.cond 4 (s [mi 2 0,mt 3] [2,3]<|.ret) (s [m 8 0,o 9 (.bin .eql 8 (.const (.int .u8 (38)))),m 7 9] [0,7]<|.cond 7 (s [c 10 F.fA [(k 12)],m 2 10,mt 3] [2,3]<|.ret) (s [m 12 0,o 13 (.bin .eql
 12 (.const (.int .u8 (45)))),m 11 13] [0,11]<|.cond 11 (s [c 14 F.fA [(k 11)],m 2 14,mt 3] [2,3]<|.ret) (s [m 16 0,c 17 F.u7 [16],m 15 17] [0,15]<|.cond 15 (s [m 18 0,o 19 (.bin .sub 18 (.const (.int .u8 (48)))),o 20 (.conv .i64 19),c 21 F.fA [20],m 2 21,mt 3] [2,3]<|.ret)
 (s [m 23 0,o 24 (.bin .geq 23 (.const (.int .u8 (65)))),m 25 24,mg 26 0 25 true,⟨some 27,.bin .leq 26 (.const (.int .u8 (73))),some (25,true)⟩,pf 28 25 27,m 22 28] [0,22]<|.cond 22 (s [c 29 F.fA [(k 12)],m 30 0,o 31 (.bin .sub 30 (.const (.int .u8 (65)))),o 32 (.conv .i64 31),ad 33 32 1,c 34
 F.fA [33],o 35 (.bin .or 29 34),m 2 35,mt 3] [2,3]<|.ret) (s [m 37 0,o 38 (.bin .geq 37 (.const (.int .u8 (74)))),m 39 38,mg 40 0 39 true,⟨some 41,.bin .leq 40 (.const (.int .u8 (82))),some (39,true)⟩,pf 42 39 41,m 36 42] [0,36]<|.cond 36 (s [c 43 F.fA [(k 11)],m 44 0,o 45 (.bin .sub
 44 (.const (.int .u8 (74)))),o 46 (.conv .i64 45),ad 47 46 1,c 48 F.fA [47],o 49 (.bin .or 43 48),m 2 49,mt 3] [2,3]<|.ret) (s [m 51 0,o 52 (.bin .eql 51 (.const (.int .u8 (47)))),m 50 52] [0,50]<|.cond 50 (s [c 53 F.fA [(k 0)],c 54 F.fA [(k 1)],o 55 (.bin .or 53 54),m 2 55,mt
 3] [2,3]<|.ret) (s [m 57 0,o 58 (.bin .geq 57 (.const (.int .u8 (83)))),m 59 58,mg 60 0 59 true,⟨some 61,.bin .leq 60 (.const (.int .u8 (90))),some (59,true)⟩,pf 62 59 61,m 56 62] [0,56]<|.cond 56 (s [c 63 F.fA [(k 0)],m 64 0,o 65 (.bin .sub 64 (.const (.int .u8 (83)))),o 66 (.conv .i64
 65),ad 67 66 2,c 68 F.fA [67],o 69 (.bin .or 63 68),m 2 69,mt 3] [2,3]<|.ret) .skip)))))))))<|s [mi 2 0,mf 3] [2,3]<|.ret
theorem Cd.i_CodeOf_k:CK 224 Tryz.f224 Cd.x9 70 [.tmp 2,.tmp 3]:=ck Tryz.func224
def Cd.jK:aF:=s [mi 6 20] [0,1,2,6]<|s [m 10 6,mi 7 0,m 8 10] [0,1,2,6,7,8]<|.seq (.block 0 (.loop (.seq (s [m 11 8,m 12 1,o 13 (.bin .leq 11 12)] [0,1,2,6,7,8,13]<|.cond 13 .skip (.exit 0))<|.block 1 (s [m 14 0,m 15 7,m 16 8,m 17 2,o 18 (.call (.func F.gI) [14,15,16,17] [0])]
 [0,1,2,6,8]<|s [m 19 8,m 7 19] [0,1,2,6,7,8]<|.region [m 20 8,m 21 6,o 22 (.bin .add 20 21),m 8 22] [0,1,2,6,7,8] []))))<|s [m 23 0,m 24 7,m 25 1,m 26 2,o 27 (.call (.func F.gI) [23,24,25,26] [0])] [0,1,2,6]<|.block 2 (.loop (.seq (s [m 28 6,m 29 1,ls 30 28 29]
 [0,1,2,6,30]<|.cond 30 .skip (.exit 2))<|.block 3 (s [m 31 6,o 32 (.bin .mul (k 2) 31),mi 7 0,m 8 32] [0,1,2,6,7,8]<|.seq (.block 4 (.loop (.seq (s [m 33 8,m 34 1,o 35 (.bin .leq 33 34)] [0,1,2,6,7,8,35]<|.cond 35 .skip (.exit 4))<|.block 5 (s [m 36 0,m 37 7,m 38 7,m 39 6,o 40 (.bin .add 38 39),m 41
 8,m 42 2,o 43 (.call (.func F.aY) [36,37,40,41,42] [0])] [0,1,2,6,8]<|s [m 44 8,m 7 44] [0,1,2,6,7,8]<|.region [m 45 8,m 46 6,o 47 (.bin .mul (k 2) 46),o 48 (.bin .add 45 47),m 8 48] [0,1,2,6,7,8] []))))<|.seq (s [m 49 7,m 50 6,o 51 (.bin .add 49 50),m 9 51]
 [0,1,2,6,7,9]<|s [m 52 9,m 53 1,ls 54 52 53] [0,1,2,6,7,9,54]<|.cond 54 (.region [m 55 0,m 56 7,m 57 9,m 58 1,m 59 2,o 60 (.call (.func F.aY) [55,56,57,58,59] [0])] [0,1,2,6] []) .skip)<|.region [m 61 6,o 62 (.bin .mul 61 (k 2)),m 6 62] [0,1,2,6] [])))
theorem Cd.stable_int64__k:CK 225 Tryz.f225 Cd.jK 63 []:=ck Tryz.func225
def Cd.zN:aF:=s [o 2 (.alloc [.v (.slice none 0 0)])] [0,2]<|s [m 3 0,o 4 (.mk 1 8 [.v (.int .i64 (0))] 3),o 5 (.build [.v (.slice none 0 0)] [(0,1,4)]),⟨none,.store 1 2 5,none⟩] [2]<|.ret
theorem Cd.i_blank_k:CK 226 Tryz.f226 Cd.zN 6 [.cell 2 143]:=ck Tryz.func226
def Cd.u7:aF:=s [mf 2] [0]<|s [m 3 0,o 4 (.bin .geq 3 (.const (.int .u8 (48)))),m 5 4,mg 6 0 5 true,⟨some 7,.bin .leq 6 (.const (.int .u8 (57))),some (5,true)⟩,pf 8 5 7,m 2 8] [2]<|.ret
theorem Cd.i_isDigit_k:CK 231 Tryz.f231 Cd.u7 9 [.tmp 2]:=ck Tryz.func231
def Cd.gI:aF:=s [m 10 1,ad 11 10 1,m 8 11] [0,1,2,3,8]<|.block 0 (.loop (.seq (s [m 12 8,m 13 2,ls 14 12 13] [0,1,2,3,8,14]<|.cond 14 .skip (.exit 0))<|.seq (.block 1 (s [m 17 8,m 9 17] [0,1,2,3,8,9]<|.block 2 (.loop (.seq (r [m 18 9,m 19 1,o 20 (.bin .gtr 18 19),m 21 20,mg 22 3 21 true,mg 23 0 21 true,mg 24 9 21
 true,⟨some 25,.idxSl 1 23 24,some (21,true)⟩,lg 26 1 25 21 true,mg 27 0 21 true,mg 28 9 21 true,⟨some 29,.bin .sub 28 (k 1),some (21,true)⟩,⟨some 30,.idxSl 1 27 29,some (21,true)⟩,lg 31 1 30 21 true,⟨some 32,.call 22 [26,31] [],some (21,true)⟩,⟨some 33,.bin .lss 32 (k 0),some (21,true)⟩,pf 34 21 33]
 [0,1,2,3,8,9,34] [18,19,21,22,20,23,24,25,26,27,28,29,30,31,32,33,34]<|.cond 34 .skip (.exit 2))<|.seq (.block 3 (.region [m 37 0,m 38 9,m 39 0,m 40 9,o 41 (.bin .sub 40 (k 1)),m 42 0,m 43 9,o 44 (.bin .sub 43 (k 1)),ix 45 1 42 44,lf 46 1 45,m 47 0,m 48 9,ix 49 1 47 48,lf 50 1 49,ix 51 1 37
 38,⟨none,.store 1 51 46,none⟩,ix 52 1 39 41,⟨none,.store 1 52 50,none⟩] [0,1,2,3,8,9] [37,38,39,40,41,42,43,44,45,46,47,48,49,50,51]))<|.region [m 35 9,o 36 (.bin .sub 35 (k 1)),m 9 36] [0,1,2,3,8,9] []))))<|.region [m 15 8,ad 16 15 1,m 8 16] [0,1,2,3,8] []))
theorem Cd.insort_int64__k:CK 232 Tryz.f232 Cd.gI 53 []:=ck Tryz.func232
def Cd.aY:aF:=.seq (s [m 25 2,m 26 1,o 27 (.bin .sub 25 26),en 28 27 1] [0,1,2,3,4,28]<|.cond 28 (s [m 29 2,m 10 29] [0,1,3,4,10]<|s [m 30 3,m 11 30] [0,1,4,10,11]<|.seq (.block 0 (.loop (.seq (s [m 31 10,m 32 11,ls 33 31 32] [0,1,4,10,11,33]<|.cond 33 .skip (.exit 0))<|.block 1 (s [m 34 10,m 35 11,o 36 (.bin .add
 34 35),o 37 (.conv .u64 36),o 38 (.bin .shr 37 (.const (.int .u64 (1)))),o 39 (.conv .i64 38),m 12 39] [0,1,4,10,11,12]<|r [m 40 4,m 41 0,m 42 12,ix 43 1 41 42,lf 44 1 43,m 45 0,m 46 1,ix 47 1 45 46,lf 48 1 47,o 49 (.call 40 [44,48] []),o 50 (.bin .lss 49 (k 0))] [0,1,4,10,11,12,50]
 [40,41,42,43,44,45,46,47,48,49,50]<|.cond 50 (.region [m 51 12,ad 52 51 1,m 10 52] [0,1,4,10,11] []) (.region [m 53 12,m 11 53] [0,1,4,10,11] [])))))<|.seq (s [m 54 1,m 13 54] [0,10,13]<|.block 2 (.loop (.seq (s [m 55 13,m 56 10,o 57 (.bin .sub 56 (k 1)),ls 58 55 57] [0,10,13,58]<|.cond 58 .skip
 (.exit 2))<|.seq (.block 3 (.region [m 61 0,m 62 13,m 63 0,m 64 13,ad 65 64 1,m 66 0,m 67 13,ad 68 67 1,ix 69 1 66 68,lf 70 1 69,m 71 0,m 72 13,ix 73 1 71 72,lf 74 1 73,ix 75 1 61 62,⟨none,.store 1 75 70,none⟩,ix 76 1 63 65,⟨none,.store 1 76 74,none⟩] [0,10,13]
 [61,62,63,64,65,66,67,68,69,70,71,72,73,74,75]))<|.region [m 59 13,ad 60 59 1,m 13 60] [0,10,13] [])))<|.ret) .skip)<|.seq (s [m 77 3,m 78 2,o 79 (.bin .sub 77 78),en 80 79 1] [0,1,2,3,4,80]<|.cond 80 (s [m 81 1,m 14 81] [0,2,4,14]<|s [m 82 2,m 15 82] [0,2,4,14,15]<|.seq (.block 4 (.loop (.seq (s [m
 83 14,m 84 15,ls 85 83 84] [0,2,4,14,15,85]<|.cond 85 .skip (.exit 4))<|.block 5 (s [m 86 14,m 87 15,o 88 (.bin .add 86 87),o 89 (.conv .u64 88),o 90 (.bin .shr 89 (.const (.int .u64 (1)))),o 91 (.conv .i64 90),m 16 91] [0,2,4,14,15,16]<|r [m 92 4,m 93 0,m 94 2,ix 95 1 93 94,lf 96 1 95,m 97 0,m 98
 16,ix 99 1 97 98,lf 100 1 99,o 101 (.call 92 [96,100] []),o 102 (.bin .lss 101 (k 0)),nt 103 102] [0,2,4,14,15,16,103] [92,93,94,95,96,97,98,99,100,101,102,103]<|.cond 103 (.region [m 104 16,ad 105 104 1,m 14 105] [0,2,4,14,15] []) (.region [m 106 16,m 15 106] [0,2,4,14,15] [])))))<|.seq (s [m 107
 2,m 17 107] [0,14,17]<|.block 6 (.loop (.seq (s [m 108 17,m 109 14,o 110 (.bin .gtr 108 109)] [0,14,17,110]<|.cond 110 .skip (.exit 6))<|.seq (.block 7 (.region [m 113 0,m 114 17,m 115 0,m 116 17,o 117 (.bin .sub 116 (k 1)),m 118 0,m 119 17,o 120 (.bin .sub 119 (k 1)),ix 121 1 118 120,lf 122 1 121,m
 123 0,m 124 17,ix 125 1 123 124,lf 126 1 125,ix 127 1 113 114,⟨none,.store 1 127 122,none⟩,ix 128 1 115 117,⟨none,.store 1 128 126,none⟩] [0,14,17] [113,114,115,116,117,118,119,120,121,122,123,124,125,126,127]))<|.region [m 111 17,o 112 (.bin .sub 111 (k 1)),m 17 112] [0,14,17] [])))<|.ret) .skip)<|s
 [m 129 1,m 130 3,o 131 (.bin .add 129 130),o 132 (.conv .u64 131),o 133 (.bin .shr 132 (.const (.int .u64 (1)))),o 134 (.conv .i64 133),m 18 134] [0,1,2,3,4,18]<|s [m 135 18,m 136 2,o 137 (.bin .add 135 136),m 19 137] [0,1,2,3,4,18,19]<|s [mi 20 0,mi 21 0] [0,1,2,3,4,18,19]<|.seq (s [m 138 2,m 139
 18,o 140 (.bin .gtr 138 139)] [0,1,2,3,4,18,19,140]<|.cond 140 (s [m 141 19,m 142 3,o 143 (.bin .sub 141 142),m 20 143] [0,1,2,3,4,18,19,20]<|.region [m 144 18,m 21 144] [0,1,2,3,4,18,19,20,21] []) (s [m 145 1,m 20 145] [0,1,2,3,4,18,19,20]<|.region [m 146 2,m 21 146] [0,1,2,3,4,18,19,20,21] []))<|s
 [m 147 19,o 148 (.bin .sub 147 (k 1)),m 22 148] [0,1,2,3,4,18,19,20,21,22]<|.seq (.block 8 (.loop (.seq (s [m 149 20,m 150 21,ls 151 149 150] [0,1,2,3,4,18,19,20,21,22,151]<|.cond 151 .skip (.exit 8))<|.block 9 (s [m 152 20,m 153 21,o 154 (.bin .add 152 153),o 155 (.conv .u64 154),o 156 (.bin .shr
 155 (.const (.int .u64 (1)))),o 157 (.conv .i64 156),m 23 157] [0,1,2,3,4,18,19,20,21,22,23]<|r [m 158 4,m 159 0,m 160 22,m 161 23,o 162 (.bin .sub 160 161),ix 163 1 159 162,lf 164 1 163,m 165 0,m 166 23,ix 167 1 165 166,lf 168 1 167,o 169 (.call 158 [164,168] []),o 170 (.bin .lss 169 (k 0)),nt 171
 170] [0,1,2,3,4,18,19,20,21,22,23,171] [158,159,160,161,162,163,164,165,166,167,168,169,170,171]<|.cond 171 (.region [m 172 23,ad 173 172 1,m 20 173] [0,1,2,3,4,18,19,20,21,22] []) (.region [m 174 23,m 21 174] [0,1,2,3,4,18,19,20,21,22] [])))))<|s [m 175 19,m 176 20,o 177 (.bin .sub 175 176),m 24
 177] [0,1,2,3,4,18,20,24]<|.seq (s [m 178 20,m 179 2,ls 180 178 179,m 181 180,mg 182 2 181 true,mg 183 24 181 true,⟨some 184,.bin .lss 182 183,some (181,true)⟩,pf 185 181 184] [0,1,2,3,4,18,20,24,185]<|.cond 185 (.region [m 186 0,m 187 20,m 188 2,m 189 24,m 190 4,o 191 (.call (.func
 F.jP) [186,187,188,189,190] [0])] [0,1,3,4,18,20,24] []) .skip)<|.seq (s [m 192 1,m 193 20,ls 194 192 193,m 195 194,mg 196 20 195 true,mg 197 18 195 true,⟨some 198,.bin .lss 196 197,some (195,true)⟩,pf 199 195 198] [0,1,3,4,18,20,24,199]<|.cond 199 (.region [m 200 0,m 201 1,m
 202 20,m 203 18,m 204 4,o 205 (.call (.func F.aY) [200,201,202,203,204] [0])] [0,3,4,18,24] []) .skip)<|s [m 206 18,m 207 24,ls 208 206 207,m 209 208,mg 210 24 209 true,mg 211 3 209 true,⟨some 212,.bin .lss 210 211,some (209,true)⟩,pf 213 209 212] [0,3,4,18,24,213]<|.cond
 213 (.region [m 214 0,m 215 18,m 216 24,m 217 3,m 218 4,o 219 (.call (.func F.aY) [214,215,216,217,218] [0])] [] []) .skip
theorem Cd.symMerge_int64__k:CK 233 Tryz.f233 Cd.aY 220 []:=ck Tryz.func233
def Cd.jP:aF:=s [m 12 2,m 13 1,o 14 (.bin .sub 12 13),m 10 14] [0,2,3,4,10]<|s [m 15 3,m 16 2,o 17 (.bin .sub 15 16),m 11 17] [0,2,4,10,11]<|.seq (.block 0 (.loop (.seq (s [m 18 10,m 19 11,o 20 (.bin .neq 18 19)] [0,2,4,10,11,20]<|.cond 20 .skip (.exit 0))<|.block 1 (s [m 21 10,m 22 11,o 23 (.bin .gtr 21 22)]
 [0,2,4,10,11,23]<|.cond 23 (s [m 24 0,m 25 2,m 26 10,o 27 (.bin .sub 25 26),m 28 2,m 29 11,m 30 4,o 31 (.call (.func F.gZ) [24,27,28,29,30] [0])] [0,2,4,10,11]<|.region [m 32 10,m 33 11,o 34 (.bin .sub 32 33),m 10 34] [0,2,4,10,11] []) (s [m 35 0,m 36 2,m 37 10,o 38 (.bin
 .sub 36 37),m 39 2,m 40 11,o 41 (.bin .add 39 40),m 42 10,o 43 (.bin .sub 41 42),m 44 10,m 45 4,o 46 (.call (.func F.gZ) [35,38,43,44,45] [0])] [0,2,4,10,11]<|.region [m 47 11,m 48 10,o 49 (.bin .sub 47 48),m 11 49] [0,2,4,10,11] [])))))<|.region [m 50 0,m 51 2,m 52 10,o
 53 (.bin .sub 51 52),m 54 2,m 55 10,m 56 4,o 57 (.call (.func F.gZ) [50,53,54,55,56] [0])] [] []
theorem Cd.rotate_int64__k:CK 239 Tryz.f239 Cd.jP 58 []:=ck Tryz.func239
def Cd.gZ:aF:=s [mi 10 0] [0,1,2,3,10]<|.block 0 (.loop (.seq (s [m 11 10,m 12 3,ls 13 11 12] [0,1,2,3,10,13]<|.cond 13 .skip (.exit 0))<|.seq (.block 1 (.region [m 16 0,m 17 1,m 18 10,o 19 (.bin .add 17 18),m 20 0,m 21 2,m 22 10,o 23 (.bin .add 21 22),m 24 0,m 25 2,m 26 10,o 27 (.bin .add 25 26),ix 28 1 24 27,lf
 29 1 28,m 30 0,m 31 1,m 32 10,o 33 (.bin .add 31 32),ix 34 1 30 33,lf 35 1 34,ix 36 1 16 19,⟨none,.store 1 36 29,none⟩,ix 37 1 20 23,⟨none,.store 1 37 35,none⟩] [0,1,2,3,10] [16,17,18,19,20,21,22,23,24,25,26,27,28,29,30,31,32,33,34,35,36]))<|.region [m 14 10,ad 15 14 1,m 10 15] [0,1,2,3,10] []))
theorem Cd.swapR_int64__k:CK 242 Tryz.f242 Cd.gZ 38 []:=ck Tryz.func242
attribute [go_sem] Cd.l_FnBreaks Cd.dA Cd.dU Cd.aA1 Cd.fP Cd.lC Cd.nI Cd.nT Cd.nG Cd.qR Cd.iX Cd.kY Cd.dH Cd.mO Cd.jM Cd.aV Cd.aD Cd.kU Cd.mD Cd.iG Cd.fG Cd.eO Cd.iW Cd.kZ Cd.iT Cd.iO Cd.oH Cd.iZ Cd.sU Cd.kW Cd.aAI Cd.iY Cd.kD Cd.qU Cd.lW Cd.fF Cd.xZ Cd.uJ Cd.bA Cd.fO Cd.uO Cd.kV Cd.jN Cd.pG Cd.jE Cd.pE Cd.p9 Cd.bV Cd.mY Cd.iP Cd.mH Cd.sH Cd.eP Cd.gJ Cd.kP Cd.sM Cd.jT Cd.gP Cd.sF Cd.aAK Cd.fD Cd.kE Cd.mM Cd.pF Cd.rF Cd.mK Cd.oM Cd.oP Cd.nE Cd.oI Cd.uK Cd.qV Cd.uI Cd.bZ Cd.p8 Cd.mX Cd.rW Cd.x8 Cd.oK Cd.dL Cd.iI Cd.oO Cd.uM Cd.xH Cd.fZ Cd.pI Cd.kK Cd.lF Cd.eQ Cd.lU Cd.kM Cd.gD Cd.fA Cd.vB Cd.pY Cd.gY Cd.kL Cd.aA4 Cd.lT Cd.oZ Cd.sN Cd.gF Cd.dR Cd.rH Cd.xE Cd.oN Cd.l5 Cd.nX Cd.nH Cd.lN Cd.jG Cd.rZ Cd.rX Cd.uZ Cd.xY Cd.pX Cd.sI Cd.nU Cd.lX Cd.jJ Cd.rE Cd.xI Cd.dK Cd.gM Cd.jO Cd.fM Cd.jF Cd.uL Cd.qW Cd.jR Cd.nR Cd.sG Cd.zO Cd.lV Cd.eH Cd.sD Cd.iQ Cd.rM Cd.aAJ Cd.mJ Cd.rG Cd.xG Cd.o5 Cd.xX Cd.rY Cd.oW Cd.jI Cd.l9 Cd.uN Cd.vD Cd.strings_IndexByte Cd.jH Cd.pV Cd.u6 Cd.fB Cd.jU Cd.iC Cd.bO Cd.bX Cd.vC Cd.iM Cd.mW Cd.pW Cd.x9 Cd.jK Cd.zN Cd.u7 Cd.gI Cd.aY Cd.jP Cd.gZ
end Go.Proofs.YtmiiohemehacjaaGreatDoor
