/- The code of each function, resolved. -/
import Derived.Test.YtfoddghhlagenaaGreatDoorVtC
import Derived.Test.YtfoddghhlagenaaGreatDoorRows
set_option linter.all false
set_option maxHeartbeats 8000000
namespace Go.Proofs.YtfoddghhlagenaaGreatDoor
open Go.Vs Go.Vs.Q
set_option maxRecDepth 100000
theorem Tryz.own:ownKnob Tryz.prog.godebug=none:=by kernel_rfl
theorem Tryz.laidOut:laidOutB Tryz.prog=true:=by kernel_rfl
theorem Tryz.mixed:Tryz.prog.follows .mixedOrders=true:=Tryz.checked.mixed
attribute [go_sem] reduceIte reduceCtorEq Nat.reduceEqDiff Nat.reduceLT Nat.reduceLeDiff Nat.reduceAdd Nat.reduceMul Nat.reduceSub Int.reduceToNat Int.reduceNeg
abbrev Fz [Vs.Envs] (f:FuncId) (a:List AV) (r:AV):Prop:=Vs.Fn Tryz.prog f [] a r []
structure CK (f:FuncId) (fn:Func) (ac:aD) (nt:Nat) (rs:List ResultVar):Prop where
 o:iG Tryz.prog f fn ac
 n:fn.ntmps=nt
 r:fn.results.toList=rs
theorem ck {f:FuncId}{fn:Func}{ac:aD}{nt:Nat}{rs:List ResultVar} (h:Tryz.prog.funcs[f]? = some fn) (h1:fn.body.bind (aU Tryz.prog fn.ntmps (bV Tryz.prog))=some ac.bare:=by kernel_rfl) (h2:(fn.name != "runtime.NumGoroutine")=true:=by decide +kernel) (h3:fn.ntmps=nt:=by rfl) (h4:fn.results.toList=rs:=by rfl):CK f fn ac nt rs:=⟨⟨h,h1,h2⟩,h3,h4⟩
theorem fn0 [Vs.Envs] {f:FuncId}{fn:Func}{ac:aD}{nt:Nat}{rs:List ResultVar} (h:CK f fn ac nt rs) {args:List AV}{r:AV}
 (hw:∀C:Ctx,wpc Tryz.prog C (bV Tryz.prog) ac (tK Tryz.prog rs [] r []) (λe σ=>match e with|.ret=>tK Tryz.prog rs [] r [] σ|.exit _=>False) ⟨ini 0 args,[]⟩) (hna:Nat.ble args.length nt=true:=by rfl):Vs.Fn Tryz.prog f [] args r []:=
 h.o.fn0 Tryz.mixed h.n h.r hna hw
theorem fn1 [Vs.Envs] {f:FuncId}{fn:Func}{ac:aD}{nt:Nat}{rs:List ResultVar} (h:CK f fn ac nt rs) {hin:List Blk}{args:List AV}{r:AV}{hout':List (Option Blk)} (B:List Vs.Name) (hout:List Blk)
 (hw:∀C:Ctx,wpc Tryz.prog C (bV Tryz.prog) ac (tK Tryz.prog rs B r hout) (λe σ=>match e with|.ret=>tK Tryz.prog rs B r hout σ|.exit _=>False) ⟨ini 0 args,rX 0 hin⟩) (ho:hout'=hout.map some:=by rfl) (hna:Nat.ble args.length nt=true:=by rfl) (hnd:nodupB B=true:=by rfl) (hB:∀j,j<hin.length->B[j]? = some (.b j):=by first|(simp;done)|(intro j hj;rcases j with _|_|_|j<;>first|rfl|(simp at hj;done)|(simp at hj;omega))):Vs.Fn Tryz.prog f hin args r hout':=
 h.o.fn Tryz.mixed nt rs B hout h.n h.r ho (Nat.le_of_ble_eq_true hna) hnd hB hw
theorem dM [Vs.Envs]:iO Tryz.prog (bV Tryz.prog):=jH Tryz.mixed
namespace F
abbrev l_FnCalculated:FuncId:=3
abbrev uA:FuncId:=4
abbrev kT:FuncId:=5
abbrev dF:FuncId:=6
abbrev dE:FuncId:=7
abbrev kS:FuncId:=8
abbrev bE:FuncId:=9
abbrev dD:FuncId:=10
abbrev mD:FuncId:=11
abbrev gI:FuncId:=12
abbrev fQ:FuncId:=13
abbrev oZ:FuncId:=14
abbrev gJ:FuncId:=15
abbrev kF:FuncId:=16
abbrev l9:FuncId:=17
abbrev l8:FuncId:=18
abbrev bD:FuncId:=19
abbrev dN:FuncId:=20
abbrev dQ:FuncId:=21
abbrev bY:FuncId:=22
abbrev fB:FuncId:=23
abbrev aM:FuncId:=24
abbrev iT:FuncId:=25
abbrev lU:FuncId:=26
abbrev jV:FuncId:=27
abbrev eP:FuncId:=28
abbrev gH:FuncId:=29
abbrev aW:FuncId:=30
abbrev bF:FuncId:=31
abbrev oI:FuncId:=32
abbrev jM:FuncId:=33
abbrev dY:FuncId:=34
abbrev jN:FuncId:=35
abbrev dL:FuncId:=36
abbrev iX:FuncId:=37
abbrev fH:FuncId:=38
abbrev lL:FuncId:=39
abbrev jO:FuncId:=40
abbrev gU:FuncId:=41
abbrev lJ:FuncId:=42
abbrev qU:FuncId:=43
abbrev jL:FuncId:=44
abbrev aF:FuncId:=45
abbrev fI:FuncId:=46
abbrev eU:FuncId:=47
abbrev dZ:FuncId:=48
abbrev gQ:FuncId:=49
abbrev lM:FuncId:=50
abbrev kK:FuncId:=51
abbrev gD:FuncId:=52
abbrev kL:FuncId:=53
abbrev jG:FuncId:=54
abbrev bH:FuncId:=55
abbrev lX:FuncId:=56
abbrev jP:FuncId:=57
abbrev jQ:FuncId:=58
abbrev l6:FuncId:=59
abbrev iB:FuncId:=60
abbrev gV:FuncId:=61
abbrev cB:FuncId:=62
abbrev qE:FuncId:=63
abbrev oC:FuncId:=64
abbrev dJ:FuncId:=65
abbrev fA:FuncId:=66
abbrev fG:FuncId:=67
abbrev jT:FuncId:=68
abbrev mY:FuncId:=69
abbrev aY:FuncId:=70
abbrev eD:FuncId:=71
abbrev jX:FuncId:=72
abbrev l5:FuncId:=73
abbrev nO:FuncId:=74
abbrev jW:FuncId:=75
abbrev kE:FuncId:=76
abbrev iY:FuncId:=77
abbrev eH:FuncId:=78
abbrev dG:FuncId:=79
abbrev gG:FuncId:=81
abbrev dI:FuncId:=82
abbrev j5:FuncId:=83
abbrev nV:FuncId:=84
abbrev lZ:FuncId:=85
abbrev lS:FuncId:=86
abbrev iK:FuncId:=87
abbrev gF:FuncId:=88
abbrev mM:FuncId:=89
abbrev eZ:FuncId:=90
abbrev dC:FuncId:=91
abbrev lK:FuncId:=92
abbrev fC:FuncId:=93
abbrev kD:FuncId:=94
abbrev fF:FuncId:=95
abbrev lQ:FuncId:=96
abbrev nW:FuncId:=97
abbrev jS:FuncId:=98
abbrev nP:FuncId:=99
abbrev gZ:FuncId:=100
abbrev fP:FuncId:=101
abbrev lV:FuncId:=102
abbrev iR:FuncId:=103
abbrev kC:FuncId:=104
abbrev jF:FuncId:=105
abbrev nN:FuncId:=106
abbrev lY:FuncId:=107
abbrev dX:FuncId:=108
abbrev lW:FuncId:=109
abbrev l7:FuncId:=110
abbrev fZ:FuncId:=111
abbrev internal_strconv_small:FuncId:=112
abbrev internal_strconv_numDigits:FuncId:=113
abbrev internal_strconv_formatBase10:FuncId:=114
abbrev internal_strconv_log10Pow2:FuncId:=116
end F
theorem Ld.t26:pV Tryz.prog 26=some (true,1):=by kernel_rfl
theorem Ld.t28:pV Tryz.prog 28=some (true,2):=by kernel_rfl
theorem Ld.t117:pV Tryz.prog 117=some (true,1):=by kernel_rfl
attribute [go_sem] Ld.t26 Ld.t28 Ld.t117
def Cd.l_FnCalculated:aD:=s [mf 2] [0]<|.seq (s [m 56 0,c 57 F.uA [56]] [0,57]<|.cond 57 (s [mt 2] [2]<|.ret) .skip)<|s [m 59 0,c 60 F.kT [59],m 58 60,ex 61 58 0,ex 62 58 1,ex 63 58 2,ex 64 58 3,ex 65 58 4,o 4 (.alloc [.v (.slice none 0 0)]),o 5 (.alloc [.v (.int .i64 (0)),.v (.int .i64 (0))]),o 6
 (.alloc [.v (.int .i64 (0)),.v (.int .i64 (0))]),o 7 (.alloc [.v (.int .i64 (0)),.v (.int .i64 (0))]),m 3 61,⟨none,.store 1 4 62,none⟩,⟨none,.store 2 5 63,none⟩,⟨none,.store 2 6 64,none⟩,⟨none,.store 2 7 65,none⟩] [0,3,4,5,6,7]<|s [m 67 3,lt 68 1 4,lt 69 2 5,lt 70 2 6,lt 71 2 7,c 72
 F.dF [67,68,69,70,71],m 66 72,ex 73 66 0,ex 74 66 1,o 8 (.alloc [.v (.slice none 0 0)]),⟨none,.store 1 8 73,none⟩,m 9 74] [0,3,4,5,6,7,8,9]<|s [m 76 3,lt 77 1 4,lt 78 2 5,lt 79 2 6,lt 80 2 7,c 81 F.dE [76,77,78,79,80],m 75 81,ex 82 75 0,ex 83 75 1,o 10 (.alloc [.v
 (.slice none 0 0)]),⟨none,.store 1 10 82,none⟩,m 11 83] [0,3,4,5,6,7,8,9,10,11]<|s [m 85 0,c 86 F.kS [85],m 84 86,ex 87 84 0,ex 88 84 1,ex 89 84 2,ex 90 84 3,ex 91 84 4,o 14 (.alloc [.v (.int .i64 (0)),.v (.int .i64 (0))]),o 15 (.alloc [.v (.int .i64 (0)),.v (.int .i64 (0))]),o 16
 (.alloc [.v (.int .i64 (0)),.v (.int .i64 (0))]),m 12 87,m 13 88,⟨none,.store 2 14 89,none⟩,⟨none,.store 2 15 90,none⟩,⟨none,.store 2 16 91,none⟩] [0,3,4,5,6,7,8,9,10,11,12,13,14,15,16]<|s [m 93 12,m 94 13,lt 95 2 14,lt 96 2 15,lt 97 2 16,c 98 F.bE [93,94,95,96,97],m 92 98,ex 99 92
 0,ex 100 92 1,m 17 99,m 18 100] [0,3,4,5,6,7,8,9,10,11,12,13,14,15,16,17,18]<|s [m 102 12,m 103 13,lt 104 2 14,lt 105 2 15,lt 106 2 16,c 107 F.dD [102,103,104,105,106],m 101 107,ex 108 101 0,ex 109 101 1,m 19 108,m 20 109] [0,3,4,5,6,7,8,9,10,11,17,18,19,20]<|s [m 111 0,c 112
 F.mD [111],m 110 112,ex 113 110 0,ex 114 110 1,ex 115 110 2,ex 116 110 3,o 23 (.alloc [.v (.int .i64 (0)),.v (.int .i64 (0))]),o 24 (.alloc [.v (.int .i64 (0)),.v (.int .i64 (0))]),m 21 113,m 22 114,⟨none,.store 2 23 115,none⟩,⟨none,.store 2 24 116,none⟩]
 [0,3,4,5,6,7,8,9,10,11,17,18,19,20,21,22,23,24]<|s [m 118 21,m 119 22,lt 120 2 23,lt 121 2 24,c 122 F.gI [118,119,120,121],m 117 122,ex 123 117 0,ex 124 117 1,m 25 123,m 26 124] [0,3,4,5,6,7,8,9,10,11,17,18,19,20,21,22,23,24,25,26]<|s [m 126 21,m 127 22,lt 128 2 23,lt 129 2 24,c 130
 F.fQ [126,127,128,129],m 125 130,ex 131 125 0,ex 132 125 1,m 27 131,m 28 132] [0,3,4,5,6,7,8,9,10,11,17,18,19,20,21,22,23,24,25,26,27,28]<|s [m 134 0,c 135 F.oZ [134],m 133 135,ex 136 133 0,ex 137 133 1,ex 138 133 2,o 29 (.alloc [.v (.slice none 0 0)]),⟨none,.store 1 29
 136,none⟩,m 30 137,m 31 138] [3,4,5,6,7,8,9,10,11,17,18,19,20,21,22,23,24,25,26,27,28,29,30,31]<|s [lt 140 1 29,m 141 30,m 142 31,c 143 F.gJ [140,141,142],m 139 143,ex 144 139 0,ex 145 139 1,m 32 144,m 33 145] [3,4,5,6,7,8,9,10,11,17,18,19,20,21,22,23,24,25,26,27,28,29,30,31,32,33]<|s [lt
 147 1 29,m 148 30,m 149 31,c 150 F.kF [147,148,149],m 146 150,ex 151 146 0,ex 152 146 1,m 34 151,m 35 152] [3,4,5,6,7,8,9,10,11,17,18,19,20,21,22,23,24,25,26,27,28,29,30,31,32,33,34,35]<|.seq (s [m 153 9,m 154 11,o 155 (.bin .neq 153 154),m 156 155,⟨some 157,.load true 1 8,some
 (156,false)⟩,⟨some 158,.load true 1 10,some (156,false)⟩,⟨some 159,.call (.func F.l9) [157,158] [],some (156,false)⟩,⟨some 160,.un .not 159,some (156,false)⟩,pt 161 156 160,m 162 161,mg 163 18 162 false,mg 164 20 162 false,⟨some 165,.bin .neq 163 164,some (162,false)⟩,pt 166 162 165,m 167
 166,mg 168 17 167 false,mg 169 19 167 false,⟨some 170,.call (.func F.l8) [168,169] [],some (167,false)⟩,⟨some 171,.un .not 170,some (167,false)⟩,pt 172 167 171,m 173 172,mg 174 26 173 false,mg 175 28 173 false,⟨some 176,.bin .neq 174 175,some (173,false)⟩,pt 177 173 176,m 178 177,mg 179 25
 178 false,mg 180 27 178 false,⟨some 181,.bin .neq 179 180,some (178,false)⟩,pt 182 178 181,m 183 182,mg 184 33 183 false,mg 185 35 183 false,⟨some 186,.bin .neq 184 185,some (183,false)⟩,pt 187 183 186,m 188 187,mg 189 32 188 false,mg 190 34 188 false,⟨some 191,.bin .neq 189 190,some (188,false)⟩,pt
 192 188 191] [3,4,5,6,7,8,9,21,22,23,24,25,26,29,30,31,32,33,192]<|.cond 192 (s [mf 2] [2]<|.ret) .skip)<|.seq (s [m 193 33,en 194 193 0] [3,4,5,6,7,8,9,21,22,23,24,25,26,29,30,31,32,194]<|.cond 194 (s [lt 196 1 29,m 197 31,m 198 30,c 199 F.gJ [196,197,198],m 195 199,ex 200 195 0,ex 201
 195 1,m 36 200,m 37 201] [3,4,5,6,7,8,9,21,22,23,24,25,26,32,36,37]<|s [m 202 37,ne 203 202 0,m 204 203,mg 205 36 204 false,mg 206 32 204 false,⟨some 207,.un .neg 206,some (204,false)⟩,⟨some 208,.bin .neq 205 207,some (204,false)⟩,pt 209 204 208] [3,4,5,6,7,8,9,21,22,23,24,25,26,209]<|.cond 209 (s
 [mf 2] [2]<|.ret) .skip) .skip)<|.seq (s [m 210 26,en 211 210 0] [3,4,5,6,7,8,9,21,22,23,24,25,211]<|.cond 211 (s [mi 38 0] [3,4,5,6,7,8,9,21,22,23,24,25,38]<|.seq (s [mi 39 0] [3,4,5,6,7,8,9,21,22,23,24,25,38,39]<|.block 0 (.loop (.seq (s [m 212 39,m 213 22,ln 214 213,ls 215 212 214]
 [3,4,5,6,7,8,9,21,22,23,24,25,38,39,215]<|.cond 215 .skip (.exit 0))<|.seq (.block 1 (r [m 219 22,m 220 39,ix 221 1 219 220,lt 222 1 221,lt 223 2 23,c 224 F.bD [222,223],m 218 224,ex 225 218 0,ex 226 218 1,m 40 225,m 41 226] [3,4,5,6,7,8,9,21,22,23,24,25,38,39,40,41]
 [219,220,222,223,221,224,218,225,226,40]<|r [m 228 22,m 229 39,ix 230 1 228 229,lt 231 1 230,lt 232 2 24,c 233 F.bD [231,232],m 227 233,ex 234 227 0,ex 235 227 1,m 42 234,m 43 235] [3,4,5,6,7,8,9,21,22,23,24,25,38,39,40,41,42,43] [228,229,231,232,230,233,227,234,235,42]<|s [m 237 21,m 238
 40,m 239 42,c 240 F.dN [237,238,239],m 236 240,ex 241 236 0,ex 242 236 1,ex 243 236 2,m 44 241,m 45 242,m 46 243] [3,4,5,6,7,8,9,21,22,23,24,25,38,39,41,43,45,46]<|.seq (s [m 244 41,ne 245 244 0,m 246 245,mg 247 43 246 false,⟨some 248,.bin .neq 247 (k 0),some (246,false)⟩,pt 249 246 248,m
 250 249,mg 251 46 250 false,⟨some 252,.bin .neq 251 (k 0),some (250,false)⟩,pt 253 250 252] [3,4,5,6,7,8,9,21,22,23,24,25,38,39,45,253]<|.cond 253 (s [mf 2] [2]<|.ret) .skip)<|.region [m 254 38,m 255 45,o 256 (.bin .add 254 255),m 38 256] [3,4,5,6,7,8,9,21,22,23,24,25,38,39] []))<|.region [m 216
 39,ad 217 216 1,m 39 217] [3,4,5,6,7,8,9,21,22,23,24,25,38,39] [])))<|s [m 257 38,m 258 25,o 259 (.bin .neq 257 258)] [3,4,5,6,7,8,9,259]<|.cond 259 (s [mf 2] [2]<|.ret) .skip) .skip)<|.seq (s [m 260 9,ne 261 260 0] [3,4,5,6,7,8,261]<|.cond 261 (s [mt 2] [2]<|.ret) .skip)<|s [lt 263 1 4,lt 264 2 5,c
 265 F.bD [263,264],m 262 265,ex 266 262 0,ex 267 262 1,m 47 266,m 48 267] [3,4,6,7,8,47,48]<|s [lt 269 1 4,lt 270 2 6,c 271 F.bD [269,270],m 268 271,ex 272 268 0,ex 273 268 1,m 49 272,m 50 273] [3,7,8,47,48,49,50]<|s [m 275 3,m 276 47,m 277 49,c 278 F.dN
 [275,276,277],m 274 278,ex 279 274 0,ex 280 274 1,ex 281 274 2,m 51 279,m 52 280,m 53 281] [7,8,48,50,51,53]<|s [lt 283 1 8,lt 284 2 7,c 285 F.bD [283,284],m 282 285,ex 286 282 0,ex 287 282 1,m 54 286,m 55 287] [48,50,51,53,54,55]<|s [m 288 48,en 289 288 0,m 290 289,mg 291 50 290
 true,⟨some 292,.bin .eql 291 (k 0),some (290,true)⟩,pf 293 290 292,m 294 293,mg 295 53 294 true,⟨some 296,.bin .eql 295 (k 0),some (294,true)⟩,pf 297 294 296,m 298 297,mg 299 55 298 true,⟨some 300,.bin .eql 299 (k 0),some (298,true)⟩,pf 301 298 300,m 302 301,mg 303 54 302 true,mg 304 51 302
 true,⟨some 305,.bin .eql 303 304,some (302,true)⟩,pf 306 302 305,m 2 306] [2]<|.ret
theorem Cd.l_FnCalculated_k:CK 3 Tryz.f3 Cd.l_FnCalculated 307 [.tmp 2]:=ck Tryz.func3
def Cd.uA:aD:=s [mf 2] [0]<|s [m 3 0,ln 4 3,o 5 (.bin .gtr 4 (k 4096)),m 2 5] [2]<|.ret
theorem Cd.l_f6big_k:CK 4 Tryz.f4 Cd.uA 6 [.tmp 2]:=ck Tryz.func4
def Cd.dF:aD:=s [bx 6 1,bx 7 2,bx 8 3,bx 9 4,o 10 (.alloc [.v (.slice none 0 0)]),mi 11 0] [0,6,7,8,9,10]<|.seq (s [lt 13 1 6,c 14 F.eP [13],nt 15 14] [0,6,7,8,9,10,15]<|.cond 15 (s [o 16 (.build [.v (.slice none 0 0)] []),⟨none,.store 1 10 16,none⟩,mi 11 1] [10,11]<|.ret) .skip)<|.seq (r [m 17 0,lt 18
 1 6,c 19 F.aW [18],lt 20 2 7,lt 21 2 8,lt 22 2 9,o 23 (.bslice 2 3 [.v (.int .i64 (0)),.v (.int .i64 (0))] [(0,20),(1,21),(2,22)]),c 24 F.gH [17,19,23],m 12 24] [0,6,7,8,9,10,12] [17,18,19,20,21,22,23,24]<|s [m 25 12,ne 26 25 0] [0,6,7,8,9,10,12,26]<|.cond 26 (s [o 27
 (.build [.v (.slice none 0 0)] []),m 28 12,⟨none,.store 1 10 27,none⟩,m 11 28] [10,11]<|.ret) .skip)<|s [m 29 0,lt 30 1 6,lt 31 2 7,lt 32 2 8,lt 33 2 9,c 34 F.bF [29,30,31,32,33],ex 35 34 0,ex 36 34 1,⟨none,.store 1 10 35,none⟩,m 11 36] [10,11]<|.ret
theorem Cd.i_CalculateCard_k:CK 6 Tryz.f6 Cd.dF 37 [.cell 10 26,.tmp 11]:=ck Tryz.func6
def Cd.dE:aD:=s [bx 6 1,bx 7 2,bx 8 3,bx 9 4,o 10 (.alloc [.v (.slice none 0 0)]),mi 11 0] [0,6,7,8,9,10]<|.seq (s [c 15 F.oI [6],nt 16 15] [0,6,7,8,9,10,16]<|.cond 16 (s [o 17 (.build [.v (.slice none 0 0)] []),⟨none,.store 1 10 17,none⟩,mi 11 1] [10,11]<|.ret) .skip)<|.seq (s [m 18 0,c 19 F.jM
 [18],nt 20 19,m 21 20,⟨some 22,.load true 2 7,some (21,false)⟩,⟨some 23,.load true 2 8,some (21,false)⟩,⟨some 24,.load true 2 9,some (21,false)⟩,⟨some 25,.bslice 2 3 [.v (.int .i64 (0)),.v (.int .i64 (0))] [(0,22),(1,23),(2,24)],some (21,false)⟩,fg 26 0 6 21 false,lg 27 1 26 21 false,⟨some 28,.len
 27,some (21,false)⟩,⟨some 29,.call (.func F.dY) [25,28] [],some (21,false)⟩,⟨some 30,.un .not 29,some (21,false)⟩,pt 31 21 30] [0,6,7,8,9,10,31]<|.cond 31 (s [o 32 (.build [.v (.slice none 0 0)] []),⟨none,.store 1 10 32,none⟩,mi 11 2] [10,11]<|.ret) .skip)<|s [m 34 0,lt 35 2 7,lt 36 2
 8,lt 37 2 9,c 38 F.jN [34,6,35,36,37],m 33 38,ex 39 33 0,ex 40 33 1,ex 41 33 2,o 12 (.alloc [.v (.slice none 0 0)]),⟨none,.store 1 12 39,none⟩,m 13 40,m 14 41] [10,12,14]<|s [lt 42 1 12,m 43 14,⟨none,.store 1 10 42,none⟩,m 11 43] [10,11]<|.ret
theorem Cd.s_CalculateCard_k:CK 7 Tryz.f7 Cd.dE 44 [.cell 10 26,.tmp 11]:=ck Tryz.func7
def Cd.bE:aD:=s [bx 7 2,bx 8 3,bx 9 4,mn 10,mi 11 0] [0,1,7,8,9]<|.seq (s [m 18 1,c 19 F.iX [18],nt 20 19] [0,1,7,8,9,20]<|.cond 20 (s [mn 10,mi 11 1] [10,11]<|.ret) .skip)<|.seq (r [m 21 0,m 22 1,c 23 F.fH [22],lt 24 2 7,lt 25 2 8,lt 26 2 9,o 27 (.bslice 2 3 [.v (.int .i64 (0)),.v (.int
 .i64 (0))] [(0,24),(1,25),(2,26)]),c 28 F.gH [21,23,27],m 12 28] [0,1,7,8,9,12] [21,22,23,24,25,26,27,28]<|s [m 29 12,ne 30 29 0] [0,1,7,8,9,12,30]<|.cond 30 (s [m 31 12,mn 10,m 11 31] [10,11]<|.ret) .skip)<|.seq (.naming 13 (.region [o 32 (.bslice 1 0 [.v (.slice none 0 0)] []),m 13 32]
 [0,1,7,8,9,13] []))<|.seq (s [m 33 1,ln 34 33,mi 35 0] [0,7,8,9,13,33,34,35]<|.block 0 (.loop (s [ls 36 35 34] [0,7,8,9,13,33,34,35,36]<|.seq (.cond 36 .skip (.exit 0))<|.seq (.block 1 (s [ix 37 1 33 35,lt 38 1 37,o 15 (.alloc [.v (.slice none 0 0)]),⟨none,.store 1 15 38,none⟩]
 [0,7,8,9,13,15,33,34,35]<|s [m 40 0,lt 41 1 15,lt 42 2 7,lt 43 2 8,lt 44 2 9,c 45 F.bF [40,41,42,43,44],m 39 45,ex 46 39 0,ex 47 39 1,o 16 (.alloc [.v (.slice none 0 0)]),⟨none,.store 1 16 46,none⟩,m 17 47] [0,7,8,9,13,16,17,33,34,35]<|.seq (s [m 48 17,ne 49 48 0]
 [0,7,8,9,13,16,17,33,34,35,49]<|.cond 49 (s [m 50 17,mn 10,m 11 50] [10,11]<|.ret) .skip)<|.naming 13 (.region [m 51 13,lt 52 1 16,o 53 (.bslice 1 1 [.v (.slice none 0 0)] [(0,52)]),o 54 (.append 1 24 51 53),m 13 54] [0,7,8,9,13,33,34,35] [])))<|.region [ad 55 35 1,m 35 55] [0,7,8,9,13,33,34,35]
 [])))<|s [m 56 13,m 10 56,mi 11 0] [10,11]<|.ret
theorem Cd.i_CalculateDeck_k:CK 9 Tryz.f9 Cd.bE 57 [.tmp 10,.tmp 11]:=ck Tryz.func9
def Cd.dD:aD:=s [bx 7 2,bx 8 3,bx 9 4,mn 10,mi 11 0] [0,1,7,8,9]<|.seq (s [m 17 1,c 18 F.lL [17],nt 19 18] [0,1,7,8,9,19]<|.cond 19 (s [mn 10,mi 11 1] [10,11]<|.ret) .skip)<|.seq (r [m 20 0,c 21 F.jM [20],nt 22 21,m 23 22,⟨some 24,.load true 2 7,some (23,false)⟩,⟨some 25,.load true 2 8,some
 (23,false)⟩,⟨some 26,.load true 2 9,some (23,false)⟩,⟨some 27,.bslice 2 3 [.v (.int .i64 (0)),.v (.int .i64 (0))] [(0,24),(1,25),(2,26)],some (23,false)⟩,mg 28 1 23 false,⟨some 29,.call (.func F.jO) [28] [],some (23,false)⟩,⟨some 30,.call (.func F.dY) [27,29] [],some
 (23,false)⟩,⟨some 31,.un .not 30,some (23,false)⟩,pt 32 23 31] [0,1,7,8,9,32] [20,22,23,24,21,25,26,27,28,29,30,31,32]<|.cond 32 (s [mn 10,mi 11 2] [10,11]<|.ret) .skip)<|.seq (.naming 12 (.region [o 33 (.bslice 1 0 [.v (.slice none 0 0)] []),m 12 33] [0,1,7,8,9,12] []))<|.seq (s [mi 13 0]
 [0,1,7,8,9,12,13]<|.block 0 (.loop (.seq (s [m 34 13,m 35 1,ln 36 35,ls 37 34 36] [0,1,7,8,9,12,13,37]<|.cond 37 .skip (.exit 0))<|.seq (.block 1 (r [m 41 0,m 42 1,m 43 13,ix 44 1 42 43,lt 45 2 7,lt 46 2 8,lt 47 2 9,c 48 F.jN [41,44,45,46,47],m 40 48,ex 49 40 0,ex 50 40 1,ex 51 40 2,o 14
 (.alloc [.v (.slice none 0 0)]),⟨none,.store 1 14 49,none⟩,m 15 50,m 16 51] [0,1,7,8,9,12,13,14,16] [41,42,43,44,45,46,47,48,40,49,50,51,14,15]<|.seq (s [m 52 16,ne 53 52 0] [0,1,7,8,9,12,13,14,16,53]<|.cond 53 (s [m 54 16,mn 10,m 11 54] [10,11]<|.ret) .skip)<|.naming 12 (.region [m 55 12,lt 56 1
 14,o 57 (.bslice 1 1 [.v (.slice none 0 0)] [(0,56)]),o 58 (.append 1 24 55 57),m 12 58] [0,1,7,8,9,12,13] [])))<|.region [m 38 13,ad 39 38 1,m 13 39] [0,1,7,8,9,12,13] [])))<|s [m 59 12,m 10 59,mi 11 0] [10,11]<|.ret
theorem Cd.s_CalculateDeck_k:CK 10 Tryz.f10 Cd.dD 60 [.tmp 10,.tmp 11]:=ck Tryz.func10
def Cd.gI:aD:=s [bx 6 2,bx 7 3,mi 8 0,mi 9 0] [0,1,6,7]<|.seq (s [m 17 1,c 18 F.iX [17],nt 19 18] [0,1,6,7,19]<|.cond 19 (s [mi 8 0,mi 9 1] [8,9]<|.ret) .skip)<|.seq (r [m 20 0,m 21 1,c 22 F.fH [21],lt 23 2 6,lt 24 2 7,o 25 (.bslice 2 2 [.v (.int .i64 (0)),.v (.int .i64 (0))]
 [(0,23),(1,24)]),c 26 F.gH [20,22,25],m 10 26] [0,1,6,7,10] [20,21,22,23,24,25,26]<|s [m 27 10,ne 28 27 0] [0,1,6,7,10,28]<|.cond 28 (s [m 29 10,mi 8 0,m 9 29] [8,9]<|.ret) .skip)<|s [mi 11 0] [0,1,6,7,11]<|.seq (s [m 30 1,ln 31 30,mi 32 0] [0,6,7,11,30,31,32]<|.block 0 (.loop (s [ls 33 32
 31] [0,6,7,11,30,31,32,33]<|.seq (.cond 33 .skip (.exit 0))<|.seq (.block 1 (s [ix 34 1 30 32,lt 35 1 34,o 13 (.alloc [.v (.slice none 0 0)]),⟨none,.store 1 13 35,none⟩] [0,6,7,11,13,30,31,32]<|s [m 37 0,lt 38 1 13,lt 39 2 6,lt 40 2 7,c 41 F.gU [37,38,39,40],m 36 41,ex 42 36 0,ex 43 36
 1,ex 44 36 2,m 14 42,m 15 43,m 16 44] [0,6,7,11,15,16,30,31,32]<|.seq (s [m 45 16,ne 46 45 0] [0,6,7,11,15,16,30,31,32,46]<|.cond 46 (s [m 47 16,mi 8 0,m 9 47] [8,9]<|.ret) .skip)<|.region [m 48 11,m 49 15,o 50 (.bin .add 48 49),m 11 50] [0,6,7,11,30,31,32] []))<|.region [ad 51 32 1,m 32 51]
 [0,6,7,11,30,31,32] [])))<|s [m 52 11,m 8 52,mi 9 0] [8,9]<|.ret
theorem Cd.i_CyclesOfDeck_k:CK 12 Tryz.f12 Cd.gI 53 [.tmp 8,.tmp 9]:=ck Tryz.func12
def Cd.fQ:aD:=s [bx 6 2,bx 7 3,mi 8 0,mi 9 0] [0,1,6,7]<|.seq (s [m 18 1,c 19 F.lL [18],nt 20 19] [0,1,6,7,20]<|.cond 20 (s [mi 8 0,mi 9 1] [8,9]<|.ret) .skip)<|.seq (r [m 21 0,c 22 F.jM [21],nt 23 22,m 24 23,⟨some 25,.load true 2 6,some (24,false)⟩,⟨some 26,.load true 2 7,some
 (24,false)⟩,⟨some 27,.bslice 2 2 [.v (.int .i64 (0)),.v (.int .i64 (0))] [(0,25),(1,26)],some (24,false)⟩,mg 28 1 24 false,⟨some 29,.call (.func F.jO) [28] [],some (24,false)⟩,⟨some 30,.call (.func F.dY) [27,29] [],some (24,false)⟩,⟨some 31,.un .not 30,some (24,false)⟩,pt 32 24
 31] [0,1,6,7,32] [21,23,24,25,22,26,27,28,29,30,31,32]<|.cond 32 (s [mi 8 0,mi 9 2] [8,9]<|.ret) .skip)<|s [mi 10 0] [0,1,6,7,10]<|.seq (s [mi 11 0] [0,1,6,7,10,11]<|.block 0 (.loop (.seq (s [m 33 11,m 34 1,ln 35 34,ls 36 33 35] [0,1,6,7,10,11,36]<|.cond 36 .skip (.exit 0))<|.seq (.block 1 (r [m 40
 1,m 41 11,ix 42 1 40 41,lt 43 2 6,lt 44 2 7,c 45 F.lJ [42,43,44],m 39 45,ex 46 39 0,ex 47 39 1,ex 48 39 2,m 12 46,m 13 47,m 14 48] [0,1,6,7,10,11,12,13,14] [40,41,43,42,44,45,39,46,47,48,12,13]<|.seq (s [m 49 14,ne 50 49 0] [0,1,6,7,10,11,12,13,14,50]<|.cond 50 (s [m 51 14,mi 8 0,m 9 51]
 [8,9]<|.ret) .skip)<|s [m 53 0,m 54 12,m 55 13,c 56 F.qU [53,54,55],m 52 56,ex 57 52 0,ex 58 52 1,ex 59 52 2,m 15 57,m 16 58,m 17 59] [0,1,6,7,10,11,16,17]<|.seq (s [m 60 17,ne 61 60 0] [0,1,6,7,10,11,16,17,61]<|.cond 61 (s [m 62 17,mi 8 0,m 9 62] [8,9]<|.ret) .skip)<|.region [m 63 10,m 64
 16,o 65 (.bin .add 63 64),m 10 65] [0,1,6,7,10,11] []))<|.region [m 37 11,ad 38 37 1,m 11 38] [0,1,6,7,10,11] [])))<|s [m 66 10,m 8 66,mi 9 0] [8,9]<|.ret
theorem Cd.s_CyclesOfDeck_k:CK 13 Tryz.f13 Cd.fQ 67 [.tmp 8,.tmp 9]:=ck Tryz.func13
def Cd.gJ:aD:=s [bx 3 0,mi 6 0,mi 7 0] [1,2,3]<|.seq (s [lt 13 1 3,c 14 F.eP [13],nt 15 14] [1,2,3,15]<|.cond 15 (s [mi 6 0,mi 7 1] [6,7]<|.ret) .skip)<|.seq (s [m 16 1,ln 17 16,m 18 2,ln 19 18,o 20 (.bin .add 17 19),o 21 (.bin .gtr 20 (k 6)),m 22 21,⟨some 23,.load true 1 3,some (22,false)⟩,⟨some
 24,.call (.func F.aW) [23] [],some (22,false)⟩,mg 25 1 22 false,mg 26 2 22 false,⟨some 27,.bslice 1 2 [.v (.slice none 0 0)] [(0,25),(1,26)],some (22,false)⟩,⟨some 28,.call (.func F.fI) [27] [],some (22,false)⟩,⟨some 29,.call (.func
 F.gH) [(k 1),24,28] [],some (22,false)⟩,⟨some 30,.bin .neq 29 (k 0),some (22,false)⟩,pt 31 22 30] [1,2,3,31]<|.cond 31 (s [mi 6 0,mi 7 2] [6,7]<|.ret) .skip)<|s [mi 8 0] [1,2,3,8]<|.seq (s [m 32 1,m 33 2,o 34 (.bslice 1 2 [.v (.slice none 0 0)] [(0,32),(1,33)]),c 35
 F.fI [34],ln 36 35,mi 37 0] [1,3,8,35,36,37]<|.block 0 (.loop (s [ls 38 37 36] [1,3,8,35,36,37,38]<|.seq (.cond 38 .skip (.exit 0))<|.seq (.block 1 (s [m 39 37,ix 40 2 35 37,lt 41 2 40,o 10 (.alloc [.v (.int .i64 (0)),.v (.int .i64 (0))]),m 9 39,⟨none,.store 2 10
 41,none⟩] [1,3,8,9,10,35,36,37]<|s [lt 43 1 3,lt 44 2 10,c 45 F.eU [43,44],m 42 45,ex 46 42 0,ex 47 42 1,m 11 46,m 12 47] [1,3,8,9,11,12,35,36,37]<|.seq (s [m 48 12,nt 49 48] [1,3,8,9,11,35,36,37,49]<|.cond 49 (s [mi 6 0,mi 7 8] [6,7]<|.ret) .skip)<|.seq (s [m 50 9,m 51 1,ln 52 51,o 53
 (.bin .geq 50 52)] [1,3,8,11,35,36,37,53]<|.cond 53 (.region [m 54 11,o 55 (.un .neg 54),m 11 55] [1,3,8,11,35,36,37] []) .skip)<|.region [m 56 8,m 57 11,o 58 (.bin .add 56 57),m 8 58] [1,3,8,35,36,37] []))<|.region [ad 59 37 1,m 37 59] [1,3,8,35,36,37] [])))<|s [m 60 8,m 6 60,mi 7 0] [6,7]<|.ret
theorem Cd.i_CrossFoot_k:CK 15 Tryz.f15 Cd.gJ 61 [.tmp 6,.tmp 7]:=ck Tryz.func15
def Cd.kF:aD:=s [bx 3 0,mi 6 0,mi 7 0] [1,2,3]<|.seq (s [c 15 F.oI [3],nt 16 15] [1,2,3,16]<|.cond 16 (s [mi 6 0,mi 7 1] [6,7]<|.ret) .skip)<|.seq (s [m 17 1,ln 18 17,m 19 2,ln 20 19,o 21 (.bin .add 18 20),o 22 (.bin .gtr 21 (k 6)),m 23 22,mg 24 1 23 false,fg 25 0 3 23 false,lg 26 1 25 23 false,⟨some
 27,.len 26,some (23,false)⟩,⟨some 28,.call (.func F.dY) [24,27] [],some (23,false)⟩,⟨some 29,.un .not 28,some (23,false)⟩,pt 30 23 29,m 31 30,mg 32 2 31 false,fg 33 0 3 31 false,lg 34 1 33 31 false,⟨some 35,.len 34,some (31,false)⟩,⟨some 36,.call (.func F.dY) [32,35] [],some
 (31,false)⟩,⟨some 37,.un .not 36,some (31,false)⟩,pt 38 31 37] [1,2,3,38]<|.cond 38 (s [mi 6 0,mi 7 2] [6,7]<|.ret) .skip)<|s [mi 8 0] [1,2,3,8]<|.seq (s [mi 9 0] [1,2,3,8,9]<|.block 0 (.loop (.seq (s [m 39 9,m 40 1,ln 41 40,ls 42 39 41] [1,2,3,8,9,42]<|.cond 42 .skip (.exit 0))<|.seq (.block 1 (s [m
 46 1,m 47 9,ix 48 2 46 47,lt 49 2 48,c 50 F.gQ [3,49],c 51 F.dZ [50],m 45 51,ex 52 45 0,ex 53 45 1,m 10 52,m 11 53] [1,2,3,8,9,10,11]<|.seq (s [m 54 11,nt 55 54] [1,2,3,8,9,10,55]<|.cond 55 (s [mi 6 0,mi 7 8] [6,7]<|.ret) .skip)<|.region [m 56 8,m 57 10,o 58 (.bin .add 56 57),m
 8 58] [1,2,3,8,9] []))<|.region [m 43 9,ad 44 43 1,m 9 44] [1,2,3,8,9] [])))<|.seq (s [mi 12 0] [2,3,8,12]<|.block 2 (.loop (.seq (s [m 59 12,m 60 2,ln 61 60,ls 62 59 61] [2,3,8,12,62]<|.cond 62 .skip (.exit 2))<|.seq (.block 3 (s [m 66 2,m 67 12,ix 68 2 66 67,lt 69 2 68,c 70 F.gQ [3,69],c
 71 F.dZ [70],m 65 71,ex 72 65 0,ex 73 65 1,m 13 72,m 14 73] [2,3,8,12,13,14]<|.seq (s [m 74 14,nt 75 74] [2,3,8,12,13,75]<|.cond 75 (s [mi 6 0,mi 7 8] [6,7]<|.ret) .skip)<|.region [m 76 8,m 77 13,o 78 (.bin .sub 76 77),m 8 78] [2,3,8,12] []))<|.region [m 63 12,ad 64 63 1,m 12 64]
 [2,3,8,12] [])))<|s [m 79 8,m 6 79,mi 7 0] [6,7]<|.ret
theorem Cd.s_CrossFoot_k:CK 16 Tryz.f16 Cd.kF 80 [.tmp 6,.tmp 7]:=ck Tryz.func16
def Cd.l9:aD:=s [bx 2 0,bx 3 1,mf 4] [2,3]<|s [fa 5 0 2,lf 6 1 5,fa 7 0 3,lf 8 1 7,c 9 F.lM [6,8],m 4 9] [4]<|.ret
theorem Cd.s_SameCard_k:CK 17 Tryz.f17 Cd.l9 10 [.tmp 4]:=ck Tryz.func17
def Cd.l8:aD:=s [mf 4] [0,1]<|.seq (s [m 6 0,ln 7 6,m 8 1,ln 9 8,o 10 (.bin .neq 7 9)] [0,1,10]<|.cond 10 (s [mf 4] [4]<|.ret) .skip)<|.seq (s [mi 5 0] [0,1,5]<|.block 0 (.loop (.seq (s [m 11 5,m 12 0,ln 13 12,ls 14 11 13] [0,1,5,14]<|.cond 14 .skip (.exit 0))<|.seq (.block 1 (r [m 17 0,m 18 5,ix 19 1 17 18,fa 20
 0 19,lf 21 1 20,m 22 1,m 23 5,ix 24 1 22 23,fa 25 0 24,lf 26 1 25,c 27 F.lM [21,26],nt 28 27] [0,1,5,28] [17,18,20,21,19,22,23,24,25,26,27,28]<|.cond 28 (s [mf 4] [4]<|.ret) .skip))<|.region [m 15 5,ad 16 15 1,m 5 16] [0,1,5] [])))<|s [mt 4] [4]<|.ret
theorem Cd.s_SameDeck_k:CK 18 Tryz.f18 Cd.l8 29 [.tmp 4]:=ck Tryz.func18
def Cd.bD:aD:=s [bx 2 0,bx 3 1,mi 4 0,mi 5 0] [2,3]<|s [lt 9 1 2,lt 10 2 3,c 11 F.kK [9,10],m 6 11] [2,3,6]<|.seq (.block 0 (s [m 13 6,ne 14 13 0,m 12 14] [2,3,6,12]<|.cond 12 (s [m 15 6,mi 4 0,m 5 15] [4,5]<|.ret) (s [fa 17 1 3,lf 18 1 17,fa 19 0 3,lf 20 1 19,o 21 (.bin .sub 18 20),o 22 (.bin .gtr 21
 (k 12)),m 16 22] [2,3,16]<|.cond 16 (s [mi 4 0,mi 5 5] [4,5]<|.ret) .skip)))<|s [lt 24 1 2,lt 25 2 3,c 26 F.eU [24,25],m 23 26,ex 27 23 0,ex 28 23 1,m 7 27,m 8 28] [7,8]<|.seq (s [m 29 8,nt 30 29] [7,30]<|.cond 30 (s [mi 4 0,mi 5 8] [4,5]<|.ret) .skip)<|s [m 31 7,m 4 31,mi 5 0] [4,5]<|.ret
theorem Cd.i_NumberIn_k:CK 19 Tryz.f19 Cd.bD 32 [.tmp 4,.tmp 5]:=ck Tryz.func19
def Cd.dN:aD:=s [mi 6 0,mi 7 0,mi 8 0] [0,1,2]<|s [mi 9 0,mi 10 2,mi 11 0] [0,1,2,10,11]<|.seq (s [m 12 0] [0,1,2,10,11,12]<|.block 0 (.seq (s [en 14 12 1,m 13 14] [0,1,2,10,11,12,13]<|.cond 13 .skip (.region [en 15 12 2,m 13 15] [0,1,2,10,11,12,13] []))<|.cond 13 (.seq (s [m 16 1,c 17 F.gD [16],nt 18
 17,m 19 18,mg 20 2 19 false,⟨some 21,.call (.func F.gD) [20] [],some (19,false)⟩,⟨some 22,.un .not 21,some (19,false)⟩,pt 23 19 22] [0,1,2,10,11,23]<|.cond 23 (s [mi 6 0,mi 7 0,mi 8 2] [6,7,8]<|.ret) .skip)<|s [m 24 1,m 25 2,o 26 (.bin .add 24 25),m 9 26] [0,1,2,9,10,11]<|s [m 27 0,en 28
 27 2] [1,2,9,10,11,28]<|.cond 28 (.region [m 29 1,m 30 2,o 31 (.bin .sub 29 30),m 9 31] [9,10,11] []) .skip) (s [en 33 12 3,m 32 33] [1,2,12,32]<|.cond 32 (.region [m 35 1,m 36 2,c 37 F.kL [35,36],m 34 37,ex 38 34 0,ex 39 34 1,ex 40 34 2,m 9 38,m 10 39,m 11 40] [9,10,11] []) (s [en 42 12
 4,m 41 42] [1,2,41]<|.cond 41 (.region [m 44 1,m 45 2,c 46 F.jG [44,45],m 43 46,ex 47 43 0,ex 48 43 1,ex 49 43 2,ex 50 43 3,m 9 47,m 10 49,m 11 50] [9,10,11] []) (s [mi 6 0,mi 7 0,mi 8 2] [6,7,8]<|.ret)))))<|.seq (.block 1 (s [m 52 11,ne 53 52 0,m 51 53] [9,10,11,51]<|.cond 51 (s [m 54
 11,mi 6 0,mi 7 0,m 8 54] [6,7,8]<|.ret) (s [m 56 9,c 57 F.gD [56],nt 58 57,m 55 58] [9,10,55]<|.cond 55 (s [mi 6 0,mi 7 0,mi 8 5] [6,7,8]<|.ret) .skip)))<|s [m 59 9,m 60 10,m 6 59,m 7 60,mi 8 0] [6,7,8]<|.ret
theorem Cd.i_Calculate_k:CK 20 Tryz.f20 Cd.dN 61 [.tmp 6,.tmp 7,.tmp 8]:=ck Tryz.func20
def Cd.dQ:aD:=s [o 2 (.mv (.const (.pointer none)))] [0]<|s [m 3 0,o 4 (.build [.v (.slice none 0 0),.v (.int .i64 (0)),.v (.int .u64 (0))] [(0,1,3)]),bx 5 4,m 2 5] [2]<|.ret
theorem Cd.s_l00From_k:CK 21 Tryz.f21 Cd.dQ 6 [.tmp 2]:=ck Tryz.func21
def Cd.bY:aD:=s [mi 2 0] [0]<|.seq (s [m 3 0,o 4 (.call (.func F.aM) [3,(k 16)] [0])] [0,4]<|.cond 4 (s [m 5 0,o 6 (.bslice 1 3 [.v (.int .i64 (0))] [(0,(k 0)),(1,(k 5)),(2,(k (-1)))]),o 7 (.call (.func F.bH) [5,6] [0]),m 2 7] [2]<|.ret) .skip)<|s [m 8 0,o 9 (.call (.func
 F.aF) [8,(k 4)] [0]),o 10 (.bin .add (k 1) 9),m 2 10] [2]<|.ret
theorem Cd.s_l14DrawKind_k:CK 22 Tryz.f22 Cd.bY 11 [.tmp 2]:=ck Tryz.func22
def Cd.aM:aD:=s [mf 4] [0,1]<|s [m 5 0,m 6 1,o 7 (.call (.func F.aF) [5,6] [0]),en 8 7 0,m 4 8] [4]<|.ret
theorem Cd._s_l00Src__one_k:CK 24 Tryz.f24 Cd.aM 9 [.tmp 4]:=ck Tryz.func24
def Cd.iT:aD:=s [o 2 (.alloc [.v (.slice none 0 0)])] [0,2]<|s [m 4 0,m 5 0,o 6 (.call (.func F.aF) [5,(k 6)] [0]),o 7 (.bin .add (k 1) 6),o 8 (.call (.func F.jP) [4,7] [0]),o 3 (.alloc [.v (.slice none 0 0)]),⟨none,.store 1 3 8,none⟩] [0,2,3]<|.seq (s [m 9 0,o 10 (.call (.func
 F.aM) [9,(k 12)] [0])] [0,2,3,10]<|.cond 10 (.region [m 11 0,o 12 (.call (.func F.jQ) [11,3] [0,1])] [2,3] []) .skip)<|s [lt 13 1 3,⟨none,.store 1 2 13,none⟩] [2]<|.ret
theorem Cd.s_l03Bent_k:CK 25 Tryz.f25 Cd.iT 14 [.cell 2 26]:=ck Tryz.func25
def Cd.jV:aD:=s [o 2 (.alloc [.v (.int .i64 (0)),.v (.int .i64 (0))])] [0,2]<|.seq (s [m 3 0,o 4 (.call (.func F.aM) [3,(k 12)] [0])] [0,2,4]<|.cond 4 (s [m 5 0,o 6 (.call (.func F.l6) [5,(k 14)] [0]),⟨none,.store 2 2 6,none⟩] [2]<|.ret) .skip)<|s [m 7 0,o 8 (.call (.func
 F.aF) [7,(k 5)] [0]),o 9 (.bin .add (k 6) 8),m 10 0,o 11 (.call (.func F.aF) [10,(k 4)] [0]),o 12 (.bin .add (k 11) 11),o 13 (.build [.v (.int .i64 (0)),.v (.int .i64 (0))] [(0,1,9),(1,1,12)]),⟨none,.store 2 2 13,none⟩] [2]<|.ret
theorem Cd.s_l14To_k:CK 27 Tryz.f27 Cd.jV 14 [.cell 2 28]:=ck Tryz.func27
def Cd.eP:aD:=s [bx 1 0,mf 2] [1]<|s [lt 3 1 1,c 4 F.aW [3],c 5 F.iB [4,(k 1),(k 20)],m 6 5,fg 7 0 1 6 true,lg 8 1 7 6 true,⟨some 9,.call (.func F.gV) [8,(.func F.cB)] [],some (6,true)⟩,⟨some 10,.un .not 9,some (6,true)⟩,pf 11 6 10,m 2 11]
 [2]<|.ret
theorem Cd.i_ValidCard_k:CK 28 Tryz.f28 Cd.eP 12 [.tmp 2]:=ck Tryz.func28
def Cd.gH:aD:=s [bx 4 1,mi 6 0] [0,2,4]<|.seq (s [m 7 0,c 8 F.qE [7],nt 9 8,m 10 9,mg 11 2 10 false,⟨some 12,.mkfn F.dJ [4],some (10,false)⟩,⟨some 13,.call (.func F.oC) [11,12] [],some (10,false)⟩,pt 14 10 13] [14]<|.cond 14 (s [mi 6 2] [6]<|.ret)
 .skip)<|s [mi 6 0] [6]<|.ret
theorem Cd.i_calcCode_k:CK 29 Tryz.f29 Cd.gH 15 [.tmp 6]:=ck Tryz.func29
def Cd.aW:aD:=s [bx 1 0,mi 2 0] [1]<|s [fa 3 0 1,lf 4 1 3,c 5 F.fG [4],m 2 5] [2]<|.ret
theorem Cd._i_Card__columns_k:CK 30 Tryz.f30 Cd.aW 6 [.tmp 2]:=ck Tryz.func30
def Cd.bF:aD:=s [bx 6 1,bx 7 2,bx 8 3,bx 9 4,o 10 (.alloc [.v (.slice none 0 0)]),mi 11 0] [0,6,7,8,9,10]<|s [m 16 0,lt 17 1 6,lt 18 2 7,lt 19 2 8,c 20 F.gU [16,17,18,19],m 15 20,ex 21 15 0,ex 22 15 1,ex 23 15 2,m 12 21,m 13 22,m 14 23] [6,9,10,12,14]<|.seq (.block 0 (s [m 25 14,ne 26 25 0,m 24 26]
 [6,9,10,12,14,24]<|.cond 24 (s [o 27 (.build [.v (.slice none 0 0)] []),m 28 14,⟨none,.store 1 10 27,none⟩,m 11 28] [10,11]<|.ret) (r [m 30 12,c 31 F.mY [30],c 32 F.jT [31],fa 33 1 9,lf 34 1 33,fa 35 0 9,lf 36 1 35,o 37 (.bin .sub 34 36),o 38 (.bin .gtr 32 37),m 29 38]
 [6,9,10,12,29] [30,32,33,31,34,35,36,37,38,29]<|.cond 29 (s [o 39 (.build [.v (.slice none 0 0)] []),⟨none,.store 1 10 39,none⟩,mi 11 5] [10,11]<|.ret) (s [fa 41 0 6,lf 42 1 41,fa 43 0 9,lf 44 1 43,fa 45 1 9,lf 46 1 45,o 47 (.slc 1 42 (some 44) (some 46)),c 48 F.gV
 [47,(.func F.aY)],m 40 48] [6,9,10,12,40]<|.cond 40 (s [o 49 (.build [.v (.slice none 0 0)] []),⟨none,.store 1 10 49,none⟩,mi 11 9] [10,11]<|.ret) .skip))))<|s [lt 50 1 6,lt 51 2 9,m 52 12,c 53 F.eD [50,51,52],⟨none,.store 1 10 53,none⟩,mi 11 0] [10,11]<|.ret
theorem Cd.i_calculatedCard_k:CK 31 Tryz.f31 Cd.bF 54 [.cell 10 26,.tmp 11]:=ck Tryz.func31
def Cd.oI:aD:=s [mf 2] [0]<|.seq (s [mi 3 0] [0,3]<|.block 0 (.loop (.seq (s [m 4 3,m 5 0,nc 6 5,fa 7 0 6,lf 8 1 7,ln 9 8,ls 10 4 9] [0,3,10]<|.cond 10 .skip (.exit 0))<|.seq (.block 1 (s [m 13 0,nc 14 13,fa 15 0 14,lf 16 1 15,m 17 3,ix 18 1 16 17,lf 19 1 18,c 20 F.jX [19,(k 0),(k 4095)],nt 21 20]
 [0,3,21]<|.cond 21 (s [mf 2] [2]<|.ret) .skip))<|.region [m 11 3,ad 12 11 1,m 3 12] [0,3] [])))<|s [m 22 0,nc 23 22,fa 24 0 23,lf 25 1 24,ln 26 25,c 27 F.jX [26,(k 1),(k 20)],m 2 27] [2]<|.ret
theorem Cd.s_l02Ok_k:CK 32 Tryz.f32 Cd.oI 28 [.tmp 2]:=ck Tryz.func32
def Cd.jM:aD:=s [mf 2] [0]<|s [m 3 0,c 4 F.jX [3,(k 1),(k 4)],m 2 4] [2]<|.ret
theorem Cd.s_l14Kind_k:CK 33 Tryz.f33 Cd.jM 5 [.tmp 2]:=ck Tryz.func33
def Cd.dY:aD:=s [mf 4] [0,1]<|.seq (s [mi 5 0] [0,1,5]<|.block 0 (.loop (.seq (s [m 6 5,m 7 0,ln 8 7,ls 9 6 8] [0,1,5,9]<|.cond 9 .skip (.exit 0))<|.seq (.block 1 (r [m 12 0,m 13 5,ix 14 2 12 13,lt 15 2 14,m 16 1,c 17 F.l5 [15,16],nt 18 17,m 19 18,mg 20 0 19 false,mg 21 5 19 false,⟨some 22,.idxSl 2 20
 21,some (19,false)⟩,fg 23 1 22 19 false,lg 24 1 23 19 false,mg 25 0 19 false,mg 26 5 19 false,⟨some 27,.idxSl 2 25 26,some (19,false)⟩,fg 28 0 27 19 false,lg 29 1 28 19 false,⟨some 30,.bin .sub 24 29,some (19,false)⟩,⟨some 31,.bin .gtr 30 (k 12),some (19,false)⟩,pt 32 19 31] [0,1,5,32]
 [12,13,15,16,14,17,18,19,20,21,22,23,24,25,26,27,28,29,30,31,32]<|.cond 32 (s [mf 4] [4]<|.ret) .skip))<|.region [m 10 5,ad 11 10 1,m 5 11] [0,1,5] [])))<|s [mt 4] [4]<|.ret
theorem Cd.s_l14Fields_k:CK 34 Tryz.f34 Cd.dY 33 [.tmp 4]:=ck Tryz.func34
def Cd.jN:aD:=s [bx 7 2,bx 8 3,bx 9 4,o 10 (.alloc [.v (.slice none 0 0)]),mi 11 0,mi 12 0] [0,1,7,8,9,10]<|s [m 25 1,lt 26 2 7,lt 27 2 8,c 28 F.lJ [25,26,27],m 24 28,ex 29 24 0,ex 30 24 1,ex 31 24 2,m 13 29,m 14 30,m 15 31] [0,1,9,10,13,14,15]<|.seq (s [m 32 15,ne 33 32 0] [0,1,9,10,13,14,15,33]<|.cond
 33 (s [o 34 (.build [.v (.slice none 0 0)] []),m 35 15,⟨none,.store 1 10 34,none⟩,mi 11 0,m 12 35] [10,11,12]<|.ret) .skip)<|s [m 37 0,m 38 13,m 39 14,c 40 F.qU [37,38,39],m 36 40,ex 41 36 0,ex 42 36 1,ex 43 36 2,m 16 41,m 17 42,m 18 43] [1,9,10,16,17,18]<|.seq (s [m 44 18,ne 45 44 0]
 [1,9,10,16,17,18,45]<|.cond 45 (s [o 46 (.build [.v (.slice none 0 0)] []),m 47 18,⟨none,.store 1 10 46,none⟩,mi 11 0,m 12 47] [10,11,12]<|.ret) .skip)<|s [m 49 16,fa 50 1 9,lf 51 1 50,fa 52 0 9,lf 53 1 52,o 54 (.bin .sub 51 53),c 55 F.lX [49,54],m 48 55,ex 56 48 0,ex 57 48 1,m 19 56,m 20
 57] [1,9,10,17,19,20]<|.seq (s [m 58 20,nt 59 58] [1,9,10,17,19,59]<|.cond 59 (s [o 60 (.build [.v (.slice none 0 0)] []),⟨none,.store 1 10 60,none⟩,mi 11 0,mi 12 5] [10,11,12]<|.ret) .skip)<|s [m 61 1,c 62 F.nO [61],o 21 (.alloc [.v (.slice none 0 0)]),⟨none,.store 1 21 62,none⟩]
 [9,10,17,19,21]<|.seq (s [mi 22 0] [9,10,17,19,21,22]<|.block 0 (.loop (.seq (s [m 63 22,m 64 19,ln 65 64,ls 66 63 65] [9,10,17,19,21,22,66]<|.cond 66 .skip (.exit 0))<|.seq (.block 1 (s [fa 69 0 9,lf 70 1 69,m 71 22,o 72 (.bin .add 70 71),m 23 72] [9,10,17,19,21,22,23]<|.seq (s [fa 73 0 21,lf 74 1
 73,m 75 23,ix 76 1 74 75,lf 77 1 76,ne 78 77 0] [9,10,17,19,21,22,23,78]<|.cond 78 (s [o 79 (.build [.v (.slice none 0 0)] []),⟨none,.store 1 10 79,none⟩,mi 11 0,mi 12 9] [10,11,12]<|.ret) .skip)<|.region [fa 80 0 21,lf 81 1 80,m 82 23,m 83 19,m 84 22,ix 85 1 83 84,lf 86 1 85,ix 87 1 81
 82,⟨none,.store 1 87 86,none⟩] [9,10,17,19,21,22] [80,82,81,83,84,85,86]))<|.region [m 67 22,ad 68 67 1,m 22 68] [9,10,17,19,21,22] [])))<|s [lt 88 1 21,m 89 17,⟨none,.store 1 10 88,none⟩,m 11 89,mi 12 0] [10,11,12]<|.ret
theorem Cd.s_l14Card_k:CK 35 Tryz.f35 Cd.jN 90 [.cell 10 26,.tmp 11,.tmp 12]:=ck Tryz.func35
def Cd.dL:aD:=s [mn 2] [0]<|.seq (s [m 5 0,o 6 (.call (.func F.aM) [5,(k 12)] [0])] [0,6]<|.cond 6 (s [m 7 0,o 8 (.call (.func F.jW) [7] [0]),m 2 8] [2]<|.ret) .skip)<|.seq (.naming 3 (.region [o 9 (.bslice 1 0 [.v (.slice none 0 0)] []),m 3 9] [0,3] []))<|.seq (s [m 10 0,o 11 (.call
 (.func F.aF) [10,(k 5)] [0]),m 4 11] [0,3,4]<|.block 0 (.loop (.seq (s [m 12 4,o 13 (.bin .gtr 12 (k 0))] [0,3,4,13]<|.cond 13 .skip (.exit 0))<|.seq (.block 1 (.naming 3 (.region [m 16 3,m 17 0,o 18 (.call (.func F.fB) [17] [0]),o 19 (.bslice 1 1 [.v (.slice none 0 0)]
 [(0,18)]),o 20 (.append 1 24 16 19),m 3 20] [0,3,4] [])))<|.region [m 14 4,o 15 (.bin .sub 14 (k 1)),m 4 15] [0,3,4] [])))<|s [m 21 3,m 2 21] [2]<|.ret
theorem Cd.s_l14DrawDeck_k:CK 36 Tryz.f36 Cd.dL 22 [.tmp 2]:=ck Tryz.func36
def Cd.iX:aD:=s [mf 2] [0]<|.seq (s [m 5 0,ln 6 5,mi 7 0] [0,5,6,7]<|.block 0 (.loop (s [ls 8 7 6] [0,5,6,7,8]<|.seq (.cond 8 .skip (.exit 0))<|.seq (.block 1 (s [ix 9 1 5 7,lt 10 1 9,o 4 (.alloc [.v (.slice none 0 0)]),⟨none,.store 1 4 10,none⟩] [0,4,5,6,7]<|r [lt 11 1 4,c 12 F.eP [11],nt 13 12,m 14
 13,⟨some 15,.load true 1 4,some (14,false)⟩,⟨some 16,.call (.func F.aW) [15] [],some (14,false)⟩,mg 17 0 14 false,⟨some 18,.idxSl 1 17 (k 0),some (14,false)⟩,⟨some 19,.load true 1 18,some (14,false)⟩,⟨some 20,.call (.func F.aW) [19] [],some (14,false)⟩,⟨some 21,.bin
 .neq 16 20,some (14,false)⟩,pt 22 14 21] [0,5,6,7,22] [11,13,14,15,12,16,17,18,19,20,21,22]<|.cond 22 (s [mf 2] [2]<|.ret) .skip))<|.region [ad 23 7 1,m 7 23] [0,5,6,7] [])))<|s [m 24 0,ln 25 24,o 26 (.bin .leq 25 (k 40)),m 2 26] [2]<|.ret
theorem Cd.i_ValidDeck_k:CK 37 Tryz.f37 Cd.iX 27 [.tmp 2]:=ck Tryz.func37
def Cd.fH:aD:=s [mi 2 0] [0]<|.seq (s [m 3 0,ln 4 3,en 5 4 0] [0,5]<|.cond 5 (s [mi 2 20] [2]<|.ret) .skip)<|s [m 6 0,o 7 (.idxSl 1 6 (k 0)),lt 8 1 7,c 9 F.aW [8],m 2 9] [2]<|.ret
theorem Cd.i_deckColumns_k:CK 38 Tryz.f38 Cd.fH 10 [.tmp 2]:=ck Tryz.func38
def Cd.lL:aD:=s [mf 2] [0]<|.seq (s [mi 3 0] [0,3]<|.block 0 (.loop (.seq (s [m 4 3,m 5 0,ln 6 5,ls 7 4 6] [0,3,7]<|.cond 7 .skip (.exit 0))<|.seq (.block 1 (r [m 10 0,m 11 3,ix 12 1 10 11,c 13 F.oI [12],nt 14 13,m 15 14,mg 16 0 15 false,mg 17 3 15 false,⟨some 18,.idxSl 1 16 17,some (15,false)⟩,fg 19 0 18
 15 false,lg 20 1 19 15 false,⟨some 21,.len 20,some (15,false)⟩,mg 22 0 15 false,⟨some 23,.idxSl 1 22 (k 0),some (15,false)⟩,fg 24 0 23 15 false,lg 25 1 24 15 false,⟨some 26,.len 25,some (15,false)⟩,⟨some 27,.bin .neq 21 26,some (15,false)⟩,pt 28 15 27] [0,3,28]
 [10,11,13,14,12,15,16,17,18,19,20,21,22,23,24,25,26,27,28]<|.cond 28 (s [mf 2] [2]<|.ret) .skip))<|.region [m 8 3,ad 9 8 1,m 3 9] [0,3] [])))<|s [m 29 0,ln 30 29,o 31 (.bin .leq 30 (k 40)),m 2 31] [2]<|.ret
theorem Cd.s_l02Deck_k:CK 39 Tryz.f39 Cd.lL 32 [.tmp 2]:=ck Tryz.func39
def Cd.jO:aD:=s [mi 2 0] [0]<|.seq (s [m 3 0,ln 4 3,en 5 4 0] [0,5]<|.cond 5 (s [mi 2 20] [2]<|.ret) .skip)<|s [m 6 0,o 7 (.idxSl 1 6 (k 0)),fa 8 0 7,lf 9 1 8,ln 10 9,m 2 10] [2]<|.ret
theorem Cd.s_l07Width_k:CK 40 Tryz.f40 Cd.jO 11 [.tmp 2]:=ck Tryz.func40
def Cd.gU:aD:=s [bx 5 1,bx 6 2,bx 7 3,mi 8 0,mi 9 0,mi 10 0] [0,5,6,7]<|s [lt 16 1 5,lt 17 2 6,c 18 F.eU [16,17],m 15 18,ex 19 15 0,ex 20 15 1,m 11 19,m 12 20] [0,5,7,11,12]<|s [lt 22 1 5,lt 23 2 7,c 24 F.eU [22,23],m 21 24,ex 25 21 0,ex 26 21 1,m 13 25,m 14 26] [0,11,12,13,14]<|.seq (s [m 27
 12,nt 28 27,m 29 28,mg 30 14 29 false,⟨some 31,.un .not 30,some (29,false)⟩,pt 32 29 31] [0,11,13,32]<|.cond 32 (s [mi 8 0,mi 9 0,mi 10 8] [8,9,10]<|.ret) .skip)<|s [m 33 0,m 34 11,m 35 13,c 36 F.dN [33,34,35],ex 37 36 0,ex 38 36 1,ex 39 36 2,m 8 37,m 9 38,m 10 39] [8,9,10]<|.ret
theorem Cd.i_calculated_k:CK 41 Tryz.f41 Cd.gU 40 [.tmp 8,.tmp 9,.tmp 10]:=ck Tryz.func41
def Cd.lJ:aD:=s [bx 4 1,bx 5 2,mi 6 0,mi 7 0,mi 8 0] [0,4,5]<|s [m 14 0,lt 15 2 4,c 16 F.gQ [14,15],c 17 F.dZ [16],m 13 17,ex 18 13 0,ex 19 13 1,m 9 18,m 10 19] [0,5,9,10]<|s [m 21 0,lt 22 2 5,c 23 F.gQ [21,22],c 24 F.dZ [23],m 20 24,ex 25 20 0,ex 26 20 1,m 11 25,m 12
 26] [9,10,11,12]<|.seq (s [m 27 10,nt 28 27,m 29 28,mg 30 12 29 false,⟨some 31,.un .not 30,some (29,false)⟩,pt 32 29 31] [9,11,32]<|.cond 32 (s [mi 6 0,mi 7 0,mi 8 8] [6,7,8]<|.ret) .skip)<|s [m 33 9,m 34 11,m 6 33,m 7 34,mi 8 0] [6,7,8]<|.ret
theorem Cd.s_l14Read_k:CK 42 Tryz.f42 Cd.lJ 35 [.tmp 6,.tmp 7,.tmp 8]:=ck Tryz.func42
def Cd.qU:aD:=s [mi 6 0,mi 7 0,mi 8 0] [0,1,2]<|.seq (s [m 14 0] [0,1,2,14]<|.block 0 (s [en 16 14 3,m 15 16] [0,1,2,14,15]<|.cond 15 (s [m 17 1,m 18 2,c 19 F.kE [17,18],ex 20 19 0,ex 21 19 1,ex 22 19 2,m 6 20,m 7 21,m 8 22] [6,7,8]<|.ret) (s [en 24 14 4,m 23 24] [0,1,2,23]<|.cond 23 (s [m 26 1,m 27
 2,c 28 F.iY [26,27],m 25 28,ex 29 25 0,ex 30 25 1,ex 31 25 2,ex 32 25 3,m 9 29,m 10 30,m 11 31,m 12 32] [9,11,12]<|s [m 33 9,m 34 11,m 35 12,m 6 33,m 7 34,m 8 35] [6,7,8]<|.ret) .skip)))<|.seq (s [m 36 1,c 37 F.eH [36],nt 38 37,m 39 38,mg 40 2 39 false,⟨some 41,.call (.func
 F.eH) [40] [],some (39,false)⟩,⟨some 42,.un .not 41,some (39,false)⟩,pt 43 39 42] [0,1,2,43]<|.cond 43 (s [mi 6 0,mi 7 0,mi 8 2] [6,7,8]<|.ret) .skip)<|s [m 44 1,m 45 2,o 46 (.bin .add 44 45),m 13 46] [0,1,2,13]<|.seq (s [m 47 0,en 48 47 2] [1,2,13,48]<|.cond 48 (.region [m 49 1,m 50 2,o
 51 (.bin .sub 49 50),m 13 51] [13] []) .skip)<|.seq (s [m 52 13,c 53 F.eH [52],nt 54 53] [13,54]<|.cond 54 (s [mi 6 0,mi 7 0,mi 8 5] [6,7,8]<|.ret) .skip)<|s [m 55 13,m 6 55,mi 7 2,mi 8 0] [6,7,8]<|.ret
theorem Cd.s_l14Do_k:CK 43 Tryz.f43 Cd.qU 56 [.tmp 6,.tmp 7,.tmp 8]:=ck Tryz.func43
def Cd.jL:aD:=s [mn 2] [0]<|.seq (.naming 3 (.region [o 7 (.bslice 2 0 [.v (.int .i64 (0)),.v (.int .i64 (0))] []),m 3 7] [0,3] []))<|.seq (s [m 8 0,o 9 (.call (.func F.aF) [8,(k 3)] [0]),m 4 9] [0,3,4]<|.block 0 (.loop (.seq (s [m 10 4,o 11 (.bin .gtr 10 (k 0))] [0,3,4,11]<|.cond 11 .skip (.exit
 0))<|.seq (.block 1 (s [m 15 0,o 16 (.call (.func F.lU) [15] [0]),m 14 16,ex 17 14 0,ex 18 14 1,o 5 (.alloc [.v (.int .i64 (0)),.v (.int .i64 (0))]),o 6 (.alloc [.v (.int .i64 (0)),.v (.int .i64 (0))]),⟨none,.store 2 5 17,none⟩,⟨none,.store 2 6 18,none⟩] [0,3,4,5,6]<|.seq (s [m 19 0,o 20
 (.call (.func F.aM) [19,(k 2)] [0])] [0,3,4,5,6,20]<|.cond 20 (.region [lt 21 2 6,⟨none,.store 2 5 21,none⟩] [0,3,4,5] []) .skip)<|.naming 3 (.region [m 22 3,lt 23 2 5,o 24 (.bslice 2 1 [.v (.int .i64 (0)),.v (.int .i64 (0))] [(0,23)]),o 25 (.append 2 16 22 24),m 3 25] [0,3,4]
 [])))<|.region [m 12 4,o 13 (.bin .sub 12 (k 1)),m 4 13] [0,3,4] [])))<|s [m 26 3,m 2 26] [2]<|.ret
theorem Cd.s_l14List_k:CK 44 Tryz.f44 Cd.jL 27 [.tmp 2]:=ck Tryz.func44
def Cd.aF:aD:=s [mi 4 0] [0,1]<|.seq (s [m 6 1,o 7 (.bin .leq 6 (k 1))] [0,1,7]<|.cond 7 (s [mi 4 0] [4]<|.ret) .skip)<|s [m 8 0,o 9 (.call (.func F.dG) [8] [0]),m 5 9] [0,1,5]<|.seq (s [m 10 1,o 11 (.bin .gtr 10 (k 200))] [0,1,5,11]<|.cond 11 (.region [m 12 5,o 13 (.bin .mul 12 (k 256)),m 14 0,o
 15 (.call (.func F.dG) [14] [0]),o 16 (.bin .add 13 15),m 5 16] [1,5] []) .skip)<|s [m 17 5,m 18 1,o 19 (.bin .rem 17 18),m 4 19] [4]<|.ret
theorem Cd._s_l00Src__pick_k:CK 45 Tryz.f45 Cd.aF 20 [.tmp 4]:=ck Tryz.func45
def Cd.eU:aD:=s [bx 2 0,bx 3 1,mi 4 0,mf 5] [2,3]<|s [fa 14 0 2,lf 15 1 14,fa 16 0 3,lf 17 1 16,fa 18 1 3,lf 19 1 18,o 20 (.slc 1 15 (some 17) (some 19)),c 21 F.gG [20],m 6 21] [6]<|.seq (s [m 22 6,c 23 F.gV [22,(.func F.dI)],nt 24 23] [6,24]<|.cond 24 (s [mi
 4 0,mt 5] [4,5]<|.ret) .skip)<|s [m 25 6,ln 26 25,o 27 (.bin .sub 26 (k 1)),m 7 27] [6,7]<|r [m 28 6,m 29 7,ix 30 1 28 29,lf 31 1 30,c 32 F.j5 [(k 11)],o 33 (.bin .and 31 32),ne 34 33 0,m 8 34] [6,7,8] [28,29,31,32,30,33,34]<|r [m 35 6,m 36 7,ix 37 1 35 36,lf 38 1 37,c 39 F.j5 [(k
 11)],o 40 (.bin .andNot 38 39),ix 41 1 35 36,⟨none,.store 1 41 40,none⟩] [6,7,8] [35,36,38,39,37,40]<|s [mi 9 0,mf 10] [6,7,8,9,10]<|.seq (s [m 42 6,ln 43 42,mi 44 0] [6,7,8,9,10,42,43,44]<|.block 0 (.loop (s [ls 45 44 43] [6,7,8,9,10,42,43,44,45]<|.seq (.cond 45 .skip (.exit 0))<|.seq (.block 1 (s
 [ix 46 1 42 44,lf 47 1 46,m 12 47] [6,7,8,9,10,12,42,43,44]<|s [m 48 12,c 49 F.nV [48],m 13 49] [6,7,8,9,10,12,13,42,43,44]<|.seq (.block 2 (s [m 51 12,en 52 51 0,m 53 52,mg 54 10 53 true,⟨some 55,.un .not 54,some (53,true)⟩,pf 56 53 55,m 50 56] [6,7,8,9,10,13,42,43,44,50]<|.cond 50 (.exit
 1) (s [m 58 13,o 59 (.bin .lss 58 (k 0)),m 57 59] [6,7,8,9,13,42,43,44,57]<|.cond 57 (s [mi 4 0,mf 5] [4,5]<|.ret) .skip)))<|s [mt 10] [6,7,8,9,10,13,42,43,44]<|.region [m 60 9,o 61 (.bin .mul (k 10) 60),m 62 13,o 63 (.bin .add 61 62),m 9 63] [6,7,8,9,10,42,43,44] []))<|.region [ad 64 44 1,m 44 64]
 [6,7,8,9,10,42,43,44] [])))<|.seq (s [m 65 10,nt 66 65,m 67 66,mg 68 6 67 false,mg 69 7 67 false,⟨some 70,.idxSl 1 68 69,some (67,false)⟩,lg 71 1 70 67 false,⟨some 72,.bin .eql 71 (k 0),some (67,false)⟩,pt 73 67 72,m 74 73,mg 75 8 74 false,mg 76 75 74 false,mg 77 9 76 true,⟨some 78,.bin .eql 77 (k
 0),some (76,true)⟩,⟨some 79,.pick 76 78 (.const (.bool false)),some (74,false)⟩,pt 80 74 79] [8,9,80]<|.cond 80 (s [mi 4 0,mf 5] [4,5]<|.ret) .skip)<|.seq (s [m 81 8] [9,81]<|.cond 81 (.region [m 82 9,o 83 (.un .neg 82),m 9 83] [9] []) .skip)<|s [m 84 9,m 4 84,mt 5] [4,5]<|.ret
theorem Cd.i_numberIn_k:CK 47 Tryz.f47 Cd.eU 85 [.tmp 4,.tmp 5]:=ck Tryz.func47
def Cd.dZ:aD:=s [mi 2 0,mf 3] [0]<|s [mi 4 0] [0,4]<|s [mf 5] [0,4,5]<|s [mf 6] [0,4,5,6]<|.seq (s [mi 7 0] [0,4,5,6,7]<|.block 0 (.loop (.seq (s [m 10 7,m 11 0,ln 12 11,ls 13 10 12] [0,4,5,6,7,13]<|.cond 13 .skip (.exit 0))<|.seq (.block 1 (s [m 16 0,m 17 7,ix 18 1 16 17,lf 19 1 18,m 8 19] [0,4,5,6,7,8]<|.seq (s
 [m 20 7,m 21 0,ln 22 21,o 23 (.bin .sub 22 (k 1)),o 24 (.bin .eql 20 23),m 25 24,mg 26 8 25 true,⟨some 27,.bin .and 26 (k 2),some (25,true)⟩,⟨some 28,.bin .neq 27 (k 0),some (25,true)⟩,pf 29 25 28] [0,4,5,6,7,8,29]<|.cond 29 (s [mt 6] [0,4,5,6,7,8]<|.region [m 30 8,o 31 (.bin .sub 30 (k 2)),m 8 31]
 [0,4,5,6,7,8] []) .skip)<|.seq (s [m 32 8,en 33 32 0,m 34 33,mg 35 5 34 true,⟨some 36,.un .not 35,some (34,true)⟩,pf 37 34 36,m 38 37,mg 39 6 38 true,⟨some 40,.un .not 39,some (38,true)⟩,pf 41 38 40] [0,4,5,6,7,8,41]<|.cond 41 (.exit 1) .skip)<|s [m 42 8,c 43 F.lZ [42],m 9 43]
 [0,4,6,7,9]<|.seq (s [m 44 9,o 45 (.bin .lss 44 (k 0))] [0,4,6,7,9,45]<|.cond 45 (s [mi 2 0,mf 3] [2,3]<|.ret) .skip)<|s [mt 5] [0,4,5,6,7,9]<|.region [m 46 4,o 47 (.bin .mul (k 10) 46),m 48 9,o 49 (.bin .add 47 48),m 4 49] [0,4,5,6,7] []))<|.region [m 14 7,ad 15 14 1,m 7 15] [0,4,5,6,7] [])))<|.seq
 (s [m 50 6] [4,50]<|.cond 50 (s [m 51 4,o 52 (.un .neg 51),m 53 4,ne 54 53 0,m 2 52,m 3 54] [2,3]<|.ret) .skip)<|s [m 55 4,m 2 55,mt 3] [2,3]<|.ret
theorem Cd.s_l03Number_k:CK 48 Tryz.f48 Cd.dZ 56 [.tmp 2,.tmp 3]:=ck Tryz.func48
def Cd.gQ:aD:=s [bx 3 1,mn 4] [0,3]<|r [m 5 0,nc 6 5,fa 7 0 6,lf 8 1 7,fa 9 0 3,lf 10 1 9,fa 11 1 3,lf 12 1 11,o 13 (.slc 1 8 (some 10) (some 12)),m 4 13] [4] [5,7,8,6,9,10,11,12,13]<|.ret
theorem Cd.s_l02Part_k:CK 49 Tryz.f49 Cd.gQ 14 [.tmp 4]:=ck Tryz.func49
def Cd.lM:aD:=s [mf 4] [0,1]<|.seq (s [m 6 0,ln 7 6,m 8 1,ln 9 8,o 10 (.bin .neq 7 9)] [0,1,10]<|.cond 10 (s [mf 4] [4]<|.ret) .skip)<|.seq (s [mi 5 0] [0,1,5]<|.block 0 (.loop (.seq (s [m 11 5,m 12 0,ln 13 12,ls 14 11 13] [0,1,5,14]<|.cond 14 .skip (.exit 0))<|.seq (.block 1 (r [m 17 0,m 18 5,ix 19 1 17 18,lf 20
 1 19,m 21 1,m 22 5,ix 23 1 21 22,lf 24 1 23,o 25 (.bin .neq 20 24)] [0,1,5,25] [17,18,20,21,19,22,23,24,25]<|.cond 25 (s [mf 4] [4]<|.ret) .skip))<|.region [m 15 5,ad 16 15 1,m 5 16] [0,1,5] [])))<|s [mt 4] [4]<|.ret
theorem Cd.s_l00Same_k:CK 50 Tryz.f50 Cd.lM 26 [.tmp 4]:=ck Tryz.func50
def Cd.kK:aD:=s [bx 2 0,bx 3 1,mi 4 0] [2,3]<|.seq (.block 0 (s [lt 6 1 2,c 7 F.eP [6],nt 8 7,m 5 8] [2,3,5]<|.cond 5 (s [mi 4 1] [4]<|.ret) (r [lt 10 2 3,lt 11 1 2,c 12 F.aW [11],c 13 F.lS [10,12],nt 14 13,m 9 14] [9] [10,11,12,13,14,9]<|.cond 9 (s [mi 4 2] [4]<|.ret)
 .skip)))<|s [mi 4 0] [4]<|.ret
theorem Cd.i_fieldCode_k:CK 51 Tryz.f51 Cd.kK 15 [.tmp 4]:=ck Tryz.func51
def Cd.gD:aD:=s [mf 2] [0]<|s [m 3 0,c 4 F.iB [3,(k (-999999999999)),(k 999999999999)],m 2 4] [2]<|.ret
theorem Cd.i_isNumber_k:CK 52 Tryz.f52 Cd.gD 5 [.tmp 2]:=ck Tryz.func52
def Cd.kL:aD:=s [mi 4 0,mi 5 0,mi 6 0] [0,1]<|.seq (s [m 10 0,c 11 F.iK [10],nt 12 11,m 13 12,mg 14 1 13 false,⟨some 15,.call (.func F.iK) [14] [],some (13,false)⟩,⟨some 16,.un .not 15,some (13,false)⟩,pt 17 13 16] [0,1,17]<|.cond 17 (s [mi 4 0,mi 5 0,mi 6 2] [4,5,6]<|.ret) .skip)<|s [mi 7 1]
 [0,1,7]<|.seq (s [m 18 1,c 19 F.gF [18],ln 20 19,mi 21 0] [0,1,7,19,20,21]<|.block 0 (.loop (s [ls 22 21 20] [0,1,7,19,20,21,22]<|.seq (.cond 22 .skip (.exit 0))<|.seq (.block 1 (s [ix 23 1 19 21,lf 24 1 23,m 9 24] [0,1,7,9,19,20,21]<|s [m 25 9,ne 26 25 0] [0,1,7,19,20,21,26]<|.cond 26
 (.region [m 27 7,ad 28 27 1,m 7 28] [0,1,7,19,20,21] []) .skip))<|.region [ad 29 21 1,m 21 29] [0,1,7,19,20,21] [])))<|s [m 30 0,m 31 1,o 32 (.bin .mul 30 31),m 33 7,m 4 32,m 5 33,mi 6 0] [4,5,6]<|.ret
theorem Cd.i_ProductBy_k:CK 53 Tryz.f53 Cd.kL 34 [.tmp 4,.tmp 5,.tmp 6]:=ck Tryz.func53
def Cd.jG:aD:=s [mi 4 0,mi 5 0,mi 6 0,mi 7 0] [0,1]<|.seq (.block 0 (s [m 10 0,c 11 F.gD [10],nt 12 11,m 13 12,mg 14 1 13 false,⟨some 15,.call (.func F.iK) [14] [],some (13,false)⟩,⟨some 16,.un .not 15,some (13,false)⟩,pt 17 13 16,m 9 17] [0,1,9]<|.cond 9 (s [mi 4 0,mi 5 0,mi 6 0,mi 7 2]
 [4,5,6,7]<|.ret) (s [m 19 1,en 20 19 0,m 18 20] [0,1,18]<|.cond 18 (s [mi 4 0,mi 5 0,mi 6 0,mi 7 6] [4,5,6,7]<|.ret) .skip)))<|s [m 21 0,m 22 1,o 23 (.bin .quo 21 22),m 8 23] [0,1,8]<|r [m 24 8,m 25 0,m 26 1,o 27 (.bin .rem 25 26),m 28 8,c 29 F.mM [28],m 30 8,c 31 F.gF [30],c
 32 F.fG [31],o 33 (.bin .add 29 32),m 4 24,m 5 27,m 6 33,mi 7 0] [4,5,6,7] [24,25,26,27,28,29,30,31,32,33,4,5]<|.ret
theorem Cd.i_QuotientBy_k:CK 54 Tryz.f54 Cd.jG 34 [.tmp 4,.tmp 5,.tmp 6,.tmp 7]:=ck Tryz.func54
def Cd.bH:aD:=s [mi 4 0] [0,1]<|s [m 5 1,m 6 0,m 7 1,ln 8 7,o 9 (.call (.func F.aF) [6,8] [0]),ix 10 1 5 9,lf 11 1 10,m 4 11] [4]<|.ret
theorem Cd._s_l00Src__among_k:CK 55 Tryz.f55 Cd.bH 12 [.tmp 4]:=ck Tryz.func55
def Cd.lX:aD:=s [mn 4,mf 5] [0,1]<|s [m 9 1,o 10 (.mk 1 8 [.v (.int .i64 (0))] 9),m 6 10] [0,1,6]<|s [m 11 0,m 7 11] [0,1,6,7]<|.seq (s [m 12 0,o 13 (.bin .lss 12 (k 0))] [0,1,6,7,13]<|.cond 13 (.region [m 14 0,o 15 (.un .neg 14),m 7 15] [0,1,6,7] []) .skip)<|.seq (s [m 16 1,o 17 (.bin .sub 16 (k 1)),m 8 17]
 [0,1,6,7,8]<|.block 0 (.loop (.seq (s [m 18 8,o 19 (.bin .geq 18 (k 0))] [0,1,6,7,8,19]<|.cond 19 .skip (.exit 0))<|.seq (.block 1 (s [m 22 6,m 23 8,m 24 7,o 25 (.bin .rem 24 (k 10)),c 26 F.eZ [25],ix 27 1 22 23,⟨none,.store 1 27 26,none⟩] [0,1,6,7,8]<|.region [m 28 7,o 29 (.bin .quo 28 (k
 10)),m 7 29] [0,1,6,7,8] []))<|.region [m 20 8,o 21 (.bin .sub 20 (k 1)),m 8 21] [0,1,6,7,8] [])))<|.seq (s [m 30 0,o 31 (.bin .lss 30 (k 0))] [1,6,7,31]<|.cond 31 (.region [m 32 6,m 33 1,o 34 (.bin .sub 33 (k 1)),ix 35 1 32 34,lf 36 1 35,o 37 (.bin .or 36 (k 2)),ix 38 1 32 34,⟨none,.store 1 38
 37,none⟩] [6,7] []) .skip)<|s [m 39 6,m 40 7,en 41 40 0,m 4 39,m 5 41] [4,5]<|.ret
theorem Cd.s_l03Put_k:CK 56 Tryz.f56 Cd.lX 42 [.tmp 4,.tmp 5]:=ck Tryz.func56
def Cd.jP:aD:=s [o 4 (.alloc [.v (.slice none 0 0)])] [0,1,4]<|.seq (s [m 5 0,o 6 (.call (.func F.aM) [5,(k 8)] [0])] [0,1,4,6]<|.cond 6 (s [m 7 0,m 8 1,o 9 (.call (.func F.dC) [7,8] [0]),⟨none,.store 1 4 9,none⟩] [4]<|.ret) .skip)<|s [m 10 0,m 11 1,o 12 (.call (.func F.fC)
 [10,11] [0]),c 13 F.lK [12],⟨none,.store 1 4 13,none⟩] [4]<|.ret
theorem Cd.s_l03Draw_k:CK 57 Tryz.f57 Cd.jP 14 [.cell 4 26]:=ck Tryz.func57
def Cd.iB:aD:=s [mf 6] [0,1,2]<|s [m 7 0,m 8 1,o 9 (.bin .geq 7 8),m 10 9,mg 11 0 10 true,mg 12 2 10 true,⟨some 13,.bin .leq 11 12,some (10,true)⟩,pf 14 10 13,m 6 14] [6]<|.ret
theorem Cd.i_inside_k:CK 60 Tryz.f60 Cd.iB 15 [.tmp 6]:=ck Tryz.func60
def Cd.gV:aD:=s [mf 4] [0,1]<|s [m 5 0,m 6 1,c 7 F.fF [5,6],o 8 (.bin .geq 7 (k 0)),m 4 8] [4]<|.ret
theorem Cd.ctf_int64_k:CK 61 Tryz.f61 Cd.gV 9 [.tmp 4]:=ck Tryz.func61
def Cd.cB:aD:=s [mf 2] [0]<|s [m 3 0,c 4 F.iB [3,(k 0),(k 4095)],nt 5 4,m 2 5] [2]<|.ret
theorem Cd.i_ValidCard_1_k:CK 62 Tryz.f62 Cd.cB 6 [.tmp 2]:=ck Tryz.func62
def Cd.qE:aD:=s [mf 2] [0]<|s [m 3 0,c 4 F.iB [3,(k 1),(k 4)],m 2 4] [2]<|.ret
theorem Cd.i_isCalc_k:CK 63 Tryz.f63 Cd.qE 5 [.tmp 2]:=ck Tryz.func63
def Cd.oC:aD:=s [mf 4] [0,1]<|s [m 5 0,m 6 1,c 7 F.lQ [5,6],o 8 (.bin .geq 7 (k 0)),m 4 8] [4]<|.ret
theorem Cd.ctf_Field_k:CK 64 Tryz.f64 Cd.oC 9 [.tmp 4]:=ck Tryz.func64
def Cd.dJ:aD:=s [bx 2 0,mf 3] [1,2]<|s [lt 4 2 2,lf 5 1 1,c 6 F.fA [4,5],nt 7 6,m 3 7] [3]<|.ret
theorem Cd.i_calcCode_1_k:CK 65 Tryz.f65 Cd.dJ 8 [.tmp 3]:=ck Tryz.func65
def Cd.fA:aD:=s [bx 2 0,mf 4] [1,2]<|s [lt 5 2 2,m 6 1,c 7 F.lS [5,6],m 8 7,fg 9 1 2 8 true,lg 10 1 9 8 true,fg 11 0 2 8 true,lg 12 1 11 8 true,⟨some 13,.bin .sub 10 12,some (8,true)⟩,⟨some 14,.bin .leq 13 (k 12),some (8,true)⟩,pf 15 8 14,m 4 15] [4]<|.ret
theorem Cd.i_isNumberField_k:CK 66 Tryz.f66 Cd.fA 16 [.tmp 4]:=ck Tryz.func66
def Cd.fG:aD:=s [mi 2 0] [0]<|s [m 3 0,ln 4 3,m 2 4] [2]<|.ret
theorem Cd.i_size_int64__k:CK 67 Tryz.f67 Cd.fG 5 [.tmp 2]:=ck Tryz.func67
def Cd.jT:aD:=s [mi 2 0] [0]<|s [m 3 0,c 4 F.nW [3],o 5 (.lenS 4),m 2 5] [2]<|.ret
theorem Cd.i_digitsOf_k:CK 68 Tryz.f68 Cd.jT 6 [.tmp 2]:=ck Tryz.func68
def Cd.mY:aD:=s [mi 2 0] [0]<|s [m 3 0,m 4 0,o 5 (.un .neg 4),o 6 (.mm true 3 5),m 2 6] [2]<|.ret
theorem Cd.i_absOf_k:CK 69 Tryz.f69 Cd.mY 7 [.tmp 2]:=ck Tryz.func69
def Cd.aY:aD:=s [mf 2] [0]<|s [m 3 0,ne 4 3 0,m 2 4] [2]<|.ret
theorem Cd.i_calculatedCard_1_k:CK 70 Tryz.f70 Cd.aY 5 [.tmp 2]:=ck Tryz.func70
def Cd.eD:aD:=s [bx 3 0,bx 4 1,o 6 (.alloc [.v (.slice none 0 0)])] [2,3,4,6]<|s [lt 10 1 3,c 11 F.jS [10],m 12 2,c 13 F.mY [12],o 7 (.alloc [.v (.slice none 0 0)]),⟨none,.store 1 7 11,none⟩,m 8 13] [2,4,6,7,8]<|.seq (s [fa 14 1 4,lf 15 1 14,o 16 (.bin .sub 15 (k 1)),m 9 16] [2,4,6,7,8,9]<|.block
 0 (.loop (.seq (s [m 17 9,fa 18 0 4,lf 19 1 18,o 20 (.bin .geq 17 19)] [2,4,6,7,8,9,20]<|.cond 20 .skip (.exit 0))<|.seq (.block 1 (r [fa 23 0 7,lf 24 1 23,m 25 9,m 26 8,o 27 (.bin .rem 26 (k 10)),c 28 F.j5 [27],ix 29 1 24 25,⟨none,.store 1 29 28,none⟩] [2,4,6,7,8,9]
 [23,25,24,26,27,28]<|.region [m 30 8,o 31 (.bin .quo 30 (k 10)),m 8 31] [2,4,6,7,8,9] []))<|.region [m 21 9,o 22 (.bin .sub 21 (k 1)),m 9 22] [2,4,6,7,8,9] [])))<|.seq (s [m 32 2,o 33 (.bin .lss 32 (k 0))] [4,6,7,33]<|.cond 33 (.region [fa 34 0 7,lf 35 1 34,fa 36 1 4,lf 37 1 36,o 38 (.bin .sub 37 (k
 1)),ix 39 1 35 38,lf 40 1 39,c 41 F.j5 [(k 11)],o 42 (.bin .or 40 41),ix 43 1 35 38,⟨none,.store 1 43 42,none⟩] [6,7] [34,36,35,37,38,39,40,41,42]) .skip)<|s [lt 44 1 7,⟨none,.store 1 6 44,none⟩] [6]<|.ret
theorem Cd.i_punchNumber_k:CK 71 Tryz.f71 Cd.eD 45 [.cell 6 26]:=ck Tryz.func71
def Cd.jX:aD:=s [mf 6] [0,1,2]<|s [m 7 0,m 8 1,o 9 (.bin .geq 7 8),m 10 9,mg 11 0 10 true,mg 12 2 10 true,⟨some 13,.bin .leq 11 12,some (10,true)⟩,pf 14 10 13,m 6 14] [6]<|.ret
theorem Cd.s_l00In_k:CK 72 Tryz.f72 Cd.jX 15 [.tmp 6]:=ck Tryz.func72
def Cd.l5:aD:=s [bx 2 0,mf 4] [1,2]<|s [fa 5 0 2,lf 6 1 5,o 7 (.bin .geq 6 (k 0)),m 8 7,fg 9 0 2 8 true,lg 10 1 9 8 true,fg 11 1 2 8 true,lg 12 1 11 8 true,⟨some 13,.bin .lss 10 12,some (8,true)⟩,pf 14 8 13,m 15 14,fg 16 1 2 15 true,lg 17 1 16 15 true,mg 18 1 15 true,⟨some 19,.bin .leq 17 18,some (15,true)⟩,pf 20
 15 19,m 4 20] [4]<|.ret
theorem Cd.s_l02Field_k:CK 73 Tryz.f73 Cd.l5 21 [.tmp 4]:=ck Tryz.func73
def Cd.nO:aD:=s [o 2 (.alloc [.v (.slice none 0 0)])] [0,2]<|s [m 3 0,nc 4 3,fa 5 0 4,lf 6 1 5,c 7 F.nP [6],o 8 (.build [.v (.slice none 0 0)] [(0,1,7)]),⟨none,.store 1 2 8,none⟩] [2]<|.ret
theorem Cd.s_l02Own_k:CK 74 Tryz.f74 Cd.nO 9 [.cell 2 26]:=ck Tryz.func74
def Cd.kE:aD:=s [mi 4 0,mi 5 0,mi 6 0] [0,1]<|.seq (s [m 9 0,c 10 F.fP [9],nt 11 10,m 12 11,mg 13 1 12 false,⟨some 14,.call (.func F.fP) [13] [],some (12,false)⟩,⟨some 15,.un .not 14,some (12,false)⟩,pt 16 12 15] [0,1,16]<|.cond 16 (s [mi 4 0,mi 5 0,mi 6 2] [4,5,6]<|.ret) .skip)<|s [m 18
 0,c 19 F.iR [18],m 20 1,c 21 F.iR [20],c 22 F.lV [19,21],m 17 22,ex 23 17 0,ex 24 17 1,m 7 23,m 8 24] [0,1,7,8]<|.seq (s [m 25 0,o 26 (.bin .lss 25 (k 0)),m 27 1,o 28 (.bin .lss 27 (k 0)),o 29 (.binB .neq 26 28)] [7,8,29]<|.cond 29 (.region [m 30 7,o 31 (.un .neg 30),m
 7 31] [7,8] []) .skip)<|s [m 32 7,m 33 8,m 4 32,m 5 33,mi 6 0] [4,5,6]<|.ret
theorem Cd.s_ProductBy_k:CK 76 Tryz.f76 Cd.kE 34 [.tmp 4,.tmp 5,.tmp 6]:=ck Tryz.func76
def Cd.iY:aD:=s [mi 4 0,mi 5 0,mi 6 0,mi 7 0] [0,1]<|.seq (s [m 11 0,c 12 F.eH [11],nt 13 12,m 14 13,mg 15 1 14 false,⟨some 16,.call (.func F.fP) [15] [],some (14,false)⟩,⟨some 17,.un .not 16,some (14,false)⟩,pt 18 14 17] [0,1,18]<|.cond 18 (s [mi 4 0,mi 5 0,mi 6 0,mi 7 2] [4,5,6,7]<|.ret)
 .skip)<|.seq (s [m 19 1,en 20 19 0] [0,1,20]<|.cond 20 (s [mi 4 0,mi 5 0,mi 6 0,mi 7 6] [4,5,6,7]<|.ret) .skip)<|s [m 22 0,c 23 F.iR [22],m 24 1,c 25 F.iR [24],c 26 F.kC [23,25],m 21 26,ex 27 21 0,ex 28 21 1,ex 29 21 2,m 8 27,m 9 28,m 10 29] [0,1,8,9,10]<|.seq (s [m 30
 0,o 31 (.bin .lss 30 (k 0)),m 32 1,o 33 (.bin .lss 32 (k 0)),o 34 (.binB .neq 31 33)] [0,8,9,10,34]<|.cond 34 (.region [m 35 8,o 36 (.un .neg 35),m 8 36] [0,8,9,10] []) .skip)<|.seq (s [m 37 0,o 38 (.bin .lss 37 (k 0))] [8,9,10,38]<|.cond 38 (.region [m 39 9,o 40 (.un .neg 39),m 9 40] [8,9,10] [])
 .skip)<|s [m 41 8,m 42 9,m 43 10,m 4 41,m 5 42,m 6 43,mi 7 0] [4,5,6,7]<|.ret
theorem Cd.s_QuotientBy_k:CK 77 Tryz.f77 Cd.iY 44 [.tmp 4,.tmp 5,.tmp 6,.tmp 7]:=ck Tryz.func77
def Cd.eH:aD:=s [mf 2] [0]<|s [m 3 0,c 4 F.jX [3,(k (-999999999999)),(k 999999999999)],m 2 4] [2]<|.ret
theorem Cd.s_l14Number_k:CK 78 Tryz.f78 Cd.eH 5 [.tmp 2]:=ck Tryz.func78
def Cd.dG:aD:=s [mi 2 0] [0]<|s [mi 3 0] [0,3]<|.seq (r [m 4 0,nc 5 4,fa 6 1 5,lf 7 1 6,m 8 0,nc 9 8,fa 10 0 9,lf 11 1 10,ln 12 11,ls 13 7 12] [0,3,13] [4,6,7,5,8,9,10,11,12,13]<|.cond 13 (.region [m 14 0,nc 15 14,fa 16 0 15,lf 17 1 16,m 18 0,nc 19 18,fa 20 1 19,lf 21 1 20,ix 22 1 17 21,lf 23 1 22,o 24 (.conv .i64
 23),m 3 24] [0,3] [14,16,17,15,18,19,20,21,22,23,24]) .skip)<|s [m 25 0,nc 26 25,fa 27 1 26,lf 28 1 27,ad 29 28 1,nc 30 25,fa 31 1 30,⟨none,.store 1 31 29,none⟩] [0,3]<|s [m 32 0,m 33 0,nc 34 33,fa 35 2 34,lf 36 1 35,o 37 (.bin .mul 36 (.const (.int .u64 (6364136223846793005)))),m 38 3,o 39 (.conv
 .u64 38),o 40 (.bin .add 37 39),o 41 (.bin .add 40 (.const (.int .u64 (1442695040888963407)))),nc 42 32,fa 43 2 42,⟨none,.store 1 43 41,none⟩] [0,3]<|.seq (r [m 44 0,nc 45 44,fa 46 1 45,lf 47 1 46,m 48 0,nc 49 48,fa 50 0 49,lf 51 1 50,ln 52 51,o 53 (.bin .leq 47 52)] [0,3,53]
 [44,46,47,45,48,49,50,51,52,53]<|.cond 53 (s [m 54 3,m 2 54] [2]<|.ret) .skip)<|s [m 55 0,nc 56 55,fa 57 2 56,lf 58 1 57,o 59 (.bin .shr 58 (.const (.int .u64 (40)))),o 60 (.bin .and 59 (.const (.int .u64 (255)))),o 61 (.conv .i64 60),m 2 61] [2]<|.ret
theorem Cd._s_l00Src__next_k:CK 79 Tryz.f79 Cd.dG 62 [.tmp 2]:=ck Tryz.func79
def Cd.gG:aD:=s [mn 2] [0]<|s [o 3 (.bslice 1 0 [.v (.int .i64 (0))] []),m 4 0,o 5 (.append 1 8 3 4),m 2 5] [2]<|.ret
theorem Cd.i_copyInts_k:CK 81 Tryz.f81 Cd.gG 6 [.tmp 2]:=ck Tryz.func81
def Cd.dI:aD:=s [mf 2] [0]<|s [m 3 0,ne 4 3 0,m 2 4] [2]<|.ret
theorem Cd.i_numberIn_1_k:CK 82 Tryz.f82 Cd.dI 5 [.tmp 2]:=ck Tryz.func82
def Cd.j5:aD:=s [mi 2 0] [0]<|.seq (.block 0 (s [m 4 0,en 5 4 12,m 3 5] [0,3]<|.cond 3 (s [mi 2 1] [2]<|.ret) (s [m 7 0,en 8 7 11,m 6 8] [0,6]<|.cond 6 (s [mi 2 2] [2]<|.ret) (s [m 10 0,c 11 F.iB [10,(k 0),(k 9)],m 9 11] [0,9]<|.cond 9 (s [m 12 0,o 13 (.bin .shl (k 4) 12),m 2 13] [2]<|.ret) .skip))))<|s
 [mi 2 0] [2]<|.ret
theorem Cd.i_bitOf_k:CK 83 Tryz.f83 Cd.j5 14 [.tmp 2]:=ck Tryz.func83
def Cd.nV:aD:=s [mi 2 0] [0]<|.seq (s [mi 4 0] [0,4]<|.block 0 (.loop (s [o 5 (.bin .lss 4 (k 10))] [0,4,5]<|.seq (.cond 5 .skip (.exit 0))<|.seq (.block 1 (s [m 6 4,m 3 6] [0,3,4]<|s [m 7 3,c 8 F.j5 [7],m 9 0,o 10 (.bin .eql 8 9)] [0,3,4,10]<|.cond 10 (s [m 11 3,m 2 11] [2]<|.ret) .skip))<|.region [ad 12
 4 1,m 4 12] [0,4] [])))<|s [mi 2 (-1)] [2]<|.ret
theorem Cd.i_digitOf_k:CK 84 Tryz.f84 Cd.nV 13 [.tmp 2]:=ck Tryz.func84
def Cd.lZ:aD:=s [mi 2 0] [0]<|.seq (s [mi 3 0] [0,3]<|.block 0 (.loop (.seq (s [m 4 3,o 5 (.bin .leq 4 (k 9))] [0,3,5]<|.cond 5 .skip (.exit 0))<|.seq (.block 1 (s [m 8 0,m 9 3,c 10 F.eZ [9],o 11 (.bin .eql 8 10)] [0,3,11]<|.cond 11 (s [m 12 3,m 2 12] [2]<|.ret) .skip))<|.region [m 6 3,ad 7 6 1,m 3 7]
 [0,3] [])))<|s [mi 2 (-1)] [2]<|.ret
theorem Cd.s_l03Digit_k:CK 85 Tryz.f85 Cd.lZ 13 [.tmp 2]:=ck Tryz.func85
def Cd.lS:aD:=s [bx 2 0,mf 4] [1,2]<|s [fa 5 0 2,lf 6 1 5,o 7 (.bin .leq (k 0) 6),m 8 7,fg 9 0 2 8 true,lg 10 1 9 8 true,fg 11 1 2 8 true,lg 12 1 11 8 true,⟨some 13,.bin .lss 10 12,some (8,true)⟩,pf 14 8 13,m 15 14,fg 16 1 2 15 true,lg 17 1 16 15 true,mg 18 1 15 true,⟨some 19,.bin .leq 17 18,some (15,true)⟩,pf 20
 15 19,m 4 20] [4]<|.ret
theorem Cd.i_isField_k:CK 86 Tryz.f86 Cd.lS 21 [.tmp 4]:=ck Tryz.func86
def Cd.iK:aD:=s [mf 2] [0]<|s [m 3 0,c 4 F.iB [3,(k (-999999)),(k 999999)],m 2 4] [2]<|.ret
theorem Cd.i_isFactor_k:CK 87 Tryz.f87 Cd.iK 5 [.tmp 2]:=ck Tryz.func87
def Cd.gF:aD:=s [mn 2] [0]<|s [m 3 0,c 4 F.mY [3],c 5 F.jT [4],m 6 0,c 7 F.mY [6],c 8 F.jF [5,7],o 9 (.field false 0 1 8),m 2 9] [2]<|.ret
theorem Cd.i_digitList_k:CK 88 Tryz.f88 Cd.gF 10 [.tmp 2]:=ck Tryz.func88
def Cd.mM:aD:=s [mi 2 0] [0]<|s [mi 3 0] [0,3]<|.seq (s [m 6 0,c 7 F.gF [6],ln 8 7,mi 9 0] [3,7,8,9]<|.block 0 (.loop (s [ls 10 9 8] [3,7,8,9,10]<|.seq (.cond 10 .skip (.exit 0))<|.seq (.block 1 (s [ix 11 1 7 9,lf 12 1 11,m 5 12] [3,5,7,8,9]<|.region [m 13 3,m 14 5,o 15 (.bin .add 13 14),m 3 15]
 [3,7,8,9] []))<|.region [ad 16 9 1,m 9 16] [3,7,8,9] [])))<|s [m 17 3,m 2 17] [2]<|.ret
theorem Cd.i_digitSum_k:CK 89 Tryz.f89 Cd.mM 18 [.tmp 2]:=ck Tryz.func89
def Cd.eZ:aD:=s [mi 2 0] [0]<|.seq (.block 0 (s [m 4 0,en 5 4 12,m 3 5] [0,3]<|.cond 3 (s [mi 2 1] [2]<|.ret) (s [m 7 0,en 8 7 11,m 6 8] [0,6]<|.cond 6 (s [mi 2 2] [2]<|.ret) (s [m 10 0,c 11 F.jX [10,(k 0),(k 9)],m 9 11] [0,9]<|.cond 9 (s [m 12 0,o 13 (.conv .u64 12),o 14 (.bin .shl (k 4) 13),m 2 14]
 [2]<|.ret) .skip))))<|s [mi 2 0] [2]<|.ret
theorem Cd.s_l02Bit_k:CK 90 Tryz.f90 Cd.eZ 15 [.tmp 2]:=ck Tryz.func90
def Cd.dC:aD:=s [o 4 (.alloc [.v (.slice none 0 0)])] [0,1,4]<|s [o 8 (.build [.v (.slice none 0 0)] []),o 5 (.alloc [.v (.slice none 0 0)]),⟨none,.store 1 5 8,none⟩] [0,1,4,5]<|.seq (s [mi 6 0] [0,1,4,5,6]<|.block 0 (.loop (.seq (s [m 9 6,m 10 1,ls 11 9 10] [0,1,4,5,6,11]<|.cond 11 .skip (.exit 0))<|.seq (.block
 1 (s [m 14 0,o 15 (.call (.func F.aF) [14,(k 10)] [0]),o 16 (.conv .u64 15),o 17 (.bin .shl (k 4) 16),m 7 17] [0,1,4,5,6,7]<|.seq (s [m 18 0,o 19 (.call (.func F.aF) [18,(k 6)] [0])] [0,1,4,5,6,7,19]<|.block 2 (s [en 21 19 0,m 20 21] [0,1,4,5,6,7,19,20]<|.cond 20
 (.region [mi 7 0] [0,1,4,5,6,7] []) (s [en 23 19 1,m 22 23] [0,1,4,5,6,7,19,22]<|.cond 22 (s [m 24 0,o 25 (.call (.func F.aF) [24,(k 3)] [0]),o 26 (.conv .u64 25),o 27 (.bin .shl (k 1) 26),m 7 27] [0,1,4,5,6,7]<|.region [m 28 7,m 29 0,o 30 (.call (.func F.aF) [29,(k
 9)] [0]),o 31 (.conv .u64 30),o 32 (.bin .shl (k 8) 31),o 33 (.bin .or 28 32),m 7 33] [0,1,4,5,6,7] []) (s [en 35 19 2,m 34 35] [0,1,4,5,6,7,34]<|.cond 34 (.region [m 36 0,o 37 (.call (.func F.aF) [36,(k 4096)] [0]),m 7 37] [0,1,4,5,6,7] []) .skip))))<|.region [fa 38 0 5,lf 39 1 38,m
 40 7,o 41 (.bslice 1 1 [.v (.int .i64 (0))] [(0,40)]),o 42 (.append 1 8 39 41),fa 43 0 5,⟨none,.store 1 43 42,none⟩] [0,1,4,5,6] []))<|.region [m 12 6,ad 13 12 1,m 6 13] [0,1,4,5,6] [])))<|s [lt 44 1 5,⟨none,.store 1 4 44,none⟩] [4]<|.ret
theorem Cd.s_l02Draw_k:CK 91 Tryz.f91 Cd.dC 45 [.cell 4 26]:=ck Tryz.func91
def Cd.lK:aD:=s [o 2 (.alloc [.v (.slice none 0 0)])] [0,2]<|s [o 5 (.build [.v (.slice none 0 0)] []),o 3 (.alloc [.v (.slice none 0 0)]),⟨none,.store 1 3 5,none⟩] [0,2,3]<|.seq (s [mi 4 0] [0,2,3,4]<|.block 0 (.loop (.seq (s [m 6 4,m 7 0,o 8 (.lenS 7),ls 9 6 8] [0,2,3,4,9]<|.cond 9 .skip (.exit 0))<|.seq (.block
 1 (.region [fa 12 0 3,lf 13 1 12,m 14 0,m 15 4,o 16 (.idxStr 14 15),c 17 F.nN [16],o 18 (.bslice 1 1 [.v (.int .i64 (0))] [(0,17)]),o 19 (.append 1 8 13 18),fa 20 0 3,⟨none,.store 1 20 19,none⟩] [0,2,3,4] [12,14,13,15,16,17,18,19]))<|.region [m 10 4,ad 11 10 1,m 4 11] [0,2,3,4] [])))<|s [lt
 21 1 3,⟨none,.store 1 2 21,none⟩] [2]<|.ret
theorem Cd.s_l03Card_k:CK 92 Tryz.f92 Cd.lK 22 [.cell 2 26]:=ck Tryz.func92
def Cd.fC:aD:=s [o 4 (.mv (.const (.string ⟨#[]⟩)))] [0,1]<|s [c 8 F.lY [],m 5 8] [0,1,5]<|.seq (.naming 6 (.region [o 9 (.bslice 1 0 [.v (.int .u8 (0))] []),m 6 9] [0,1,5,6] []))<|.seq (s [mi 7 0] [0,1,5,6,7]<|.block 0 (.loop (.seq (s [m 10 7,m 11 1,ls 12 10 11] [0,1,5,6,7,12]<|.cond 12 .skip (.exit
 0))<|.seq (.block 1 (s [m 15 0,o 16 (.call (.func F.aM) [15,(k 3)] [0])] [0,1,5,6,7,16]<|.cond 16 (.naming 6 (.region [m 17 6,m 18 5,m 19 0,m 20 5,o 21 (.lenS 20),o 22 (.call (.func F.aF) [19,21] [0]),o 23 (.idxStr 18 22),o 24 (.bslice 1 1 [.v (.int .u8 (0))]
 [(0,23)]),o 25 (.append 1 1 17 24),m 6 25] [0,1,5,6,7] [])) (.naming 6 (.region [m 26 6,m 27 0,o 28 (.call (.func F.aF) [27,(k 7)] [0]),o 29 (.idxStr (.const (.string ⟨#[65,66,48,49,32,74,90]⟩)) 28),o 30 (.bslice 1 1 [.v (.int .u8 (0))] [(0,29)]),o 31 (.append 1 1 26 30),m 6 31]
 [0,1,5,6,7] []))))<|.region [m 13 7,ad 14 13 1,m 7 14] [0,1,5,6,7] [])))<|s [m 32 6,o 33 (.b2s 32),m 4 33] [4]<|.ret
theorem Cd.s_l03DrawText_k:CK 93 Tryz.f93 Cd.fC 34 [.tmp 4]:=ck Tryz.func93
def Cd.kD:aD:=s [mi 4 0] [0,1]<|.seq (s [m 5 0,m 6 1,o 7 (.bin .gtr 5 6)] [0,1,7]<|.cond 7 (s [m 8 0,m 4 8] [4]<|.ret) .skip)<|s [m 9 1,m 4 9] [4]<|.ret
theorem Cd.s_l00Max_k:CK 94 Tryz.f94 Cd.kD 10 [.tmp 4]:=ck Tryz.func94
def Cd.fF:aD:=s [mi 4 0] [0,1]<|.seq (s [m 6 0,ln 7 6,mi 8 0] [0,1,7,8]<|.block 0 (.loop (s [ls 9 8 7] [0,1,7,8,9]<|.seq (.cond 9 .skip (.exit 0))<|.seq (.block 1 (s [m 10 8,m 5 10] [0,1,5,7,8]<|s [m 11 1,m 12 0,m 13 5,ix 14 1 12 13,lf 15 1 14,o 16 (.call 11 [15] [])] [0,1,5,7,8,16]<|.cond 16 (s [m 17 5,m 4 17]
 [4]<|.ret) .skip))<|.region [ad 18 8 1,m 8 18] [0,1,7,8] [])))<|s [mi 4 (-1)] [4]<|.ret
theorem Cd.ixf_int64_k:CK 95 Tryz.f95 Cd.fF 19 [.tmp 4]:=ck Tryz.func95
def Cd.lQ:aD:=s [mi 4 0] [0,1]<|.seq (s [m 6 0,ln 7 6,mi 8 0] [0,1,7,8]<|.block 0 (.loop (s [ls 9 8 7] [0,1,7,8,9]<|.seq (.cond 9 .skip (.exit 0))<|.seq (.block 1 (s [m 10 8,m 5 10] [0,1,5,7,8]<|s [m 11 1,m 12 0,m 13 5,ix 14 2 12 13,lt 15 2 14,o 16 (.call 11 [15] [])] [0,1,5,7,8,16]<|.cond 16 (s [m 17 5,m 4 17]
 [4]<|.ret) .skip))<|.region [ad 18 8 1,m 8 18] [0,1,7,8] [])))<|s [mi 4 (-1)] [4]<|.ret
theorem Cd.ixf_Field_k:CK 96 Tryz.f96 Cd.lQ 19 [.tmp 4]:=ck Tryz.func96
def Cd.nW:aD:=s [o 2 (.mv (.const (.string ⟨#[]⟩)))] [0]<|s [m 3 0,c 4 F.dX [3,(k 10)],m 2 4] [2]<|.ret
theorem Cd.i_Decimal_k:CK 97 Tryz.f97 Cd.nW 5 [.tmp 2]:=ck Tryz.func97
def Cd.jS:aD:=s [bx 1 0,o 2 (.alloc [.v (.slice none 0 0)])] [1,2]<|s [fa 3 0 1,lf 4 1 3,c 5 F.gG [4],o 6 (.build [.v (.slice none 0 0)] [(0,1,5)]),⟨none,.store 1 2 6,none⟩] [2]<|.ret
theorem Cd.i_newCard_k:CK 98 Tryz.f98 Cd.jS 7 [.cell 2 26]:=ck Tryz.func98
def Cd.nP:aD:=s [mn 2] [0]<|s [o 3 (.bslice 1 0 [.v (.int .i64 (0))] []),m 4 0,o 5 (.append 1 8 3 4),m 2 5] [2]<|.ret
theorem Cd.s_l00Own_k:CK 99 Tryz.f99 Cd.nP 6 [.tmp 2]:=ck Tryz.func99
def Cd.fP:aD:=s [mf 2] [0]<|s [m 3 0,c 4 F.jX [3,(k (-999999)),(k 999999)],m 2 4] [2]<|.ret
theorem Cd.s_l14Factor_k:CK 101 Tryz.f101 Cd.fP 5 [.tmp 2]:=ck Tryz.func101
def Cd.lV:aD:=s [mi 4 0,mi 5 0] [0,1]<|s [mi 6 0] [0,1,6]<|s [mi 7 1] [0,1,6,7]<|s [mi 8 1] [0,1,6,7,8]<|.seq (.block 0 (.loop (.seq (s [m 11 1,o 12 (.bin .gtr 11 (k 0))] [0,1,6,7,8,12]<|.cond 12 .skip (.exit 0))<|.seq (.block 1 (s [m 16 0,m 17 1,o 18 (.bin .rem 17 (k 10)),c 19 F.lW [16,18],m 15 19,ex
 20 15 0,ex 21 15 1,m 9 20,m 10 21] [0,1,6,7,8,9,10]<|s [m 22 6,m 23 9,m 24 7,o 25 (.bin .mul 23 24),m 26 10,m 27 7,o 28 (.bin .mul 26 27),o 29 (.bin .mul 28 (k 10)),o 30 (.bin .add 25 29),o 31 (.bin .add 22 30),m 6 31] [0,1,6,7,8]<|s [m 32 7,o 33 (.bin .mul 32 (k 10)),m 7 33] [0,1,6,7,8]<|s [m 34 1,o
 35 (.bin .rem 34 (k 10)),o 36 (.bin .gtr 35 (k 0))] [0,1,6,7,8,36]<|.cond 36 (.region [m 37 8,ad 38 37 1,m 8 38] [0,1,6,7,8] []) .skip))<|.region [m 13 1,o 14 (.bin .quo 13 (k 10)),m 1 14] [0,1,6,7,8] [])))<|s [m 39 6,m 40 8,m 4 39,m 5 40] [4,5]<|.ret
theorem Cd.s_l14Times_k:CK 102 Tryz.f102 Cd.lV 41 [.tmp 4,.tmp 5]:=ck Tryz.func102
def Cd.iR:aD:=s [mi 2 0] [0]<|s [m 3 0,m 4 0,o 5 (.un .neg 4),c 6 F.kD [3,5],m 2 6] [2]<|.ret
theorem Cd.s_l14Size_k:CK 103 Tryz.f103 Cd.iR 7 [.tmp 2]:=ck Tryz.func103
def Cd.kC:aD:=s [mi 4 0,mi 5 0,mi 6 0] [0,1]<|s [mi 7 1] [0,1,7]<|.seq (.block 0 (.loop (.seq (s [m 11 0,m 12 1,o 13 (.bin .quo 11 12),m 14 7,o 15 (.bin .mul (k 10) 14),o 16 (.bin .geq 13 15)] [0,1,7,16]<|.cond 16 .skip (.exit 0))<|.block 1 (.region [m 17 7,o 18 (.bin .mul 17 (k 10)),m 7 18] [0,1,7] []))))<|s [mi
 8 0] [0,1,7,8]<|s [mi 9 0] [0,1,7,8,9]<|.seq (.block 2 (.loop (.seq (s [m 19 7,o 20 (.bin .gtr 19 (k 0))] [0,1,7,8,9,20]<|.cond 20 .skip (.exit 2))<|.seq (.block 3 (s [m 23 0,m 24 1,m 25 7,o 26 (.bin .mul 24 25),o 27 (.bin .quo 23 26),m 10 27] [0,1,7,8,9,10]<|s [m 28 0,m 29 10,m 30 1,o 31 (.bin .mul
 29 30),m 32 7,o 33 (.bin .mul 31 32),o 34 (.bin .sub 28 33),m 0 34] [0,1,7,8,9,10]<|s [m 35 8,o 36 (.bin .mul (k 10) 35),m 37 10,o 38 (.bin .add 36 37),m 8 38] [0,1,7,8,9,10]<|.region [m 39 9,m 40 10,ad 41 40 1,o 42 (.bin .add 39 41),m 9 42] [0,1,7,8,9] []))<|.region [m 21 7,o 22 (.bin .quo 21 (k
 10)),m 7 22] [0,1,7,8,9] [])))<|s [m 43 8,m 44 0,m 45 9,m 4 43,m 5 44,m 6 45] [4,5,6]<|.ret
theorem Cd.s_l14Divide_k:CK 104 Tryz.f104 Cd.kC 46 [.tmp 4,.tmp 5,.tmp 6]:=ck Tryz.func104
def Cd.jF:aD:=s [o 4 (.alloc [.v (.slice none 0 0)])] [0,1,4]<|s [o 6 (.bslice 1 0 [.v (.int .i64 (0))] []),o 7 (.build [.v (.slice none 0 0)] [(0,1,6)]),o 5 (.alloc [.v (.slice none 0 0)]),⟨none,.store 1 5 7,none⟩] [0,1,4,5]<|.seq (s [m 8 0,mi 9 0] [1,4,5,8,9]<|.block 0 (.loop (s [ls 10 9 8] [1,4,5,8,9,10]<|.seq
 (.cond 10 .skip (.exit 0))<|.seq (.block 1 (s [fa 11 0 5,lf 12 1 11,m 13 1,o 14 (.bin .rem 13 (k 10)),o 15 (.bslice 1 1 [.v (.int .i64 (0))] [(0,14)]),o 16 (.append 1 8 12 15),fa 17 0 5,⟨none,.store 1 17 16,none⟩] [1,4,5,8,9]<|.region [m 18 1,o 19 (.bin .quo 18 (k 10)),m 1 19] [1,4,5,8,9]
 []))<|.region [ad 20 9 1,m 9 20] [1,4,5,8,9] [])))<|s [lt 21 1 5,⟨none,.store 1 4 21,none⟩] [4]<|.ret
theorem Cd.i_wheelsShow_k:CK 105 Tryz.f105 Cd.jF 22 [.cell 4 117]:=ck Tryz.func105
def Cd.nN:aD:=s [mi 2 0] [0]<|s [m 4 0,o 5 (.conv .i64 4),m 3 5] [0,3]<|.seq (.block 0 (s [m 7 0,o 8 (.bin .eql 7 (.const (.int .u8 (32)))),m 6 8] [0,3,6]<|.cond 6 (s [mi 2 0] [2]<|.ret) (s [m 10 0,o 11 (.bin .eql 10 (.const (.int .u8 (38)))),m 9 11] [0,3,9]<|.cond 9 (s [mi 2 1] [2]<|.ret) (s [m 13 0,o 14 (.bin
 .eql 13 (.const (.int .u8 (45)))),m 12 14] [0,3,12]<|.cond 12 (s [mi 2 2] [2]<|.ret) (s [m 16 0,o 17 (.bin .eql 16 (.const (.int .u8 (47)))),m 15 17] [0,3,15]<|.cond 15 (s [c 18 F.eZ [(k 1)],o 19 (.bin .or (k 4) 18),m 2 19] [2]<|.ret) (s [m 21 0,c 22 F.l7 [21],m 20 22]
 [0,3,20]<|.cond 20 (s [m 23 3,o 24 (.bin .sub 23 (k 48)),c 25 F.eZ [24],m 2 25] [2]<|.ret) (s [m 27 0,o 28 (.bin .geq 27 (.const (.int .u8 (65)))),m 29 28,mg 30 0 29 true,⟨some 31,.bin .leq 30 (.const (.int .u8 (73))),some (29,true)⟩,pf 32 29 31,m 26 32] [0,3,26]<|.cond 26 (s [m 33 3,o 34
 (.bin .sub 33 (k 65)),ad 35 34 1,c 36 F.eZ [35],o 37 (.bin .or (k 1) 36),m 2 37] [2]<|.ret) (s [m 39 0,o 40 (.bin .geq 39 (.const (.int .u8 (74)))),m 41 40,mg 42 0 41 true,⟨some 43,.bin .leq 42 (.const (.int .u8 (82))),some (41,true)⟩,pf 44 41 43,m 38 44] [0,3,38]<|.cond 38 (s [m 45 3,o 46
 (.bin .sub 45 (k 74)),ad 47 46 1,c 48 F.eZ [47],o 49 (.bin .or (k 2) 48),m 2 49] [2]<|.ret) (s [m 51 0,o 52 (.bin .geq 51 (.const (.int .u8 (83)))),m 53 52,mg 54 0 53 true,⟨some 55,.bin .leq 54 (.const (.int .u8 (90))),some (53,true)⟩,pf 56 53 55,m 50 56] [3,50]<|.cond 50 (s [m 57 3,o 58
 (.bin .sub 57 (k 83)),ad 59 58 2,c 60 F.eZ [59],o 61 (.bin .or (k 4) 60),m 2 61] [2]<|.ret) .skip)))))))))<|s [mi 2 (-1)] [2]<|.ret
theorem Cd.s_l03Code_k:CK 106 Tryz.f106 Cd.nN 62 [.tmp 2]:=ck Tryz.func106
def Cd.lY:aD:=s [o 0 (.mv (.const (.string ⟨#[]⟩)))] []<|s [o 0 (.mv (.const (.string ⟨#[32,38,65,66,67,68,69,70,71,72,73,45,74,75,76,77,78,79,80,81,82,47,83,84,85,86,87,88,89,90,48,49,50,51,52,53,54,55,56,57]⟩)))] [0]<|.ret
theorem Cd.s_l03Order_k:CK 107 Tryz.f107 Cd.lY 1 [.tmp 0]:=ck Tryz.func107
def Cd.dX:aD:=s [o 4 (.mv (.const (.string ⟨#[]⟩)))] [0,1]<|s [m 5 0,m 6 1,c 7 F.fZ [5,6],m 4 7] [4]<|.ret
theorem Cd.strconv_FormatInt_k:CK 108 Tryz.f108 Cd.dX 8 [.tmp 4]:=ck Tryz.func108
def Cd.lW:aD:=s [mi 4 0,mi 5 0] [0,1]<|s [mi 6 0] [0,1,6]<|s [mi 7 0] [0,1,6,7]<|s [mi 8 1] [0,1,6,7,8]<|.seq (.block 0 (.loop (.seq (s [m 10 0,o 11 (.bin .gtr 10 (k 0))] [0,1,6,7,8,11]<|.cond 11 .skip (.exit 0))<|.seq (.block 1 (s [m 14 0,o 15 (.bin .rem 14 (k 10)),m 16 1,o 17 (.bin .mul 15 16),m 9 17]
 [0,1,6,7,8,9]<|s [m 18 6,m 19 9,o 20 (.bin .rem 19 (k 10)),m 21 8,o 22 (.bin .mul 20 21),o 23 (.bin .add 18 22),m 6 23] [0,1,6,7,8,9]<|s [m 24 7,m 25 9,o 26 (.bin .quo 25 (k 10)),m 27 8,o 28 (.bin .mul 26 27),o 29 (.bin .add 24 28),m 7 29] [0,1,6,7,8]<|.region [m 30 8,o 31 (.bin .mul 30 (k 10)),m 8
 31] [0,1,6,7,8] []))<|.region [m 12 0,o 13 (.bin .quo 12 (k 10)),m 0 13] [0,1,6,7,8] [])))<|s [m 32 6,m 33 7,m 4 32,m 5 33] [4,5]<|.ret
theorem Cd.s_l14Parts_k:CK 109 Tryz.f109 Cd.lW 34 [.tmp 4,.tmp 5]:=ck Tryz.func109
def Cd.l7:aD:=s [mf 2] [0]<|s [m 3 0,o 4 (.bin .geq 3 (.const (.int .u8 (48)))),m 5 4,mg 6 0 5 true,⟨some 7,.bin .leq 6 (.const (.int .u8 (57))),some (5,true)⟩,pf 8 5 7,m 2 8] [2]<|.ret
theorem Cd.s_l01Digit_k:CK 110 Tryz.f110 Cd.l7 9 [.tmp 2]:=ck Tryz.func110
attribute [go_sem] Cd.l_FnCalculated Cd.uA Cd.dF Cd.dE Cd.bE Cd.dD Cd.gI Cd.fQ Cd.gJ Cd.kF Cd.l9 Cd.l8 Cd.bD Cd.dN Cd.dQ Cd.bY Cd.aM Cd.iT Cd.jV Cd.eP Cd.gH Cd.aW Cd.bF Cd.oI Cd.jM Cd.dY Cd.jN Cd.dL Cd.iX Cd.fH Cd.lL Cd.jO Cd.gU Cd.lJ Cd.qU Cd.jL Cd.aF Cd.eU Cd.dZ Cd.gQ Cd.lM Cd.kK Cd.gD Cd.kL Cd.jG Cd.bH Cd.lX Cd.jP Cd.iB Cd.gV Cd.cB Cd.qE Cd.oC Cd.dJ Cd.fA Cd.fG Cd.jT Cd.mY Cd.aY Cd.eD Cd.jX Cd.l5 Cd.nO Cd.kE Cd.iY Cd.eH Cd.dG Cd.gG Cd.dI Cd.j5 Cd.nV Cd.lZ Cd.lS Cd.iK Cd.gF Cd.mM Cd.eZ Cd.dC Cd.lK Cd.fC Cd.kD Cd.fF Cd.lQ Cd.nW Cd.jS Cd.nP Cd.fP Cd.lV Cd.iR Cd.kC Cd.jF Cd.nN Cd.lY Cd.dX Cd.lW Cd.l7
end Go.Proofs.YtfoddghhlagenaaGreatDoor
