/- Two decks, a field and a key that are drawn. -/
import Derived.Test.YtmiiohemehacjaaGreatDoorVsI
import Derived.Test.YtmiiohemehacjaaGreatDoorXwGb
import Derived.Test.YtmiiohemehacjaaGreatDoorXwBk
import Derived.Test.YtmiiohemehacjaaGreatDoorXwBb
import Derived.Test.YtmiiohemehacjaaGreatDoorXwBg
import Derived.Test.YtmiiohemehacjaaGreatDoorXwSm
import Derived.Test.YtmiiohemehacjaaGreatDoorVuX
set_option linter.all false
set_option maxHeartbeats 8000000
namespace Go.Vs
variable {P:Program}{C:Ctx}
variable [I:Envs]
theorem oC.via {dr:Nat->Array Oper->Option (List Nat)}{ac:aF}{N:St->Prop}{E:kT->St->Prop}{σ τ L:St} (H:LeL σ τ) (h:oC P C dr ac (fun σ'=>LeL σ' L) (λ_ _=>False) τ) (M:N L):oC P C dr ac N E σ:=by
 intro c Q a w S ρ κ O G U V J;exact h c Q a w S ρ κ O (λa w u=>by obtain⟨S',ρ',κ',F⟩:=u.le;exact G a w ⟨L,S',ρ',κ',M,F⟩) (λi a w u=>u.no.elim) (λa w u=>u.no.elim) (J.le H)
end Go.Vs
namespace Go.Proofs.YtmiiohemehacjaaGreatDoor
open Go.Vs
section
variable [Vs.Tab 1 Vs.powP]
attribute [local irreducible] Vs.Fn nxV nxS pkV pkS ptN crd dW dtF lH run wO stC iU bR alg caC aBO
attribute [local go_sem] cFd
theorem zX (fr to:Int) (o:Off) (O:fC o) (u:List Stp) (hz:∀x,x∈u->x.text.size<=1048576) (Z:u.length<=1048576) (V:caC fr to o u=0):Vs.Fn Tryz.prog F.dA [] [.agg (cO o),.sl 9 (E cS u),.agg (cFd fr to)] (.tup [.loc (.b 0) 0 (alg fr to o u).1.length,.v (.int .i64 0)]) [some (.arr 3 (E cCt (alg fr to o u).1) false)]:=by
 obtain⟨M,h2⟩:=aH1 V;have L:=aCs fr to o O;rw[aMn M] at L;obtain⟨J,H,Y⟩:=aDo M;have G:decide ((u.length:Int)>20)=false:=AX (by omega);have U:=aID fr to o _ (aAm J O) H u hz Z h2;generalize alg fr to o u=R at *
 refine fn1 Cd.s_ControlsAlong_k [.t 23 0] [.arr 3 (E cCt R.1) false] λX=>?_;unfold Cd.dA
 repeat' first|simp -dsimp only[go_sem,G,aH,Int.reduceBEq,Int.reduceBNe,cC,cO,cS,Ai,Ah,Al,Aq,Ad,Af,Ac,Ae,Aa,Ab,Ao,Ar,Ay,Az,Bo,Bq,Vs.Name.t.injEq,Ak,AB,Vs.Name.b.injEq,A7,Bi,cCt]|apply Br.mk<;>intro h<;>try simp -dsimp only[h]|refine aA.c (by first|exact L) ?_|refine aA.ownL (by exact U) rfl ?_|refine aC ?_|refine aC9 ?_|fail
 all_goals first|omega|exact⟨_,_,rfl,rfl⟩|exact⟨⟨_,_,rfl,rfl⟩,λh=>h rfl⟩|exact λ_=>⟨⟨_,_,rfl,rfl⟩,λh=>h rfl⟩|exact⟨λ_=>⟨_,_,rfl,rfl⟩,λh=>absurd rfl h⟩|(refine aU ?_;simp;done)|(simp at h;done)|(simp at h;omega)
def cdT (l:List Int):Nat->Sr->List (Int×Int×Int)->List (Int×Int×Int)->Sr->Prop
 |0,x,o,o',x'=>o'=o∧x'=x
 |k+1,x,o,o',x'=>∃c x1,x1.p<=x.p+12∧Vs.Fn Tryz.prog F.jM [sB l x] [.ptr (.b 0) 0 0] (.agg (cCt c)) [some (sB l x1)]∧cdT l k x1 (o++[c]) o' x'
theorem aKL {l:List Int} (H:byt l):∀(k:Nat) (x:Sr) (o:List (Int×Int×Int)),x.p+12*k<=3800->∃u F,(F.p<=x.p+12*k∧u.length=o.length+k)∧cdT l k x o u F
 |0,x,o,_=>⟨o,x,⟨by omega,rfl⟩,rfl,rfl⟩
 | k+1,x,o,h=>by
  obtain⟨c,J,G,M⟩:=aLD l x H (by omega);obtain⟨u,F,⟨O,h2⟩,L⟩:=aKL H k J (o++[c]) (by omega);exact⟨u,F,⟨by omega,by rw[h2,AC];simp only[A9];omega⟩,c,J,G,M,L⟩
open Go.Vs.Q in
def CdV.DrawFirstBreak:aF:=s [o 2 (.alloc [.v (.slice none 0 0),.v (.slice none 0 0)]),mn 3,o 4 (.alloc [.v (.int .i64 (0)),.v (.int .i64 (0))]),mn 5] [0,2,4]<|s [m 13 0,c 14 F.mO [13],m 6 14] [2,4,6]<|s [m 16 6,o 17 (.call (.func F.aBm) [16] [0]),m 15 17,ex 18 15 0,ex 19 15 1,ex 20 15 2,o 7 (.alloc [.v
 (.slice none 0 0),.v (.slice none 0 0)]),o 9 (.alloc [.v (.int .i64 (0)),.v (.int .i64 (0))]),⟨none,.store 2 7 18,none⟩,m 8 19,⟨none,.store 2 9 20,none⟩] [2,4,6,7,8,9]<|.seq (.naming 10 (.region [lt 22 2 7,m 23 8,lt 24 2 9,c 25 F.dA [22,23,24],m 21 25,ex 26 21 0,ex 27 21 1,m 10 26,m
 11 27] [2,4,6,7,8,9,10,11] []))<|.seq (s [m 28 11,ne 29 28 0] [2,4,6,7,8,9,10,29]<|.cond 29 (r [lt 30 2 7,m 31 8,lt 32 2 9,o 33 (.bslice 3 0 [.v (.int .i64 (0)),.v (.int .i64 (0)),.v (.int .i64 (0))] []),⟨none,.store 2 2 30,none⟩,m 3 31,⟨none,.store 2 4 32,none⟩,m 5 33] [2,3,4,5] [3000000]<|.ret)
 .skip)<|.seq (.block 0 (.loop (.seq (s [m 34 10,ln 35 34,m 36 8,ln 37 36,ls 38 35 37] [2,4,6,7,8,9,10,38]<|.cond 38 .skip (.exit 0))<|.block 1 (.naming 10 (.region [m 39 10,m 40 6,o 41 (.call (.func F.jM) [40] [0]),o 42 (.bslice 3 1 [.v (.int .i64 (0)),.v (.int .i64 (0)),.v (.int .i64 (0))]
 [(0,41)]),o 43 (.append 3 24 39 42),m 10 43] [2,4,6,7,8,9,10] [])))))<|.seq (s [m 44 10,ln 45 44,o 46 (.bin .gtr 45 (k 0)),m 47 46,mg 48 6 47 true,⟨some 49,.call (.func F.aV) [48,(k 2)] [0],some (47,true)⟩,pf 50 47 49] [2,4,6,7,8,9,10,50]<|.cond 50 (s [m 51 10,m 52 6,m 53 10,ln 54
 53,o 55 (.call (.func F.aD) [52,54] [0]),ix 56 3 51 55,m 12 56] [2,4,6,7,8,9,10,12]<|s [m 57 6,o 58 (.call (.func F.aD) [57,(k 3)] [0])] [2,4,6,7,8,9,10,12,58]<|.block 2 (s [en 60 58 0,m 59 60] [2,4,6,7,8,9,10,12,58,59]<|.cond 59 (.region [m 61 12,nc 62 61,fa 63 0
 62,lf 64 1 63,ad 65 64 1,nc 66 61,fa 67 0 66,⟨none,.store 1 67 65,none⟩] [2,4,6,7,8,9,10] []) (s [en 69 58 1,m 68 69] [2,4,6,7,8,9,10,12,58,68]<|.cond 68 (.region [m 70 12,nc 71 70,fa 72 1 71,lf 73 1 72,o 74 (.bin .sub 73 (k 1)),nc 75 70,fa 76 1 75,⟨none,.store 1 76 74,none⟩] [2,4,6,7,8,9,10] []) (s
 [en 78 58 2,m 77 78] [2,4,6,7,8,9,10,12,77]<|.cond 77 (.region [m 79 12,nc 80 79,fa 81 2 80,lf 82 1 81,m 83 6,o 84 (.call (.func F.aD) [83,(k 2)] [0]),o 85 (.bin .add 82 84),nc 86 79,fa 87 2 86,⟨none,.store 1 87 85,none⟩] [2,4,6,7,8,9,10] [3000000]) .skip)))) .skip)<|.seq (s [m 88
 6,o 89 (.call (.func F.aV) [88,(k 16)] [0])] [2,4,7,8,9,10,89]<|.cond 89 (.naming 10 (.region [m 90 10,o 91 (.build [.v (.int .i64 (0)),.v (.int .i64 (0)),.v (.int .i64 (0))] []),o 92 (.bslice 3 1 [.v (.int .i64 (0)),.v (.int .i64 (0)),.v (.int .i64 (0))] [(0,91)]),o 93 (.append 3 24
 90 92),m 10 93] [2,4,7,8,9,10] [])) .skip)<|r [lt 94 2 7,m 95 8,lt 96 2 9,m 97 10,⟨none,.store 2 2 94,none⟩,m 3 95,⟨none,.store 2 4 96,none⟩,m 5 97] [2,3,4,5] [3000000]<|.ret
theorem CdV.DrawFirstBreak_rs:Tryz.f21.results.toList=[.cell 2 37,.tmp 3,.cell 4 41,.tmp 5]:=rfl
theorem CdV.DrawFirstBreak_nt:Tryz.f21.ntmps=98:=rfl
theorem CdV.DrawFirstBreak_ok:wQ Tryz.prog [([[],[],[],[],[0],[1,4],[2,4,5],[3,6]],[1,5]),([[],[0],[1],[2],[],[4],[3,5],[6],[7],[8,6]],[0,1,2,4,7,8])] 21 Tryz.f21 CdV.DrawFirstBreak:=⟨Tryz.func21,by kernel_rfl,by decide +kernel⟩
attribute [local go_sem] Int.reduceBEq Int.reduceBNe cC cO aH Ai Ah Al Aq Ad Af Ac Ae Aa Ab Ao Ar Ay Az Bo Bq Vs.Name.t.injEq Ak AB Vs.Name.b.injEq aW aX bG sB AA AO AP cO A7 Bi in
theorem wV (X:Ctx) (o:Off) (G:List Stp) (u F:Int) (T:List (Int×Int×Int)) (n:Nat) (H:n=T.length):oC Tryz.prog X (drQ Tryz.prog [([[],[],[],[],[0],[1,4],[2,4,5],[3,6]],[1,5]),([[],[0],[1],[2],[],[4],[3,5],[6],[7],[8,6]],[0,1,2,4,7,8])]) (.region [⟨some 94,.load true 2 (.tmp 7),none⟩,⟨some 95,.mv (.tmp 8),none⟩,⟨some 96,.load true 2 (.tmp 9),none⟩,⟨some 97,.mv (.tmp 10),none⟩,⟨none,.store 2 (.tmp 2) (.tmp 94),none⟩,⟨some 3,.mv (.tmp 95),none⟩,⟨none,.store 2 (.tmp 4) (.tmp 96),none⟩,⟨some 5,.mv (.tmp 97),none⟩] [2,3,4,5] [3000000]) (fun σ'=>LeL σ' ⟨[(2,.ptr (.t 2 0) 0 0),(3,.sl 9 (E cS G)),(4,.ptr (.t 4 0) 0 0),(5,.loc (.t 10 0) 0 n)],[(.t 10 0,.arr 3 (E cCt T) false),(.t 4 0,.var [.v (.int .i64 u),.v (.int .i64 F)] false),(.t 2 0,.var [.sl 1 (E cD o.trays),.sl 1 (E cTs o.totals)] false)]⟩) (λ_ _=>False) ⟨[(2,.ptr (.t 2 0) 0 0),(4,.ptr (.t 4 0) 0 0),(7,.ptr (.t 7 0) 0 0),(8,.sl 9 (E cS G)),(9,.ptr (.t 9 0) 0 0),(10,.loc (.t 10 0) 0 n)],[(.t 10 0,.arr 3 (E cCt T) false),(.t 9 0,.var [.v (.int .i64 u),.v (.int .i64 F)] false),(.t 7 0,.var [.sl 1 (E cD o.trays),.sl 1 (E cTs o.totals)] false),(.t 4 0,.var [.v (.int .i64 0),.v (.int .i64 0)] false),(.t 2 0,.var [.v (.slice none 0 0),.v (.slice none 0 0)] false)]⟩:=by
 refine oC.rgO Tryz.mixed (E:=[[],[],[],[],[0],[1,4],[2,4,5],[3,6]]) (Ps:=[1,5]) rfl (by decide) rfl (T0:=[0,2,3,4,6,7]) rfl (n:=6) rfl rfl ?_;simp -dsimp only[go_sem,vcF,pv,vcO,AU,Bh,Option.isSome_some,cS,cCt]
 repeat' (first
   |(refine RgK.mk rfl ?_;simp -dsimp only[go_sem,cS,cCt])
   |(refine RgK.ord Tryz.mixed [[],[],[],[],[0],[1,4],[2,4,5],[3,6]] [1,5] rfl rfl (by decide) (T0:=[0,2,3,4,6,7]) rfl (n:=6) rfl rfl ?_;simp -dsimp only[go_sem,vcF,pv,vcO,AU,Bh,Option.isSome_some,cS,cCt])
   |(refine RgK.ord Tryz.mixed [[],[0],[1],[2],[],[4],[3,5],[6],[7],[8,6]] [0,1,2,4,7,8] rfl rfl (by decide) (T0:=[3,5,6,9]) rfl (n:=4) rfl rfl ?_;simp -dsimp only[go_sem,vcF,pv,vcO,AU,Bh,Option.isSome_some,cS,cCt])
   |(refine OrK.yes rfl ?_ ?_<;>try simp -dsimp only[go_sem,vcO,cS,cCt])
   |refine OrK.no rfl ?_
   |exact OrK.nil
   |(refine Br.mk (λh=>?_) (λh=>?_)<;>simp -dsimp only[go_sem,h,cS,cCt])
   |((first|refine aC ?_|refine aC9 ?_);try simp -dsimp only[go_sem,cS,cCt])
   |fail)
 all_goals first|(simp[Vs.LeL,Vs.look,aB];done)
def fbD (l:List Int) (t1:List (Int×Int×Int)) (z2:Sr) (T2:List (Int×Int×Int)) (z5:Sr):Prop:=
 (t1.length=0∧T2=t1∧z5=z2)∨
 (t1.length≠0∧T2=t1∧Vs.Fn Tryz.prog F.aV [sB l z2] [.ptr (.b 0) 0 0,.v (.int .i64 2)] (.v (.bool false)) [some (sB l z5)])∨
 (∃(j:Nat) (z3 z4:Sr) (c0 c1 c2:Int),t1.length≠0∧j<t1.length∧Vs.Fn Tryz.prog F.aV [sB l z2] [.ptr (.b 0) 0 0,.v (.int .i64 2)] (.v (.bool true)) [some (sB l z3)]∧Vs.Fn Tryz.prog F.aD [sB l z3] [.ptr (.b 0) 0 0,.v (.int .i64 (t1.length:Nat))] (.v (.int .i64 (j:Nat))) [some (sB l z4)]∧(E cCt t1).getD j []=[.v (.int .i64 c0),.v (.int .i64 c1),.v (.int .i64 c2)]∧Vs.Fn Tryz.prog F.aD [sB l z4] [.ptr (.b 0) 0 0,.v (.int .i64 3)] (.v (.int .i64 0)) [some (sB l z5)]∧(E cCt t1).set j [.v (.int .i64 (IntKind.i64.wrap (c0+1))),.v (.int .i64 c1),.v (.int .i64 c2)]=E cCt T2)∨
 (∃(j:Nat) (z3 z4:Sr) (c0 c1 c2:Int),t1.length≠0∧j<t1.length∧Vs.Fn Tryz.prog F.aV [sB l z2] [.ptr (.b 0) 0 0,.v (.int .i64 2)] (.v (.bool true)) [some (sB l z3)]∧Vs.Fn Tryz.prog F.aD [sB l z3] [.ptr (.b 0) 0 0,.v (.int .i64 (t1.length:Nat))] (.v (.int .i64 (j:Nat))) [some (sB l z4)]∧(E cCt t1).getD j []=[.v (.int .i64 c0),.v (.int .i64 c1),.v (.int .i64 c2)]∧Vs.Fn Tryz.prog F.aD [sB l z4] [.ptr (.b 0) 0 0,.v (.int .i64 3)] (.v (.int .i64 1)) [some (sB l z5)]∧(E cCt t1).set j [.v (.int .i64 c0),.v (.int .i64 (IntKind.i64.wrap (c1-1))),.v (.int .i64 c2)]=E cCt T2)∨
 (∃(j:Nat) (z3 z4 z6:Sr) (c0 c1 c2 r9:Int),t1.length≠0∧j<t1.length∧Vs.Fn Tryz.prog F.aV [sB l z2] [.ptr (.b 0) 0 0,.v (.int .i64 2)] (.v (.bool true)) [some (sB l z3)]∧Vs.Fn Tryz.prog F.aD [sB l z3] [.ptr (.b 0) 0 0,.v (.int .i64 (t1.length:Nat))] (.v (.int .i64 (j:Nat))) [some (sB l z4)]∧(E cCt t1).getD j []=[.v (.int .i64 c0),.v (.int .i64 c1),.v (.int .i64 c2)]∧Vs.Fn Tryz.prog F.aD [sB l z4] [.ptr (.b 0) 0 0,.v (.int .i64 3)] (.v (.int .i64 2)) [some (sB l z6)]∧Vs.Fn Tryz.prog F.aD [sB l z6] [.ptr (.b 0) 0 0,.v (.int .i64 2)] (.v (.int .i64 r9)) [some (sB l z5)]∧(E cCt t1).set j [.v (.int .i64 c0),.v (.int .i64 c1),.v (.int .i64 (IntKind.i64.wrap (c2+r9)))]=E cCt T2)
theorem aM5 {l:List Int} (J:byt l) (u:List (Int×Int×Int)) (ht:u.length<=100) (H:Sr) (hz:H.p<=3800):∃T2 F,T2.length=u.length∧F.p<=H.p+10∧fbD l u H T2 F:=by
 by_cases M:u.length=0
 .exact⟨u,H,rfl,by omega,.inl ⟨M,rfl,rfl⟩⟩
 have L:=one l H J 2 (by omega);have q6:=aQ l H 2;obtain⟨b6,Y⟩:∃b,(pkV l H 2==0)=b:=⟨_,rfl⟩;rw[Y] at L;generalize pkS l H 2=z3 at *
 cases b6
 .exact⟨u,z3,rfl,by omega,.inr (.inl ⟨M,rfl,L⟩)⟩
 have O:=pick l z3 J (u.length:Nat) (by omega);have v7:=bC J z3 (n:=(u.length:Nat)) (by omega);have q7:=aQ l z3 (u.length:Nat);obtain⟨j,hj⟩:∃j:Nat,pkV l z3 (u.length:Nat)=j:=⟨(pkV l z3 (u.length:Nat)).toNat,by omega⟩;rw[hj] at O v7;generalize pkS l z3 (u.length:Nat)=z4 at *
 have G:j<u.length:=by omega
 have V:(E cCt u).getD j []=cCt u[j]:=aR G;have U:=pick l z4 J 3 (by omega);have v8:=bC J z4 (n:=3) (by omega);have q8:=aQ l z4 3;generalize pkV l z4 3=r8 at *
 generalize pkS l z4 3=F at *
 have Z:∀c,(E cCt u).set j (cCt c)=E cCt (u.set j c):=λc=>by simp[E,Db]
 by_cases h0:r8=0
 .subst h0;exact⟨u.set j (IntKind.i64.wrap (u[j].1+1),u[j].2.1,u[j].2.2),F,by simp,by omega,.inr (.inr (.inl ⟨j,z3,z4,_,_,_,M,G,L,O,V,U,Z (IntKind.i64.wrap (u[j].1+1),u[j].2.1,u[j].2.2)⟩))⟩
 by_cases h1:r8=1
 .subst h1;exact⟨u.set j (u[j].1,IntKind.i64.wrap (u[j].2.1-1),u[j].2.2),F,by simp,by omega,.inr (.inr (.inr (.inl ⟨j,z3,z4,_,_,_,M,G,L,O,V,U,Z (u[j].1,IntKind.i64.wrap (u[j].2.1-1),u[j].2.2)⟩)))⟩
 obtain rfl:r8=2:=by omega
 have P9:=pick l F J 2 (by omega);have q9:=aQ l F 2;exact⟨u.set j (u[j].1,u[j].2.1,IntKind.i64.wrap (u[j].2.2+pkV l F 2)),pkS l F 2,by simp,by omega,.inr (.inr (.inr (.inr ⟨j,z3,z4,F,_,_,_,_,M,G,L,O,V,U,P9,Z (u[j].1,u[j].2.1,IntKind.i64.wrap (u[j].2.2+pkV l F 2))⟩)))⟩
attribute [local go_sem] Int.reduceBEq Int.reduceBNe cC aH Ai Ah Al Aq Ad Af Ac Ae Aa Ab Ao Ar Ay Az Bo Bq Vs.Name.t.injEq Ak AB Vs.Name.b.injEq aW aX bG sB AA AO AP A7 Bi in
theorem aM9 (l:List Int) (hl:byt l) (HB:aBO l):∃o fs f0 f1 hd,fC o∧okZ fs∧fs.length<=21∧hd.length<=100∧Fz F.uQ [.sl 1 (E cU l)] (.tup [.agg (cO o),.sl 9 (E cS fs),.agg [.v (.int .i64 f0),.v (.int .i64 f1)],.sl 3 (E cCt hd)]):=by
 obtain⟨o,fs,f0,f1,z1,ho,he,hm,hv,DF⟩:=zC l ⟨0,0⟩ hl HB (by dsimp only;omega);dsimp only at hv;have FR:=aDg l;have hq:∀x,x∈fs->x.text.size<=1048576:=λx hx=>by have:=he x hx;omega
 by_cases h0:caC f0 f1 o fs=0
 rotate_left
 .have CA:=qI f0 f1 o ho fs hq (by omega) h0;have e0:(caC f0 f1 o fs != 0)=true:=by simp[h0]
  refine⟨o,fs,f0,f1,[],ho,he,hm,by simp,?_⟩;refine fnR CdV.DrawFirstBreak_ok CdV.DrawFirstBreak_nt CdV.DrawFirstBreak_rs [] [] λX=>?_;unfold CdV.DrawFirstBreak;simp -dsimp only[go_sem,e0,cO,cS,cO,cCt]
  repeat' (first
    |(refine RgK.mk rfl ?_;simp -dsimp only[go_sem,e0,cO,cS,cO,cCt])
    |(refine RgK.ord Tryz.mixed [[],[],[],[],[0],[1,4],[2,4,5],[3,6]] [1,5] rfl rfl (by decide) (T0:=[0,2,3,4,6,7]) rfl (n:=6) rfl rfl ?_;simp -dsimp only[go_sem,vcF,pv,vcO,AU,Bh,Option.isSome_some,e0,cO,cS,cO,cCt])
    |(refine RgK.ord Tryz.mixed [[],[0],[1],[2],[],[4],[3,5],[6],[7],[8,6]] [0,1,2,4,7,8] rfl rfl (by decide) (T0:=[3,5,6,9]) rfl (n:=4) rfl rfl ?_;simp -dsimp only[go_sem,vcF,pv,vcO,AU,Bh,Option.isSome_some,e0,cO,cS,cO,cCt])
    |(refine OrK.yes rfl ?_ ?_<;>try simp -dsimp only[go_sem,vcO,e0,cO,cS,cO,cCt])
    |refine OrK.no rfl ?_
    |exact OrK.nil
    |(refine Br.mk (λh=>?_) (λh=>?_)<;>simp -dsimp only[go_sem,h,e0,cO,cS,cO,cCt])
    |(refine aA.bor (by first|exact DF) rfl ?_;simp -dsimp only[go_sem,e0,cO,cS,cO,cCt])
    |(refine aA.own (by first|exact FR) rfl ?_;simp -dsimp only[go_sem,e0,cO,cS,cO,cCt])
    |(refine aA.flat (by first|exact CA) rfl ?_;simp -dsimp only[go_sem,e0,cO,cS,cO,cCt])
    |(refine aA.pure (by first|exact CA) ?_;simp -dsimp only[go_sem,e0,cO,cS,cO,cCt])
    |((first|refine aC ?_|refine aC9 ?_);try simp -dsimp only[go_sem,e0,cO,cS,cO,cCt])
    |fail)
  all_goals first|exact⟨_,_,rfl,rfl⟩
 have CA:=zX f0 f1 o ho fs hq (by omega) h0;have hL:=aBh f0 f1 fs o;generalize(alg f0 f1 o fs).1=L at *
 obtain⟨t1,z2,⟨h3,hy⟩,hT⟩:=aKL hl (fs.length-L.length) z1 L (by omega);have hz:t1.length=fs.length:=by omega
 obtain⟨T2,z5,O,h4,hD⟩:=aM5 hl t1 (by omega) z2 (by omega);have ha:=one l z5 hl 16 (by omega);have h5:=aQ l z5 16;obtain⟨hb,hk⟩:∃b,(pkV l z5 16==0)=b:=⟨_,rfl⟩;rw[hk] at ha;generalize pkS l z5 16=z7 at *
 have hg:(if hb then T2++[((0:Int),(0:Int),(0:Int))] else T2).length<=100:=by split<;>(try simp)<;>omega
 have H:E cCt T2++[[.v (.int .i64 0),.v (.int .i64 0),.v (.int .i64 0)]]=E cCt (T2++[((0:Int),(0:Int),(0:Int))]):=by rw[aS];rfl
 have U:(E cCt T2).take T2.length=E cCt T2:=Ag (by rw[aH];exact AL _);have G:(E cCt (T2++[((0:Int),(0:Int),(0:Int))])).take (T2.length+1)=E cCt (T2++[((0:Int),(0:Int),(0:Int))]):=Ag (by rw[aH];simp);have J:(E cCt T2).take t1.length=E cCt T2:=by rw[←O];exact U
 have M:(E cCt (T2++[((0:Int),(0:Int),(0:Int))])).take (t1.length+1)=E cCt (T2++[((0:Int),(0:Int),(0:Int))]):=by rw[←O];exact G
 have Y:(E cCt t1).length=t1.length:=aH _;have V:(E cCt T2).length=T2.length:=aH _;refine⟨o,fs,f0,f1,_,ho,he,hm,hg,?_⟩;refine fnR CdV.DrawFirstBreak_ok CdV.DrawFirstBreak_nt CdV.DrawFirstBreak_rs [] [] λX=>?_;unfold CdV.DrawFirstBreak;simp -dsimp only[go_sem,cO,cS,cO,cCt]
 repeat' (first
   |(refine RgK.mk rfl ?_;simp -dsimp only[go_sem,cO,cS,cO,cCt])
   |(refine RgK.ord Tryz.mixed [[],[],[],[],[0],[1,4],[2,4,5],[3,6]] [1,5] rfl rfl (by decide) (T0:=[0,2,3,4,6,7]) rfl (n:=6) rfl rfl ?_;simp -dsimp only[go_sem,vcF,pv,vcO,AU,Bh,Option.isSome_some,cO,cS,cO,cCt])
   |(refine RgK.ord Tryz.mixed [[],[0],[1],[2],[],[4],[3,5],[6],[7],[8,6]] [0,1,2,4,7,8] rfl rfl (by decide) (T0:=[3,5,6,9]) rfl (n:=4) rfl rfl ?_;simp -dsimp only[go_sem,vcF,pv,vcO,AU,Bh,Option.isSome_some,cO,cS,cO,cCt])
   |(refine OrK.yes rfl ?_ ?_<;>try simp -dsimp only[go_sem,vcO,cO,cS,cO,cCt])
   |refine OrK.no rfl ?_
   |exact OrK.nil
   |(refine Br.mk (λh=>?_) (λh=>?_)<;>simp -dsimp only[go_sem,h,cO,cS,cO,cCt])
   |(refine aA.bor (by first|exact DF) rfl ?_;simp -dsimp only[go_sem,cO,cS,cO,cCt])
   |(refine aA.own (by first|exact FR|exact CA) rfl ?_;simp -dsimp only[go_sem,cO,cS,cO,cCt])
   |((first|refine aC ?_|refine aC9 ?_);try simp -dsimp only[go_sem,cO,cS,cO,cCt])
   |fail)
 refine aO.at (aKA Tryz.mixed _) (X:={zz:Nat×Sr×List (Int×Int×Int) // (zz.2.1.p+12*zz.1<=3800)∧(zz.1+zz.2.2.length=fs.length)∧cdT l zz.1 zz.2.1 zz.2.2 t1 z2}) (λzz=>[(10,.loc (.t 10 0) 0 zz.1.2.2.length),(29,.junk)]) (λzz=>[(.t 14 0,sB l zz.1.2.1),(.t 10 0,.arr 3 (E cCt zz.1.2.2) false)]) (λzz=>zz.1.1) ⟨(fs.length-L.length,z1,L),by dsimp only;omega,by dsimp only;omega,hT⟩ ?_ ?_
 .simp[Vs.LeL,Vs.look,aB,aP,aJ,Vs.hset,aK,Vs.E,sB]
 .rintro⟨⟨k,y,oo⟩,ht,hu,hr⟩;dsimp only at ht hu hr;have hp:(E cS fs).length=fs.length:=aH _;simp -dsimp only[go_sem,hp,cO,cS,cO,cCt];refine Br.mk (λhc=>?_) λhc=>?_
  .obtain⟨k,rfl⟩:∃j,k=j+1:=⟨k-1,by have:=Cu hc;omega⟩;obtain⟨c,y1,h1,hf,hr⟩:=hr;have hs:E cCt oo++[[.v (.int .i64 c.1),.v (.int .i64 c.2.1),.v (.int .i64 c.2.2)]]=E cCt (oo++[c]):=by rw[aS];rfl
   repeat' first|simp -dsimp only[go_sem,hs,cO,cS,cO,cCt]|apply Br.mk<;>intro h<;>try simp -dsimp only[h]|refine aA.bor (by first|exact hf) rfl ?_|refine aC ?_|refine aC9 ?_|fail
   all_goals first|omega|(refine⟨⟨(k,y1,oo++[c]),by dsimp only;omega,by dsimp only;rw[AC];simp only[Aa,Ab];omega,hr⟩,?_,by simp only;omega⟩;simp[Vs.LeL,Vs.look,aB,aP,aJ,Vs.hset,aK,Vs.E,sB,cC];done)
  .obtain rfl:k=0:=by have:=CB hc;omega
   obtain⟨rfl,rfl⟩:=hr;clear hT DF FR CA;rcases hD with⟨hn,rfl,rfl⟩|⟨hn,rfl,P6⟩|⟨j,z3,z4,c0,c1,c2,hn,hj,P6,P7,gj,P8,sj⟩|⟨j,z3,z4,c0,c1,c2,hn,hj,P6,P7,gj,P8,sj⟩|⟨j,z3,z4,z6,c0,c1,c2,r9,hn,hj,P6,P7,gj,P8,P9,sj⟩
   .have Z:decide ((T2.length:Int)>0)=false:=AX (by omega);cases hb
    all_goals
     simp -dsimp only[go_sem,Z,H,U,G,J,M,Y,V,O,cO,cS,cO,cCt]
     repeat' (first
       |(refine RgK.mk rfl ?_;simp -dsimp only[go_sem,Z,H,U,G,J,M,Y,V,O,cO,cS,cO,cCt])
       |(refine RgK.or (oC.via (by first|(simp -dsimp only[go_sem,Z,H,U,G,J,M,Y,V,O,cO,cS,cO,cCt];simp[Vs.LeL,Vs.look,aB];done)|fail) (wV X o fs f0 f1 T2 T2.length rfl) ?_);simp -dsimp only[go_sem,Z,H,U,G,J,M,Y,V,O,cO,cS,cO,cCt])
       |(refine RgK.or (oC.via (by first|(simp -dsimp only[go_sem,Z,H,U,G,J,M,Y,V,O,cO,cS,cO,cCt];simp[Vs.LeL,Vs.look,aB];done)|fail) (wV X o fs f0 f1 (T2++[((0:Int),(0:Int),(0:Int))]) (T2.length+1) (by first|(simp;done)|fail)) ?_);simp -dsimp only[go_sem,Z,H,U,G,J,M,Y,V,O,cO,cS,cO,cCt])
       |(refine RgK.ord Tryz.mixed [[],[],[],[],[0],[1,4],[2,4,5],[3,6]] [1,5] rfl rfl (by decide) (T0:=[0,2,3,4,6,7]) rfl (n:=6) rfl rfl ?_;simp -dsimp only[go_sem,vcF,pv,vcO,AU,Bh,Option.isSome_some,Z,H,U,G,J,M,Y,V,O,cO,cS,cO,cCt])
       |(refine RgK.ord Tryz.mixed [[],[0],[1],[2],[],[4],[3,5],[6],[7],[8,6]] [0,1,2,4,7,8] rfl rfl (by decide) (T0:=[3,5,6,9]) rfl (n:=4) rfl rfl ?_;simp -dsimp only[go_sem,vcF,pv,vcO,AU,Bh,Option.isSome_some,Z,H,U,G,J,M,Y,V,O,cO,cS,cO,cCt])
       |(refine OrK.yes rfl ?_ ?_<;>try simp -dsimp only[go_sem,vcO,Z,H,U,G,J,M,Y,V,O,cO,cS,cO,cCt])
       |refine OrK.no rfl ?_
       |exact OrK.nil
       |(refine Br.mk (λh=>?_) (λh=>?_)<;>simp -dsimp only[go_sem,h,Z,H,U,G,J,M,Y,V,O,cO,cS,cO,cCt])
       |(refine aA.bor (by first|exact P6|exact ha) rfl ?_;simp -dsimp only[go_sem,Z,H,U,G,J,M,Y,V,O,cO,cS,cO,cCt])
       |(refine And.intro ?_ (λh=>absurd rfl h))
       |((first|refine aC ?_|refine aC9 ?_);try simp -dsimp only[go_sem,Z,H,U,G,J,M,Y,V,O,cO,cS,cO,cCt])
       |fail)
     all_goals first|omega|exact⟨_,_,rfl,rfl⟩| trace_state
   .have Z:decide ((T2.length:Int)>0)=true:=AR (by omega);cases hb
    all_goals
     simp -dsimp only[go_sem,Z,H,U,G,J,M,Y,V,O,cO,cS,cO,cCt]
     repeat' (first
       |(refine RgK.mk rfl ?_;simp -dsimp only[go_sem,Z,H,U,G,J,M,Y,V,O,cO,cS,cO,cCt])
       |(refine RgK.or (oC.via (by first|(simp -dsimp only[go_sem,Z,H,U,G,J,M,Y,V,O,cO,cS,cO,cCt];simp[Vs.LeL,Vs.look,aB];done)|fail) (wV X o fs f0 f1 T2 T2.length rfl) ?_);simp -dsimp only[go_sem,Z,H,U,G,J,M,Y,V,O,cO,cS,cO,cCt])
       |(refine RgK.or (oC.via (by first|(simp -dsimp only[go_sem,Z,H,U,G,J,M,Y,V,O,cO,cS,cO,cCt];simp[Vs.LeL,Vs.look,aB];done)|fail) (wV X o fs f0 f1 (T2++[((0:Int),(0:Int),(0:Int))]) (T2.length+1) (by first|(simp;done)|fail)) ?_);simp -dsimp only[go_sem,Z,H,U,G,J,M,Y,V,O,cO,cS,cO,cCt])
       |(refine RgK.ord Tryz.mixed [[],[],[],[],[0],[1,4],[2,4,5],[3,6]] [1,5] rfl rfl (by decide) (T0:=[0,2,3,4,6,7]) rfl (n:=6) rfl rfl ?_;simp -dsimp only[go_sem,vcF,pv,vcO,AU,Bh,Option.isSome_some,Z,H,U,G,J,M,Y,V,O,cO,cS,cO,cCt])
       |(refine RgK.ord Tryz.mixed [[],[0],[1],[2],[],[4],[3,5],[6],[7],[8,6]] [0,1,2,4,7,8] rfl rfl (by decide) (T0:=[3,5,6,9]) rfl (n:=4) rfl rfl ?_;simp -dsimp only[go_sem,vcF,pv,vcO,AU,Bh,Option.isSome_some,Z,H,U,G,J,M,Y,V,O,cO,cS,cO,cCt])
       |(refine OrK.yes rfl ?_ ?_<;>try simp -dsimp only[go_sem,vcO,Z,H,U,G,J,M,Y,V,O,cO,cS,cO,cCt])
       |refine OrK.no rfl ?_
       |exact OrK.nil
       |(refine Br.mk (λh=>?_) (λh=>?_)<;>simp -dsimp only[go_sem,h,Z,H,U,G,J,M,Y,V,O,cO,cS,cO,cCt])
       |(refine aA.bor (by first|exact P6|exact ha) rfl ?_;simp -dsimp only[go_sem,Z,H,U,G,J,M,Y,V,O,cO,cS,cO,cCt])
       |(refine And.intro ?_ (λh=>absurd rfl h))
       |((first|refine aC ?_|refine aC9 ?_);try simp -dsimp only[go_sem,Z,H,U,G,J,M,Y,V,O,cO,cS,cO,cCt])
       |fail)
     all_goals first|omega|exact⟨_,_,rfl,rfl⟩| trace_state
   all_goals
    have Z:decide ((t1.length:Int)>0)=true:=AR (by omega);have hw:(j:Int)<t1.length:=by omega
    cases hb
    all_goals
     simp -dsimp only[go_sem,gj,sj,Z,H,U,G,J,M,Y,V,O,cO,cS,cO,cCt]
     repeat' (first
       |(refine RgK.mk rfl ?_;simp -dsimp only[go_sem,gj,sj,Z,H,U,G,J,M,Y,V,O,cO,cS,cO,cCt])
       |(refine RgK.or (oC.via (by first|(simp -dsimp only[go_sem,gj,sj,Z,H,U,G,J,M,Y,V,O,cO,cS,cO,cCt];simp[Vs.LeL,Vs.look,aB];done)|fail) (wV X o fs f0 f1 T2 t1.length O.symm) ?_);simp -dsimp only[go_sem,gj,sj,Z,H,U,G,J,M,Y,V,O,cO,cS,cO,cCt])
       |(refine RgK.or (oC.via (by first|(simp -dsimp only[go_sem,gj,sj,Z,H,U,G,J,M,Y,V,O,cO,cS,cO,cCt];simp[Vs.LeL,Vs.look,aB];done)|fail) (wV X o fs f0 f1 (T2++[((0:Int),(0:Int),(0:Int))]) (t1.length+1) (by first|(simp[O];done)|fail)) ?_);simp -dsimp only[go_sem,gj,sj,Z,H,U,G,J,M,Y,V,O,cO,cS,cO,cCt])
       |(refine RgK.ord Tryz.mixed [[],[],[],[],[0],[1,4],[2,4,5],[3,6]] [1,5] rfl rfl (by decide) (T0:=[0,2,3,4,6,7]) rfl (n:=6) rfl rfl ?_;simp -dsimp only[go_sem,vcF,pv,vcO,AU,Bh,Option.isSome_some,gj,sj,Z,H,U,G,J,M,Y,V,O,cO,cS,cO,cCt])
       |(refine RgK.ord Tryz.mixed [[],[0],[1],[2],[],[4],[3,5],[6],[7],[8,6]] [0,1,2,4,7,8] rfl rfl (by decide) (T0:=[3,5,6,9]) rfl (n:=4) rfl rfl ?_;simp -dsimp only[go_sem,vcF,pv,vcO,AU,Bh,Option.isSome_some,gj,sj,Z,H,U,G,J,M,Y,V,O,cO,cS,cO,cCt])
       |(refine OrK.yes rfl ?_ ?_<;>try simp -dsimp only[go_sem,vcO,gj,sj,Z,H,U,G,J,M,Y,V,O,cO,cS,cO,cCt])
       |refine OrK.no rfl ?_
       |exact OrK.nil
       |(refine Br.mk (λh=>?_) (λh=>?_)<;>simp -dsimp only[go_sem,h,gj,sj,Z,H,U,G,J,M,Y,V,O,cO,cS,cO,cCt])
       |(refine aA.bor (by first|exact P6|exact P7|exact P8|exact P9|exact ha) rfl ?_;simp -dsimp only[go_sem,gj,sj,Z,H,U,G,J,M,Y,V,O,cO,cS,cO,cCt])
       |(refine And.intro ?_ (λh=>absurd rfl h))
       |((first|refine aC ?_|refine aC9 ?_);try simp -dsimp only[go_sem,gj,sj,Z,H,U,G,J,M,Y,V,O,cO,cS,cO,cCt])
       |fail)
     all_goals first|omega|exact⟨_,_,rfl,rfl⟩| trace_state
end
section
variable [Vs.Envs]
attribute [local irreducible] Vs.Fn nxV nxS pkV pkS ptN crd dW dtF lH run wO bD eU
open Go.Vs.Q in
def CdV.DrawSplitHolds:aF:=s [mn 2,mn 3,o 4 (.alloc [.v (.int .i64 (0)),.v (.int .i64 (0))]),o 5 (.alloc [.v (.int .i64 (0)),.v (.int .i64 (0))])] [0,4,5]<|s [m 14 0,c 15 F.mO [14],m 6 15] [4,5,6]<|s [o 16 (.build [.v (.int .i64 (0)),.v (.int .i64 (0))] [(1,1,(k 1))]),o 7 (.alloc [.v (.int .i64 (0)),.v (.int .i64
 (0))]),⟨none,.store 2 7 16,none⟩] [4,5,6,7]<|.seq (s [m 17 6,o 18 (.call (.func F.aV) [17,(k 10)] [0])] [4,5,6,7,18]<|.cond 18 (.region [m 19 6,o 20 (.call (.func F.kF) [19,(k 5)] [0]),⟨none,.store 2 7 20,none⟩] [4,5,6,7] []) .skip)<|s [m 21 6,o 22 (.call (.func
 F.kU) [21,(k 6)] [0]),m 8 22] [4,5,6,7,8]<|s [m 23 6,o 24 (.call (.func F.kU) [23,(k 6)] [0]),m 9 24] [4,5,6,7,8,9]<|s [m 26 8,lt 27 2 7,c 28 F.mD [26,27],m 25 28,ex 29 25 0,ex 30 25 1,m 10 29,m 11 30] [4,5,6,7,8,9,10,11]<|s [m 32 9,lt 33 2 7,c 34 F.mD
 [32,33],m 31 34,ex 35 31 0,ex 36 31 1,m 12 35,m 13 36] [4,5,6,7,8,9,10,11,12,13]<|.seq (s [m 37 11,en 38 37 0,m 39 38,mg 40 13 39 true,⟨some 41,.bin .eql 40 (k 0),some (39,true)⟩,pf 42 39 41,m 43 42,mg 44 6 43 true,⟨some 45,.call (.func F.aV) [44,(k 6)] [0],some (43,true)⟩,⟨some
 46,.un .not 45,some (43,true)⟩,pf 47 43 46] [4,5,6,7,8,9,10,12,47]<|.cond 47 (r [m 48 10,m 49 12,m 50 6,o 51 (.call (.func F.sV) [50] [0]),lt 52 2 7,m 2 48,m 3 49,⟨none,.store 2 4 51,none⟩,⟨none,.store 2 5 52,none⟩] [2,3,4,5] [3000000]<|.ret) .skip)<|r [m 53 8,m 54 9,m 55 6,o 56 (.call
 (.func F.sV) [55] [0]),lt 57 2 7,m 2 53,m 3 54,⟨none,.store 2 4 56,none⟩,⟨none,.store 2 5 57,none⟩] [2,3,4,5] [3000000]<|.ret
theorem CdV.DrawSplitHolds_rs:Tryz.f24.results.toList=[.tmp 2,.tmp 3,.cell 4 41,.cell 5 41]:=rfl
theorem CdV.DrawSplitHolds_nt:Tryz.f24.ntmps=58:=rfl
theorem CdV.DrawSplitHolds_ok:wQ Tryz.prog [([[],[],[],[2],[],[0,3],[1,5],[3,6],[4,7]],[0,1,2,5,6])] 24 Tryz.f24 CdV.DrawSplitHolds:=⟨Tryz.func24,by kernel_rfl,by decide +kernel⟩
theorem vW {fr to:Int}{l:List (List Int)} (h:bE l):bE (eU fr to l):=by
 have e:(eU fr to l).length=l.length:=by unfold eU;rw[BC,uU]
 refine⟨by rw[e];exact h.1,λc u=>?_⟩;unfold eU at u;obtain⟨i,_,rfl⟩:=BG.1 u;rw[Bc];cases hx:l[i.toNat]? with
 |none=>simp
 |some c=>exact h.2 c (BU hx)
attribute [local go_sem] Int.reduceBEq Int.reduceBNe cO cS aH Ai Ah Al Aq Ad Af Ac Ae Aa Ab Ao Ar Ay Az Bo Bq Vs.Name.t.injEq Ak AB Vs.Name.b.injEq aW aX bG sB AA AO AP in
theorem aM8 (l:List Int) (V:byt l):∃a b O U k0 k1,bE a∧bE b∧Fz F.uP [.sl 1 (E cU l)] (.tup [.sl 1 (E cC a),.sl 1 (E cC b),.agg (cFd O U),.agg (cFd k0 k1)]):=by
 have FR:=aDg l;have P1:=one l ⟨0,0⟩ V 10 (by dsimp only;omega);have q1:=aQ l ⟨0,0⟩ 10;obtain⟨b1,hg⟩:∃b,(pkV l ⟨0,0⟩ 10==0)=b:=⟨_,rfl⟩;rw[hg] at P1;generalize pkS l ⟨0,0⟩ 10=y1 at *
 dsimp only at q1;cases b1
 .generalize y1=y2 at *
  obtain⟨a,y3,he,hj,hn,DA⟩:=zJ l y2 V 6 (by omega) (by omega);obtain⟨b,y4,hf,hk,ho,DB⟩:=zJ l y3 V 6 (by omega) (by omega);have Y:bE a:=bQ (w:=5) (by omega) (vK he (by omega));have Z:bE b:=bQ (w:=5) (by omega) (vK hf (by omega));have J:=jL a 0 1 Y.2 Y.1;have H:=jL b 0 1 Z.2 Z.1;unfold oF at J H;by_cases c1:bD 0 1 a=0
  .rw[AY c1,c1] at J;have G:((0:Int)==0)=true:=rfl;by_cases M:bD 0 1 b=0
   .rw[AY M,M] at H;have u:((0:Int)==0)=true:=rfl;have P6:=one l y4 V 6 (by omega);have q6:=aQ l y4 6;obtain⟨b6,hd⟩:∃b,(pkV l y4 6==0)=b:=⟨_,rfl⟩;rw[hd] at P6;generalize pkS l y4 6=y5 at *
    obtain⟨O,U,z,hz,L⟩:=gN l y5 V (by omega);cases b6
    .refine⟨eU 0 1 a,eU 0 1 b,O,U,0,1,vW Y,vW Z,?_⟩;refine fnR CdV.DrawSplitHolds_ok CdV.DrawSplitHolds_nt CdV.DrawSplitHolds_rs [] [] λX=>?_;unfold CdV.DrawSplitHolds;simp -dsimp only[go_sem,cC,cFd,cFd,G,u]
     repeat' (first
       |(refine RgK.mk rfl ?_;simp -dsimp only[go_sem,cC,cFd,cFd,G,u])
       |(refine RgK.ord Tryz.mixed [[],[],[],[2],[],[0,3],[1,5],[3,6],[4,7]] [0,1,2,5,6] rfl rfl (by decide) (T0:=[3,4,7,8]) rfl (n:=4) rfl rfl ?_;simp -dsimp only[go_sem,vcF,pv,vcO,AU,Bh,Option.isSome_some,cC,cFd,cFd,G,u])
       |(refine OrK.yes rfl ?_ ?_<;>try simp -dsimp only[go_sem,vcO,cC,cFd,cFd,G,u])
       |refine OrK.no rfl ?_
       |exact OrK.nil
       |(refine Br.mk (λh=>?_) (λh=>?_)<;>simp -dsimp only[go_sem,h,cC,cFd,cFd,G,u])
       |(refine aA.bor (by first|exact P1|exact DA|exact DB|exact L|exact P6) rfl ?_;simp -dsimp only[go_sem,cC,cFd,cFd,G,u])
       |(refine aA.own (by first|exact FR) rfl ?_;simp -dsimp only[go_sem,cC,cFd,cFd,G,u])
       |(refine aA.flat (by first|exact J|exact H) rfl ?_;simp -dsimp only[go_sem,cC,cFd,cFd,G,u])
       |(refine aA.pure (by first|exact J|exact H) ?_;simp -dsimp only[go_sem,cC,cFd,cFd,G,u])
       |((first|refine aC ?_|refine aC9 ?_);try simp -dsimp only[go_sem,cC,cFd,cFd,G,u])
       |fail)
     all_goals first|omega|exact⟨_,_,rfl,rfl⟩
    .refine⟨a,b,O,U,0,1,Y,Z,?_⟩;refine fnR CdV.DrawSplitHolds_ok CdV.DrawSplitHolds_nt CdV.DrawSplitHolds_rs [] [] λX=>?_;unfold CdV.DrawSplitHolds;simp -dsimp only[go_sem,cC,cFd,cFd,G,u]
     repeat' (first
       |(refine RgK.mk rfl ?_;simp -dsimp only[go_sem,cC,cFd,cFd,G,u])
       |(refine RgK.ord Tryz.mixed [[],[],[],[2],[],[0,3],[1,5],[3,6],[4,7]] [0,1,2,5,6] rfl rfl (by decide) (T0:=[3,4,7,8]) rfl (n:=4) rfl rfl ?_;simp -dsimp only[go_sem,vcF,pv,vcO,AU,Bh,Option.isSome_some,cC,cFd,cFd,G,u])
       |(refine OrK.yes rfl ?_ ?_<;>try simp -dsimp only[go_sem,vcO,cC,cFd,cFd,G,u])
       |refine OrK.no rfl ?_
       |exact OrK.nil
       |(refine Br.mk (λh=>?_) (λh=>?_)<;>simp -dsimp only[go_sem,h,cC,cFd,cFd,G,u])
       |(refine aA.bor (by first|exact P1|exact DA|exact DB|exact L|exact P6) rfl ?_;simp -dsimp only[go_sem,cC,cFd,cFd,G,u])
       |(refine aA.own (by first|exact FR) rfl ?_;simp -dsimp only[go_sem,cC,cFd,cFd,G,u])
       |(refine aA.flat (by first|exact J|exact H) rfl ?_;simp -dsimp only[go_sem,cC,cFd,cFd,G,u])
       |(refine aA.pure (by first|exact J|exact H) ?_;simp -dsimp only[go_sem,cC,cFd,cFd,G,u])
       |((first|refine aC ?_|refine aC9 ?_);try simp -dsimp only[go_sem,cC,cFd,cFd,G,u])
       |fail)
     all_goals first|omega|exact⟨_,_,rfl,rfl⟩
   .rw[AJ M] at H;have u:(bD 0 1 b==0)=false:=Ap.2 M;obtain⟨O,U,z,hz,L⟩:=gN l y4 V (by omega);refine⟨a,b,O,U,0,1,Y,Z,?_⟩;refine fnR CdV.DrawSplitHolds_ok CdV.DrawSplitHolds_nt CdV.DrawSplitHolds_rs [] [] λX=>?_;unfold CdV.DrawSplitHolds;simp -dsimp only[go_sem,cC,cFd,cFd,G,u]
    repeat' (first
      |(refine RgK.mk rfl ?_;simp -dsimp only[go_sem,cC,cFd,cFd,G,u])
      |(refine RgK.ord Tryz.mixed [[],[],[],[2],[],[0,3],[1,5],[3,6],[4,7]] [0,1,2,5,6] rfl rfl (by decide) (T0:=[3,4,7,8]) rfl (n:=4) rfl rfl ?_;simp -dsimp only[go_sem,vcF,pv,vcO,AU,Bh,Option.isSome_some,cC,cFd,cFd,G,u])
      |(refine OrK.yes rfl ?_ ?_<;>try simp -dsimp only[go_sem,vcO,cC,cFd,cFd,G,u])
      |refine OrK.no rfl ?_
      |exact OrK.nil
      |(refine Br.mk (λh=>?_) (λh=>?_)<;>simp -dsimp only[go_sem,h,cC,cFd,cFd,G,u])
      |(refine aA.bor (by first|exact P1|exact DA|exact DB|exact L) rfl ?_;simp -dsimp only[go_sem,cC,cFd,cFd,G,u])
      |(refine aA.own (by first|exact FR) rfl ?_;simp -dsimp only[go_sem,cC,cFd,cFd,G,u])
      |(refine aA.flat (by first|exact J|exact H) rfl ?_;simp -dsimp only[go_sem,cC,cFd,cFd,G,u])
      |(refine aA.pure (by first|exact J|exact H) ?_;simp -dsimp only[go_sem,cC,cFd,cFd,G,u])
      |((first|refine aC ?_|refine aC9 ?_);try simp -dsimp only[go_sem,cC,cFd,cFd,G,u])
      |fail)
    all_goals first|omega|exact⟨_,_,rfl,rfl⟩
  .rw[AJ c1] at J;have G:(bD 0 1 a==0)=false:=Ap.2 c1;obtain⟨v2,hm⟩:∃v,(if bD 0 1 b=0 then(.sl 1 (E cC (eU 0 1 b)):AV) else .v (.slice none 0 0))=v:=⟨_,rfl⟩;have u:True:=trivial;obtain⟨O,U,z,hz,L⟩:=gN l y4 V (by omega);refine⟨a,b,O,U,0,1,Y,Z,?_⟩;by_cases M:bD 0 1 b=0
   .rw[AY M] at H;refine fnR CdV.DrawSplitHolds_ok CdV.DrawSplitHolds_nt CdV.DrawSplitHolds_rs [] [] λX=>?_;unfold CdV.DrawSplitHolds;simp -dsimp only[go_sem,cC,cFd,cFd,G,u]
    repeat' (first
      |(refine RgK.mk rfl ?_;simp -dsimp only[go_sem,cC,cFd,cFd,G,u])
      |(refine RgK.ord Tryz.mixed [[],[],[],[2],[],[0,3],[1,5],[3,6],[4,7]] [0,1,2,5,6] rfl rfl (by decide) (T0:=[3,4,7,8]) rfl (n:=4) rfl rfl ?_;simp -dsimp only[go_sem,vcF,pv,vcO,AU,Bh,Option.isSome_some,cC,cFd,cFd,G,u])
      |(refine OrK.yes rfl ?_ ?_<;>try simp -dsimp only[go_sem,vcO,cC,cFd,cFd,G,u])
      |refine OrK.no rfl ?_
      |exact OrK.nil
      |(refine Br.mk (λh=>?_) (λh=>?_)<;>simp -dsimp only[go_sem,h,cC,cFd,cFd,G,u])
      |(refine aA.bor (by first|exact P1|exact DA|exact DB|exact L) rfl ?_;simp -dsimp only[go_sem,cC,cFd,cFd,G,u])
      |(refine aA.own (by first|exact FR) rfl ?_;simp -dsimp only[go_sem,cC,cFd,cFd,G,u])
      |(refine aA.flat (by first|exact J|exact H) rfl ?_;simp -dsimp only[go_sem,cC,cFd,cFd,G,u])
      |(refine aA.pure (by first|exact J|exact H) ?_;simp -dsimp only[go_sem,cC,cFd,cFd,G,u])
      |((first|refine aC ?_|refine aC9 ?_);try simp -dsimp only[go_sem,cC,cFd,cFd,G,u])
      |fail)
    all_goals first|omega|exact⟨_,_,rfl,rfl⟩
   .rw[AJ M] at H;refine fnR CdV.DrawSplitHolds_ok CdV.DrawSplitHolds_nt CdV.DrawSplitHolds_rs [] [] λX=>?_;unfold CdV.DrawSplitHolds;simp -dsimp only[go_sem,cC,cFd,cFd,G,u]
    repeat' (first
      |(refine RgK.mk rfl ?_;simp -dsimp only[go_sem,cC,cFd,cFd,G,u])
      |(refine RgK.ord Tryz.mixed [[],[],[],[2],[],[0,3],[1,5],[3,6],[4,7]] [0,1,2,5,6] rfl rfl (by decide) (T0:=[3,4,7,8]) rfl (n:=4) rfl rfl ?_;simp -dsimp only[go_sem,vcF,pv,vcO,AU,Bh,Option.isSome_some,cC,cFd,cFd,G,u])
      |(refine OrK.yes rfl ?_ ?_<;>try simp -dsimp only[go_sem,vcO,cC,cFd,cFd,G,u])
      |refine OrK.no rfl ?_
      |exact OrK.nil
      |(refine Br.mk (λh=>?_) (λh=>?_)<;>simp -dsimp only[go_sem,h,cC,cFd,cFd,G,u])
      |(refine aA.bor (by first|exact P1|exact DA|exact DB|exact L) rfl ?_;simp -dsimp only[go_sem,cC,cFd,cFd,G,u])
      |(refine aA.own (by first|exact FR) rfl ?_;simp -dsimp only[go_sem,cC,cFd,cFd,G,u])
      |(refine aA.flat (by first|exact J|exact H) rfl ?_;simp -dsimp only[go_sem,cC,cFd,cFd,G,u])
      |(refine aA.pure (by first|exact J|exact H) ?_;simp -dsimp only[go_sem,cC,cFd,cFd,G,u])
      |((first|refine aC ?_|refine aC9 ?_);try simp -dsimp only[go_sem,cC,cFd,cFd,G,u])
      |fail)
    all_goals first|omega|exact⟨_,_,rfl,rfl⟩
 .obtain⟨k0,k1,y2,hp,hc⟩:=wM l y1 V (by omega);obtain⟨a,y3,he,hj,hn,DA⟩:=zJ l y2 V 6 (by omega) (by omega);obtain⟨b,y4,hf,hk,ho,DB⟩:=zJ l y3 V 6 (by omega) (by omega);have Y:bE a:=bQ (w:=5) (by omega) (vK he (by omega));have Z:bE b:=bQ (w:=5) (by omega) (vK hf (by omega));have J:=jL a k0 k1 Y.2 Y.1;have H:=jL b k0 k1 Z.2 Z.1;unfold oF at J H;by_cases c1:bD k0 k1 a=0
  .rw[AY c1,c1] at J;have G:((0:Int)==0)=true:=rfl;by_cases M:bD k0 k1 b=0
   .rw[AY M,M] at H;have u:((0:Int)==0)=true:=rfl;have P6:=one l y4 V 6 (by omega);have q6:=aQ l y4 6;obtain⟨b6,hd⟩:∃b,(pkV l y4 6==0)=b:=⟨_,rfl⟩;rw[hd] at P6;generalize pkS l y4 6=y5 at *
    obtain⟨O,U,z,hz,L⟩:=gN l y5 V (by omega);cases b6
    .refine⟨eU k0 k1 a,eU k0 k1 b,O,U,k0,k1,vW Y,vW Z,?_⟩;refine fnR CdV.DrawSplitHolds_ok CdV.DrawSplitHolds_nt CdV.DrawSplitHolds_rs [] [] λX=>?_;unfold CdV.DrawSplitHolds;simp -dsimp only[go_sem,cC,cFd,cFd,G,u]
     repeat' (first
       |(refine RgK.mk rfl ?_;simp -dsimp only[go_sem,cC,cFd,cFd,G,u])
       |(refine RgK.ord Tryz.mixed [[],[],[],[2],[],[0,3],[1,5],[3,6],[4,7]] [0,1,2,5,6] rfl rfl (by decide) (T0:=[3,4,7,8]) rfl (n:=4) rfl rfl ?_;simp -dsimp only[go_sem,vcF,pv,vcO,AU,Bh,Option.isSome_some,cC,cFd,cFd,G,u])
       |(refine OrK.yes rfl ?_ ?_<;>try simp -dsimp only[go_sem,vcO,cC,cFd,cFd,G,u])
       |refine OrK.no rfl ?_
       |exact OrK.nil
       |(refine Br.mk (λh=>?_) (λh=>?_)<;>simp -dsimp only[go_sem,h,cC,cFd,cFd,G,u])
       |(refine aA.bor (by first|exact P1|exact hc|exact DA|exact DB|exact L|exact P6) rfl ?_;simp -dsimp only[go_sem,cC,cFd,cFd,G,u])
       |(refine aA.own (by first|exact FR) rfl ?_;simp -dsimp only[go_sem,cC,cFd,cFd,G,u])
       |(refine aA.flat (by first|exact J|exact H) rfl ?_;simp -dsimp only[go_sem,cC,cFd,cFd,G,u])
       |(refine aA.pure (by first|exact J|exact H) ?_;simp -dsimp only[go_sem,cC,cFd,cFd,G,u])
       |((first|refine aC ?_|refine aC9 ?_);try simp -dsimp only[go_sem,cC,cFd,cFd,G,u])
       |fail)
     all_goals first|omega|exact⟨_,_,rfl,rfl⟩
    .refine⟨a,b,O,U,k0,k1,Y,Z,?_⟩;refine fnR CdV.DrawSplitHolds_ok CdV.DrawSplitHolds_nt CdV.DrawSplitHolds_rs [] [] λX=>?_;unfold CdV.DrawSplitHolds;simp -dsimp only[go_sem,cC,cFd,cFd,G,u]
     repeat' (first
       |(refine RgK.mk rfl ?_;simp -dsimp only[go_sem,cC,cFd,cFd,G,u])
       |(refine RgK.ord Tryz.mixed [[],[],[],[2],[],[0,3],[1,5],[3,6],[4,7]] [0,1,2,5,6] rfl rfl (by decide) (T0:=[3,4,7,8]) rfl (n:=4) rfl rfl ?_;simp -dsimp only[go_sem,vcF,pv,vcO,AU,Bh,Option.isSome_some,cC,cFd,cFd,G,u])
       |(refine OrK.yes rfl ?_ ?_<;>try simp -dsimp only[go_sem,vcO,cC,cFd,cFd,G,u])
       |refine OrK.no rfl ?_
       |exact OrK.nil
       |(refine Br.mk (λh=>?_) (λh=>?_)<;>simp -dsimp only[go_sem,h,cC,cFd,cFd,G,u])
       |(refine aA.bor (by first|exact P1|exact hc|exact DA|exact DB|exact L|exact P6) rfl ?_;simp -dsimp only[go_sem,cC,cFd,cFd,G,u])
       |(refine aA.own (by first|exact FR) rfl ?_;simp -dsimp only[go_sem,cC,cFd,cFd,G,u])
       |(refine aA.flat (by first|exact J|exact H) rfl ?_;simp -dsimp only[go_sem,cC,cFd,cFd,G,u])
       |(refine aA.pure (by first|exact J|exact H) ?_;simp -dsimp only[go_sem,cC,cFd,cFd,G,u])
       |((first|refine aC ?_|refine aC9 ?_);try simp -dsimp only[go_sem,cC,cFd,cFd,G,u])
       |fail)
     all_goals first|omega|exact⟨_,_,rfl,rfl⟩
   .rw[AJ M] at H;have u:(bD k0 k1 b==0)=false:=Ap.2 M;obtain⟨O,U,z,hz,L⟩:=gN l y4 V (by omega);refine⟨a,b,O,U,k0,k1,Y,Z,?_⟩;refine fnR CdV.DrawSplitHolds_ok CdV.DrawSplitHolds_nt CdV.DrawSplitHolds_rs [] [] λX=>?_;unfold CdV.DrawSplitHolds;simp -dsimp only[go_sem,cC,cFd,cFd,G,u]
    repeat' (first
      |(refine RgK.mk rfl ?_;simp -dsimp only[go_sem,cC,cFd,cFd,G,u])
      |(refine RgK.ord Tryz.mixed [[],[],[],[2],[],[0,3],[1,5],[3,6],[4,7]] [0,1,2,5,6] rfl rfl (by decide) (T0:=[3,4,7,8]) rfl (n:=4) rfl rfl ?_;simp -dsimp only[go_sem,vcF,pv,vcO,AU,Bh,Option.isSome_some,cC,cFd,cFd,G,u])
      |(refine OrK.yes rfl ?_ ?_<;>try simp -dsimp only[go_sem,vcO,cC,cFd,cFd,G,u])
      |refine OrK.no rfl ?_
      |exact OrK.nil
      |(refine Br.mk (λh=>?_) (λh=>?_)<;>simp -dsimp only[go_sem,h,cC,cFd,cFd,G,u])
      |(refine aA.bor (by first|exact P1|exact hc|exact DA|exact DB|exact L) rfl ?_;simp -dsimp only[go_sem,cC,cFd,cFd,G,u])
      |(refine aA.own (by first|exact FR) rfl ?_;simp -dsimp only[go_sem,cC,cFd,cFd,G,u])
      |(refine aA.flat (by first|exact J|exact H) rfl ?_;simp -dsimp only[go_sem,cC,cFd,cFd,G,u])
      |(refine aA.pure (by first|exact J|exact H) ?_;simp -dsimp only[go_sem,cC,cFd,cFd,G,u])
      |((first|refine aC ?_|refine aC9 ?_);try simp -dsimp only[go_sem,cC,cFd,cFd,G,u])
      |fail)
    all_goals first|omega|exact⟨_,_,rfl,rfl⟩
  .rw[AJ c1] at J;have G:(bD k0 k1 a==0)=false:=Ap.2 c1;obtain⟨v2,hm⟩:∃v,(if bD k0 k1 b=0 then(.sl 1 (E cC (eU k0 k1 b)):AV) else .v (.slice none 0 0))=v:=⟨_,rfl⟩;have u:True:=trivial;obtain⟨O,U,z,hz,L⟩:=gN l y4 V (by omega);refine⟨a,b,O,U,k0,k1,Y,Z,?_⟩;by_cases M:bD k0 k1 b=0
   .rw[AY M] at H;refine fnR CdV.DrawSplitHolds_ok CdV.DrawSplitHolds_nt CdV.DrawSplitHolds_rs [] [] λX=>?_;unfold CdV.DrawSplitHolds;simp -dsimp only[go_sem,cC,cFd,cFd,G,u]
    repeat' (first
      |(refine RgK.mk rfl ?_;simp -dsimp only[go_sem,cC,cFd,cFd,G,u])
      |(refine RgK.ord Tryz.mixed [[],[],[],[2],[],[0,3],[1,5],[3,6],[4,7]] [0,1,2,5,6] rfl rfl (by decide) (T0:=[3,4,7,8]) rfl (n:=4) rfl rfl ?_;simp -dsimp only[go_sem,vcF,pv,vcO,AU,Bh,Option.isSome_some,cC,cFd,cFd,G,u])
      |(refine OrK.yes rfl ?_ ?_<;>try simp -dsimp only[go_sem,vcO,cC,cFd,cFd,G,u])
      |refine OrK.no rfl ?_
      |exact OrK.nil
      |(refine Br.mk (λh=>?_) (λh=>?_)<;>simp -dsimp only[go_sem,h,cC,cFd,cFd,G,u])
      |(refine aA.bor (by first|exact P1|exact hc|exact DA|exact DB|exact L) rfl ?_;simp -dsimp only[go_sem,cC,cFd,cFd,G,u])
      |(refine aA.own (by first|exact FR) rfl ?_;simp -dsimp only[go_sem,cC,cFd,cFd,G,u])
      |(refine aA.flat (by first|exact J|exact H) rfl ?_;simp -dsimp only[go_sem,cC,cFd,cFd,G,u])
      |(refine aA.pure (by first|exact J|exact H) ?_;simp -dsimp only[go_sem,cC,cFd,cFd,G,u])
      |((first|refine aC ?_|refine aC9 ?_);try simp -dsimp only[go_sem,cC,cFd,cFd,G,u])
      |fail)
    all_goals first|omega|exact⟨_,_,rfl,rfl⟩
   .rw[AJ M] at H;refine fnR CdV.DrawSplitHolds_ok CdV.DrawSplitHolds_nt CdV.DrawSplitHolds_rs [] [] λX=>?_;unfold CdV.DrawSplitHolds;simp -dsimp only[go_sem,cC,cFd,cFd,G,u]
    repeat' (first
      |(refine RgK.mk rfl ?_;simp -dsimp only[go_sem,cC,cFd,cFd,G,u])
      |(refine RgK.ord Tryz.mixed [[],[],[],[2],[],[0,3],[1,5],[3,6],[4,7]] [0,1,2,5,6] rfl rfl (by decide) (T0:=[3,4,7,8]) rfl (n:=4) rfl rfl ?_;simp -dsimp only[go_sem,vcF,pv,vcO,AU,Bh,Option.isSome_some,cC,cFd,cFd,G,u])
      |(refine OrK.yes rfl ?_ ?_<;>try simp -dsimp only[go_sem,vcO,cC,cFd,cFd,G,u])
      |refine OrK.no rfl ?_
      |exact OrK.nil
      |(refine Br.mk (λh=>?_) (λh=>?_)<;>simp -dsimp only[go_sem,h,cC,cFd,cFd,G,u])
      |(refine aA.bor (by first|exact P1|exact hc|exact DA|exact DB|exact L) rfl ?_;simp -dsimp only[go_sem,cC,cFd,cFd,G,u])
      |(refine aA.own (by first|exact FR) rfl ?_;simp -dsimp only[go_sem,cC,cFd,cFd,G,u])
      |(refine aA.flat (by first|exact J|exact H) rfl ?_;simp -dsimp only[go_sem,cC,cFd,cFd,G,u])
      |(refine aA.pure (by first|exact J|exact H) ?_;simp -dsimp only[go_sem,cC,cFd,cFd,G,u])
      |((first|refine aC ?_|refine aC9 ?_);try simp -dsimp only[go_sem,cC,cFd,cFd,G,u])
      |fail)
    all_goals first|omega|exact⟨_,_,rfl,rfl⟩
end
end Go.Proofs.YtmiiohemehacjaaGreatDoor
