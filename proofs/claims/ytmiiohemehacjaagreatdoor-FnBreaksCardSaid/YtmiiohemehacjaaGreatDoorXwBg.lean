/- A flow run by the reference: its trays handed over. -/
import Derived.Test.YtmiiohemehacjaaGreatDoorXwPd
import Derived.Test.YtmiiohemehacjaaGreatDoorXwVu
import Derived.Test.YtmiiohemehacjaaGreatDoorXwD
import Derived.Test.YtmiiohemehacjaaGreatDoorXwGz
set_option linter.all false
set_option maxHeartbeats 8000000
namespace Go.Proofs.YtmiiohemehacjaaGreatDoor
open Go.Vs
section
variable [Vs.Envs]
attribute [local irreducible] Vs.Fn nxV nxS pkV pkS ptN crd dW dtF lH wO rR bB dsC
theorem aDg (l:List Int):Vs.Fn Tryz.prog F.mO [] [.sl 1 (E cU l)] (.ptr (.b 0) 0 0) [some (.var [.sl 1 (E cU l),.v (.int .i64 0),.v (.int .u64 0)] false)]:=by
 refine fn1 Cd.s_l00From_k [.t 5 0] [sB l ⟨0,0⟩] λX=>?_;unfold Cd.mO
 repeat' first|simp -dsimp only[go_sem,Int.reduceBEq,Int.reduceBNe,cC,aH,Ai,Ah,Al,Aq,Ad,Af,Ac,Ae,Aa,Ab,Ao,Ar,Ay,Az,Bo,Bq,Vs.Name.t.injEq,Ak,AB,aW,aX,bG,sB,AA,AO,AP]|apply Br.mk<;>intro h<;>try simp -dsimp only[h]|refine aC ?_|refine aC9 ?_|fail
 all_goals exact⟨_,_,rfl,rfl⟩
end
section
variable [Vs.Envs]
attribute [local irreducible] Vs.Fn nxV nxS pkV pkS ptN crd dW dtF lH
open Go.Vs.Q in
def CdV.l15Spoil:aF:=s [m 4 0,o 5 (.call (.func F.aD) [4,(k 8)] [0])] [0,1,5]<|.block 0 (s [en 7 5 0,m 6 7] [0,1,5,6]<|.cond 6 (.region [m 8 1,m 9 0,o 10 (.bslice 1 4 [.v (.int .i64 (0))] [(0,(k 0)),(1,(k 7)),(2,(k 8)),(3,(k (-1)))]),o 11 (.call (.func F.bA) [9,10] [0]),nc 12 8,fa 13 0
 12,⟨none,.store 1 13 11,none⟩] [] []) (s [en 15 5 1,m 14 15] [0,1,5,14]<|.cond 14 (.region [m 16 1,m 17 0,o 18 (.bslice 1 3 [.v (.int .i64 (0))] [(0,(k (-1))),(1,(k 5)),(2,(k 6))]),o 19 (.call (.func F.bA) [17,18] [0]),nc 20 16,fa 21 1 20,⟨none,.store 1 21 19,none⟩] [] []) (s [en 23
 5 2,m 22 23] [0,1,5,22]<|.cond 22 (.region [m 24 1,m 25 0,o 26 (.bslice 1 4 [.v (.int .i64 (0))] [(0,(k (-1))),(1,(k 1)),(2,(k 5)),(3,(k 6))]),o 27 (.call (.func F.bA) [25,26] [0]),nc 28 24,fa 29 2 28,⟨none,.store 1 29 27,none⟩] [] []) (s [en 31 5 3,m 30 31] [0,1,5,30]<|.cond 30
 (.region [m 32 1,m 33 0,o 34 (.bslice 1 3 [.v (.int .i64 (0))] [(0,(k (-1))),(1,(k 5)),(2,(k 6))]),o 35 (.call (.func F.bA) [33,34] [0]),nc 36 32,fa 37 3 36,⟨none,.store 1 37 35,none⟩] [] []) (s [en 39 5 4,m 38 39] [0,1,5,38]<|.cond 38 (.region [m 40 1,m 41 0,o 42 (.call (.func
 F.kF) [41,(k 5)] [0]),nc 43 40,fa 44 4 43,⟨none,.store 2 44 42,none⟩] [] []) (s [en 46 5 5,m 45 46] [0,1,5,45]<|.cond 45 (.region [m 47 1,m 48 0,o 49 (.call (.func F.kF) [48,(k 5)] [0]),nc 50 47,fa 51 6 50,⟨none,.store 2 51 49,none⟩] [] []) (s [en 53 5 6,m 52 53]
 [0,1,5,52]<|.cond 52 (.region [m 54 1,m 55 0,o 56 (.bslice 1 4 [.v (.string ⟨#[]⟩)] [(0,(.const (.string ⟨#[]⟩))),(1,(.const (.string ⟨#[65]⟩))),(2,(.const (.string ⟨#[97]⟩))),(3,(.const (.string ⟨#[65,66]⟩)))]),o 57 (.call (.func F.fM) [55,56] [0]),nc 58 54,fa 59 8 58,⟨none,.store 1
 59 57,none⟩] [] []) (s [en 61 5 7,m 60 61] [0,1,60]<|.cond 60 (.region [m 62 1,m 63 0,o 64 (.call (.func F.aD) [63,(k 2)] [0]),o 65 (.bin .add (k 13) 64),o 66 (.build [.v (.int .i64 (0)),.v (.int .i64 (0))] [(0,1,(k 1)),(1,1,65)]),nc 67 62,fa 68 6 67,⟨none,.store 2 68 66,none⟩] []
 []) .skip))))))))
theorem CdV.l15Spoil_k:CK 134 Tryz.f134 CdV.l15Spoil 69 []:=ck Tryz.func134
attribute [go_sem] CdV.l15Spoil
open Go.Vs.Q in
def CdV.l02DrawField:aF:=s [o 4 (.alloc [.v (.int .i64 (0)),.v (.int .i64 (0))])] [0,1,4]<|.seq (s [m 7 0,o 8 (.call (.func F.aV) [7,(k 12)] [0])] [0,1,4,8]<|.cond 8 (s [m 9 0,m 10 1,o 11 (.bslice 1 6 [.v (.int .i64 (0))] [(0,(k (-1))),(1,(k 0)),(2,(k 1)),(3,10),(4,(k 9223372036854775807)),(5,(k
 (-9223372036854775808)))]),o 12 (.call (.func F.bA) [9,11] [0]),m 5 12] [0,1,4,5]<|s [m 13 5,m 14 0,m 15 1,m 16 1,ad 17 16 1,o 18 (.bslice 1 5 [.v (.int .i64 (0))] [(0,(k 0)),(1,(k 1)),(2,15),(3,17),(4,(k 9223372036854775807))]),o 19 (.call (.func F.bA) [14,18]
 [0]),o 20 (.build [.v (.int .i64 (0)),.v (.int .i64 (0))] [(0,1,13),(1,1,19)]),⟨none,.store 2 4 20,none⟩] [4]<|.ret) .skip)<|s [m 21 0,m 22 1,c 23 F.uO [(k 1),22],o 24 (.call (.func F.aD) [21,23] [0]),m 6 24] [0,1,4,6]<|s [m 25 6,m 26 6,ad 27 26 1,m 28 0,m 29 1,m 30 6,o 31
 (.bin .sub 29 30),c 32 F.uO [(k 1),31],o 33 (.call (.func F.aD) [28,32] [0]),o 34 (.bin .add 27 33),o 35 (.build [.v (.int .i64 (0)),.v (.int .i64 (0))] [(0,1,25),(1,1,34)]),⟨none,.store 2 4 35,none⟩] [4]<|.ret
theorem CdV.l02DrawField_k:CK 49 Tryz.f49 CdV.l02DrawField 36 [.cell 4 41]:=ck Tryz.func49
attribute [go_sem] CdV.l02DrawField
theorem aJ9 (a b:Int):Fz F.uO [.v (.int .i64 a),.v (.int .i64 b)] (.v (.int .i64 (if a>b then a else b))):=by
 refine fn0 Cd.s_l00Max_k λX=>?_
 repeat' first|simp -dsimp only[go_sem]|apply Br.mk<;>intro h<;>try simp -dsimp only[h]|refine aC ?_|refine aC9 ?_|fail
 all_goals(first|(refine aU ?_;simp_all;done)|(simp_all;done)|(simp_all;omega))
attribute [local go_sem] Int.reduceBEq Int.reduceBNe cC aH Ai Ah Al Aq Ad Af Ac Ae Aa Ab Ao Ar Ay Az Bo Bq Vs.Name.t.injEq Ak AB aW aX bG AA AO AP Int.reduceAdd Int.reduceSub in
theorem wM (l:List Int) (x:Sr) (u:byt l) (hp:x.p<=2900):∃Y Z z,z.p<=x.p+8∧Vs.Fn Tryz.prog F.kF [sB l x] [.ptr (.b 0) 0 0,.v (.int .i64 5)] (.agg [.v (.int .i64 Y),.v (.int .i64 Z)]) [some (sB l z)]:=by
 have G:=one l x u 12 (by omega);have q1:=aQ l x 12;obtain⟨V,H⟩:∃b,(pkV l x 12==0)=b:=⟨_,rfl⟩;rw[H] at G;generalize pkS l x 12=y1 at *
 cases V
 .have h2:=bC u y1 (n:=5) (by omega);have O:=pick l y1 u 5 (by omega);have q2:=aQ l y1 5;generalize pkV l y1 5=v2 at *
  generalize pkS l y1 5=y2 at *
  have I:=aJ9 1 5;rw[show(if(1:Int)>5 then(1:Int) else 5)=5 from rfl] at I;have w5:IntKind.i64.wrap (5-v2)=5-v2:=aM (by omega) (by omega);have J:=aJ9 1 (5-v2);rw[show(if(1:Int)>5-v2 then(1:Int) else 5-v2)=5-v2 by split<;>omega] at J;have U:=pick l y2 u (5-v2) (by omega);have q3:=aQ l y2 (5-v2);generalize pkV l y2 (5-v2)=v3 at *
  generalize pkS l y2 (5-v2)=z at *
  refine⟨v2,IntKind.i64.wrap (IntKind.i64.wrap (v2+1)+v3),z,by omega,?_⟩;refine fn1 CdV.l02DrawField_k [.b 0] [sB l z] λX=>?_;unfold CdV.l02DrawField
  repeat' first|simp -dsimp only[go_sem,sB,w5]|apply Br.mk<;>intro h<;>try simp -dsimp only[h]|refine aA.bor (by first|exact G|exact O|exact U) rfl ?_|refine aA.c (by first|exact I|exact J) ?_|refine aC ?_|refine aC9 ?_|fail
  all_goals first|exact⟨_,_,rfl,rfl⟩
 .have L:=among l y1 u [-1,0,1,5,9223372036854775807,-9223372036854775808] (by omega) (by simp) (by simp);have q2:=aQ l y1 (([-1,0,1,5,9223372036854775807,-9223372036854775808]:List Int).length:Nat);generalize([-1,0,1,5,9223372036854775807,-9223372036854775808]:List Int).getD _ 0=v2 at *
  generalize pkS l y1 (([-1,0,1,5,9223372036854775807,-9223372036854775808]:List Int).length:Nat)=y2 at *
  have M:=among l y2 u [0,1,5,6,9223372036854775807] (by omega) (by simp) (by simp);have q3:=aQ l y2 (([0,1,5,6,9223372036854775807]:List Int).length:Nat);generalize([0,1,5,6,9223372036854775807]:List Int).getD _ 0=v3 at *
  generalize pkS l y2 (([0,1,5,6,9223372036854775807]:List Int).length:Nat)=z at *
  have w6:IntKind.i64.wrap (5+1)=6:=rfl;refine⟨v2,v3,z,by omega,?_⟩;refine fn1 CdV.l02DrawField_k [.b 0] [sB l z] λX=>?_;unfold CdV.l02DrawField
  repeat' first|simp -dsimp only[go_sem,sB,w6]|apply Br.mk<;>intro h<;>try simp -dsimp only[h]|refine aA.bor (by first|exact G) rfl ?_|refine aA.borM (by first|exact L|exact M) rfl ?_|refine aC ?_|refine aC9 ?_|fail
  all_goals first|exact⟨_,_,rfl,rfl⟩
theorem aB7 {o:List Stp}{i:Nat} (hi:i<o.length):(E cS o).getD i []=[.v (.int .i64 o[i].kind),.v (.int .i64 o[i].a),.v (.int .i64 o[i].b),.v (.int .i64 o[i].to),.v (.int .i64 o[i].f0),.v (.int .i64 o[i].f1),.v (.int .i64 o[i].s0),.v (.int .i64 o[i].s1),.v (.string o[i].text)]:=aR hi
theorem yK (o:List Stp) (i:Nat) (y:Stp):(E cS o).set i [.v (.int .i64 y.kind),.v (.int .i64 y.a),.v (.int .i64 y.b),.v (.int .i64 y.to),.v (.int .i64 y.f0),.v (.int .i64 y.f1),.v (.int .i64 y.s0),.v (.int .i64 y.s1),.v (.string y.text)]=E cS (o.set i y):=by simp[E,Db,cS]
theorem spW {p:Prop} (h:p:=by
  refine fn1 CdV.l15Spoil_k [.b 0,.b 1] [sB l z,.arr 9 (E cS (o.set i ns)) false] λX=>?_;unfold CdV.l15Spoil
  repeat' first|simp -dsimp only[go_sem,Int.reduceBEq,Int.reduceBNe,cC,aH,Ai,Ah,Al,Aq,Ad,Af,Ac,Ae,Aa,Ab,Ao,Ar,Ay,Az,Bo,Bq,Vs.Name.t.injEq,Ak,AB,aW,aX,bG,sB,AA,AO,AP,Int.reduceAdd,Int.reduceSub,Vs.Name.b.injEq,Nat.one_ne_zero,Nat.zero_ne_one,and_true,and_false,Ci,false_and,cS,hlo,hgi,hst,aH,Ak,AB,Ac,Ae,Dk,CZ,DJ,Di,Ad,Af]|apply Br.mk<;>intro h<;>try simp -dsimp only[h]|refine aA.bor (by first|exact P1|exact P2|exact DF) rfl ?_|refine aA.borM (by first|exact A1) rfl ?_|refine aC ?_|refine aC9 ?_|fail
  all_goals first|omega|exact⟨_,_,rfl,rfl⟩|(refine⟨⟨by omega,by omega⟩,?_⟩;exact⟨_,_,rfl,rfl⟩)):p:=h
theorem tx4 (i:Nat):(([⟨#[]⟩,⟨#[65]⟩,⟨#[97]⟩,⟨#[65,66]⟩]:List ByteArray).getD i ⟨#[]⟩).size<=2:=by
 rcases i with _|_|_|_|i<;>first|decide|exact BX _
theorem aMd (l:List Int) (x:Sr) (I:byt l) (hp:x.p<=2800) (o:List Stp) (i:Nat) (hi:i<o.length) (ho:o.length<=100) (H:o[i].text.size<=2):∃s z,z.p<=x.p+20∧s.text.size<=2∧Vs.Fn Tryz.prog F.oJ [sB l x,.arr 9 (E cS o) false] [.ptr (.b 0) 0 0,.ptr (.b 1) i 0] (.tup []) [some (sB l z),some (.arr 9 (E cS (o.set i s)) false)]:=by
 have hlo:(E cS o).length=o.length:=aH _;have P1:=pick l x I 8 (by omega);have q1:=aQ l x 8;have h1:=bC I x (n:=8) (by omega);generalize pkV l x 8=v1 at *
 generalize pkS l x 8=y1 at *
 have Z:v1=0∨v1=1∨v1=2∨v1=3∨v1=4∨v1=5∨v1=6∨v1=7:=by omega
 rcases Z with rfl|rfl|rfl|rfl|rfl|rfl|rfl|rfl
 .have A1:=among l y1 I [0,7,8,-1] (by omega) (by simp) (by simp);have J:=aQ l y1 (([0,7,8,-1]:List Int).length:Nat);generalize([0,7,8,-1]:List Int).getD _ 0=w at *
  generalize pkS l y1 (([0,7,8,-1]:List Int).length:Nat)=z at *
  refine⟨⟨w,o[i].a,o[i].b,o[i].to,o[i].f0,o[i].f1,o[i].s0,o[i].s1,o[i].text⟩,z,by omega,by show o[i].text.size<=2;exact H,?_⟩;have hgi:=aB7 hi;have hst:=yK o i ⟨w,o[i].a,o[i].b,o[i].to,o[i].f0,o[i].f1,o[i].s0,o[i].s1,o[i].text⟩;dsimp only at hst;generalize o[i]=s at *
  generalize(⟨w,s.a,s.b,s.to,s.f0,s.f1,s.s0,s.s1,s.text⟩:Stp)=ns at *
  exact spW
 .have A1:=among l y1 I [-1,5,6] (by omega) (by simp) (by simp);have J:=aQ l y1 (([-1,5,6]:List Int).length:Nat);generalize([-1,5,6]:List Int).getD _ 0=w at *
  generalize pkS l y1 (([-1,5,6]:List Int).length:Nat)=z at *
  refine⟨⟨o[i].kind,w,o[i].b,o[i].to,o[i].f0,o[i].f1,o[i].s0,o[i].s1,o[i].text⟩,z,by omega,by show o[i].text.size<=2;exact H,?_⟩;have hgi:=aB7 hi;have hst:=yK o i ⟨o[i].kind,w,o[i].b,o[i].to,o[i].f0,o[i].f1,o[i].s0,o[i].s1,o[i].text⟩;dsimp only at hst;generalize o[i]=s at *
  generalize(⟨s.kind,w,s.b,s.to,s.f0,s.f1,s.s0,s.s1,s.text⟩:Stp)=ns at *
  exact spW
 .have A1:=among l y1 I [-1,1,5,6] (by omega) (by simp) (by simp);have J:=aQ l y1 (([-1,1,5,6]:List Int).length:Nat);generalize([-1,1,5,6]:List Int).getD _ 0=w at *
  generalize pkS l y1 (([-1,1,5,6]:List Int).length:Nat)=z at *
  refine⟨⟨o[i].kind,o[i].a,w,o[i].to,o[i].f0,o[i].f1,o[i].s0,o[i].s1,o[i].text⟩,z,by omega,by show o[i].text.size<=2;exact H,?_⟩;have hgi:=aB7 hi;have hst:=yK o i ⟨o[i].kind,o[i].a,w,o[i].to,o[i].f0,o[i].f1,o[i].s0,o[i].s1,o[i].text⟩;dsimp only at hst;generalize o[i]=s at *
  generalize(⟨s.kind,s.a,w,s.to,s.f0,s.f1,s.s0,s.s1,s.text⟩:Stp)=ns at *
  exact spW
 .have A1:=among l y1 I [-1,5,6] (by omega) (by simp) (by simp);have J:=aQ l y1 (([-1,5,6]:List Int).length:Nat);generalize([-1,5,6]:List Int).getD _ 0=w at *
  generalize pkS l y1 (([-1,5,6]:List Int).length:Nat)=z at *
  refine⟨⟨o[i].kind,o[i].a,o[i].b,w,o[i].f0,o[i].f1,o[i].s0,o[i].s1,o[i].text⟩,z,by omega,by show o[i].text.size<=2;exact H,?_⟩;have hgi:=aB7 hi;have hst:=yK o i ⟨o[i].kind,o[i].a,o[i].b,w,o[i].f0,o[i].f1,o[i].s0,o[i].s1,o[i].text⟩;dsimp only at hst;generalize o[i]=s at *
  generalize(⟨s.kind,s.a,s.b,w,s.f0,s.f1,s.s0,s.s1,s.text⟩:Stp)=ns at *
  exact spW
 .obtain⟨L,M,z,J,DF⟩:=wM l y1 I (by omega);refine⟨⟨o[i].kind,o[i].a,o[i].b,o[i].to,L,M,o[i].s0,o[i].s1,o[i].text⟩,z,by omega,by show o[i].text.size<=2;exact H,?_⟩;have hgi:=aB7 hi;have hst:=yK o i ⟨o[i].kind,o[i].a,o[i].b,o[i].to,L,M,o[i].s0,o[i].s1,o[i].text⟩;dsimp only at hst;generalize o[i]=s at *
  generalize(⟨s.kind,s.a,s.b,s.to,L,M,s.s0,s.s1,s.text⟩:Stp)=ns at *
  exact spW
 .obtain⟨L,M,z,J,DF⟩:=wM l y1 I (by omega);refine⟨⟨o[i].kind,o[i].a,o[i].b,o[i].to,o[i].f0,o[i].f1,L,M,o[i].text⟩,z,by omega,by show o[i].text.size<=2;exact H,?_⟩;have hgi:=aB7 hi;have hst:=yK o i ⟨o[i].kind,o[i].a,o[i].b,o[i].to,o[i].f0,o[i].f1,L,M,o[i].text⟩;dsimp only at hst;generalize o[i]=s at *
  generalize(⟨s.kind,s.a,s.b,s.to,s.f0,s.f1,L,M,s.text⟩:Stp)=ns at *
  exact spW
 .have A1:=text l y1 I [⟨#[]⟩,⟨#[65]⟩,⟨#[97]⟩,⟨#[65,66]⟩] (by omega) (by simp) (by simp);have J:=aQ l y1 (([⟨#[]⟩,⟨#[65]⟩,⟨#[97]⟩,⟨#[65,66]⟩]:List ByteArray).length:Nat);have U:(([⟨#[]⟩,⟨#[65]⟩,⟨#[97]⟩,⟨#[65,66]⟩]:List ByteArray).getD (pkV l y1 (([⟨#[]⟩,⟨#[65]⟩,⟨#[97]⟩,⟨#[65,66]⟩]:List ByteArray).length:Nat)).toNat ⟨#[]⟩).size<=2:=tx4 _;unfold cSt at A1;simp only[Vs.E,AU,Bh] at A1;generalize([⟨#[]⟩,⟨#[65]⟩,⟨#[97]⟩,⟨#[65,66]⟩]:List ByteArray).getD _ ⟨#[]⟩=w at *
  generalize pkS l y1 (([⟨#[]⟩,⟨#[65]⟩,⟨#[97]⟩,⟨#[65,66]⟩]:List ByteArray).length:Nat)=z at *
  refine⟨⟨o[i].kind,o[i].a,o[i].b,o[i].to,o[i].f0,o[i].f1,o[i].s0,o[i].s1,w⟩,z,by omega,U,?_⟩;have hgi:=aB7 hi;have hst:=yK o i ⟨o[i].kind,o[i].a,o[i].b,o[i].to,o[i].f0,o[i].f1,o[i].s0,o[i].s1,w⟩;dsimp only at hst;generalize o[i]=s at *
  generalize(⟨s.kind,s.a,s.b,s.to,s.f0,s.f1,s.s0,s.s1,w⟩:Stp)=ns at *
  exact spW
 .have P2:=pick l y1 I 2 (by omega);have J:=aQ l y1 2;generalize pkV l y1 2=w at *
  generalize pkS l y1 2=z at *
  refine⟨⟨o[i].kind,o[i].a,o[i].b,o[i].to,o[i].f0,o[i].f1,1,IntKind.i64.wrap (13+w),o[i].text⟩,z,by omega,by show o[i].text.size<=2;exact H,?_⟩;have hgi:=aB7 hi;have hst:=yK o i ⟨o[i].kind,o[i].a,o[i].b,o[i].to,o[i].f0,o[i].f1,1,IntKind.i64.wrap (13+w),o[i].text⟩;dsimp only at hst;generalize o[i]=s at *
  generalize(⟨s.kind,s.a,s.b,s.to,s.f0,s.f1,1,IntKind.i64.wrap (13+w),s.text⟩:Stp)=ns at *
  exact spW
end
section
variable [Vs.Envs]
attribute [local irreducible] Vs.Fn nxV nxS pkV pkS ptN crd dW dtF lH
open Go.Vs.Q in
def CdV.l15DrawFlow:aF:=s [mn 2] [0]<|.seq (.naming 3 (.region [o 8 (.bslice 9 0 [.v (.int .i64 (0)),.v (.int .i64 (0)),.v (.int .i64 (0)),.v (.int .i64 (0)),.v (.int .i64 (0)),.v (.int .i64 (0)),.v (.int .i64 (0)),.v (.int .i64 (0)),.v (.string ⟨#[]⟩)] []),m 3 8] [0,3] []))<|.seq (s [m 9 0,o 10 (.call (.func
 F.aV) [9,(k 2)] [0])] [0,3,10]<|.cond 10 (s [m 11 0,o 12 (.call (.func F.aD) [11,(k 3)] [0]),m 4 12] [0,3,4]<|.naming 3 (.region [m 13 3,o 14 (.build [.v (.int .i64 (0)),.v (.int .i64 (0))] [(1,1,(k 1))]),m 15 4,o 16 (.build [.v (.int .i64 (0)),.v (.int .i64 (0)),.v
 (.int .i64 (0)),.v (.int .i64 (0)),.v (.int .i64 (0)),.v (.int .i64 (0)),.v (.int .i64 (0)),.v (.int .i64 (0)),.v (.string ⟨#[]⟩)] [(0,1,(k 1)),(4,2,14),(3,1,15)]),o 17 (.bslice 9 1 [.v (.int .i64 (0)),.v (.int .i64 (0)),.v (.int .i64 (0)),.v (.int .i64 (0)),.v (.int .i64 (0)),.v (.int .i64 (0)),.v
 (.int .i64 (0)),.v (.int .i64 (0)),.v (.string ⟨#[]⟩)] [(0,16)]),o 18 (.append 9 80 13 17),m 3 18] [0,3] [])) .skip)<|.seq (s [m 19 0,o 20 (.call (.func F.aD) [19,(k 6)] [0]),m 5 20] [0,3,5]<|.block 0 (.loop (.seq (s [m 21 5,o 22 (.bin .gtr 21 (k 0))] [0,3,5,22]<|.cond 22 .skip
 (.exit 0))<|.seq (.block 1 (.naming 3 (.region [m 25 3,m 26 0,o 27 (.call (.func F.iI) [26] [0]),o 28 (.bslice 9 1 [.v (.int .i64 (0)),.v (.int .i64 (0)),.v (.int .i64 (0)),.v (.int .i64 (0)),.v (.int .i64 (0)),.v (.int .i64 (0)),.v (.int .i64 (0)),.v (.int .i64 (0)),.v (.string ⟨#[]⟩)]
 [(0,27)]),o 29 (.append 9 80 25 28),m 3 29] [0,3,5] [])))<|.region [m 23 5,o 24 (.bin .sub 23 (k 1)),m 5 24] [0,3,5] [])))<|s [m 30 3,ln 31 30,m 6 31] [0,3,6]<|.seq (s [m 32 6,o 33 (.bin .gtr 32 (k 0)),m 34 33,mg 35 0 34 true,⟨some 36,.call (.func F.aV) [35,(k 10)] [0],some
 (34,true)⟩,pf 37 34 36] [0,3,6,37]<|.cond 37 (.region [m 38 0,m 39 3,m 40 0,m 41 6,o 42 (.call (.func F.aD) [40,41] [0]),ix 43 9 39 42,o 44 (.call (.func F.oJ) [38,43] [0,1])] [0,3] []) .skip)<|.seq (s [m 45 0,o 46 (.call (.func F.aV) [45,(k 24)] [0])]
 [0,3,46]<|.cond 46 (.seq (.naming 3 (.region [o 47 (.bslice 9 0 [.v (.int .i64 (0)),.v (.int .i64 (0)),.v (.int .i64 (0)),.v (.int .i64 (0)),.v (.int .i64 (0)),.v (.int .i64 (0)),.v (.int .i64 (0)),.v (.int .i64 (0)),.v (.string ⟨#[]⟩)] []),m 3 47] [0,3] []))<|s [m 48 0,o 49 (.call (.func
 F.aD) [48,(k 2)] [0]),o 50 (.bin .add (k 20) 49),m 7 50] [3,7]<|.block 2 (.loop (.seq (s [m 51 7,o 52 (.bin .gtr 51 (k 0))] [3,7,52]<|.cond 52 .skip (.exit 2))<|.seq (.block 3 (.naming 3 (.region [m 55 3,o 56 (.build [.v (.int .i64 (0)),.v (.int .i64 (0))] [(1,1,(k 1))]),o 57 (.build
 [.v (.int .i64 (0)),.v (.int .i64 (0))] [(0,1,(k 1)),(1,1,(k 3))]),o 58 (.build [.v (.int .i64 (0)),.v (.int .i64 (0)),.v (.int .i64 (0)),.v (.int .i64 (0)),.v (.int .i64 (0)),.v (.int .i64 (0)),.v (.int .i64 (0)),.v (.int .i64 (0)),.v (.string ⟨#[]⟩)] [(0,1,(k 7)),(4,2,56),(6,2,57)]),o 59 (.bslice 9
 1 [.v (.int .i64 (0)),.v (.int .i64 (0)),.v (.int .i64 (0)),.v (.int .i64 (0)),.v (.int .i64 (0)),.v (.int .i64 (0)),.v (.int .i64 (0)),.v (.int .i64 (0)),.v (.string ⟨#[]⟩)] [(0,58)]),o 60 (.append 9 80 55 59),m 3 60] [3,7] [])))<|.region [m 53 7,o 54 (.bin .sub 53 (k 1)),m 7 54] [3,7] [])))
 .skip)<|s [m 61 3,m 2 61] [2]<|.ret
theorem CdV.l15DrawFlow_k:CK 83 Tryz.f83 CdV.l15DrawFlow 62 [.tmp 2]:=ck Tryz.func83
attribute [go_sem] CdV.l15DrawFlow
def okZ (o:List Stp):Prop:=∀s,s∈o->s.text.size<=2
theorem aLr {o:List Stp}{s:Stp} (h:okZ o) (F:s.text.size<=2):okZ (o++[s]):=by
 intro t u;rcases Be.1 u with u|u
 .exact h t u
 .rw[Ar.1 u];exact F
theorem aHx {o:List Stp}{s:Stp}{i:Nat} (h:okZ o) (F:s.text.size<=2):okZ (o.set i s):=by
 intro t u;rcases CJ u with u|rfl
 .exact h t u
 .exact F
def stU (l:List Int):Nat->Sr->List Stp->List Stp->Sr->Prop
 |0,x,o,o',x'=>o'=o∧x'=x
 |k+1,x,o,o',x'=>∃s x1,s.text.size<=2∧x1.p<=x.p+30∧Vs.Fn Tryz.prog F.iI [sB l x] [.ptr (.b 0) 0 0] (.agg (cS s)) [some (sB l x1)]∧stU l k x1 (o++[s]) o' x'
theorem aGr {l:List Int} (H:byt l):∀(k:Nat) (x:Sr) (o:List Stp),x.p+30*k<=2900->okZ o->∃u F,(F.p<=x.p+30*k∧u.length=o.length+k∧okZ u)∧stU l k x o u F
 |0,x,o,_,h=>⟨o,x,⟨by omega,by omega,h⟩,rfl,rfl⟩
 | k+1,x,o,h,ho=>by
  obtain⟨s,J,I,G,O⟩:=aKz l x H (by omega);obtain⟨u,F,⟨U,h2,L⟩,M⟩:=aGr H k J (o++[s]) (by omega) (aLr ho I);exact⟨u,F,⟨by omega,by rw[h2,AC,A9];omega,L⟩,s,J,I,G,O,M⟩
abbrev O1 (l:List Int) (y:Sr) (n:Int) (b:Bool) (z:Sr):Prop:=Vs.Fn Tryz.prog F.aV [sB l y] [.ptr (.b 0) 0 0,.v (.int .i64 n)] (.v (.bool b)) [some (sB l z)]
abbrev PK (l:List Int) (y:Sr) (n v:Int) (z:Sr):Prop:=Vs.Fn Tryz.prog F.aD [sB l y] [.ptr (.b 0) 0 0,.v (.int .i64 n)] (.v (.int .i64 v)) [some (sB l z)]
def aED (t:Int):Stp:=⟨1,0,0,t,0,1,0,0,⟨#[]⟩⟩
def totS:Stp:=⟨7,0,0,0,0,1,1,3,⟨#[]⟩⟩
def rC (n:Nat):List Stp:=List.replicate n totS
theorem rA (n:Nat):(rC n).length=n:=Dg ..
theorem yY (n:Nat):okZ (rC n):=by
 intro t u;unfold rC at u;rw[(List.mem_replicate.1 u).2];exact BX _
theorem aJB (n:Nat):E cS (rC n)++[[.v (.int .i64 7),.v (.int .i64 0),.v (.int .i64 0),.v (.int .i64 0),.v (.int .i64 0),.v (.int .i64 1),.v (.int .i64 1),.v (.int .i64 3),.v (.string ⟨#[]⟩)]]=E cS (rC (n+1)):=by
 unfold rC;rw[List.replicate_succ',aS];rfl
theorem aId:E cS (rC 0)=[]:=rfl
section
attribute [local go_sem] Int.reduceBEq Int.reduceBNe cC aH Ai Ah Al Aq Ad Af Ac Ae Aa Ab Ao Ar Ay Az Bo Bq Vs.Name.t.injEq Ak AB aW aX bG sB AA AO AP cS aH Dk CZ DJ Di Vs.Name.b.injEq Nat.one_ne_zero Nat.zero_ne_one and_true and_false Ci false_and
set_option maxRecDepth 20000 in
theorem dfW {p:Prop} (h:p:=by
  first
    |refine fn1 CdV.l15DrawFlow_k [.b 0] [sB l y9] λX=>?_
    |refine fn1 CdV.l15DrawFlow_k [.b 0] [sB l y8] λX=>?_
  unfold CdV.l15DrawFlow
  repeat' first|simp -dsimp only[go_sem,e0,w20]|apply Br.mk<;>intro h<;>try simp -dsimp only[h]|refine aA.bor (by first|exact P2|exact P6|exact PT) rfl ?_|refine aC ?_|refine aC9 ?_|fail
  refine aO.at dM (X:={u:Nat×Sr×List Stp // (u.2.1.p+30*u.1<=2700)∧(u.1+u.2.2.length<=6)∧stU l u.1 u.2.1 u.2.2 o1 y4}) (λu=>[(3,.loc (.t 3 0) 0 u.1.2.2.length),(5,.v (.int .i64 (u.1.1:Nat)))]) (λu=>[(.b 0,sB l u.1.2.1),(.t 3 0,.arr 9 (E cS u.1.2.2) false)]) (λu=>u.1.1) (by first|exact⟨(k0,y3,[]),by dsimp only;omega,by dsimp only;simp only[Ab,Aa];omega,hT⟩|exact⟨(k0,y3,[aED to]),by dsimp only;omega,by dsimp only;simp only[Ab,Aa];omega,hT⟩) ?_ ?_
  . simp[Vs.LeL,Vs.look,aB,aP,aJ,Vs.hset,aK,Vs.E,sB,cS,aED]
  . rintro⟨⟨k,y,o⟩,M,O,J⟩
    dsimp only at M O J;simp -dsimp only[go_sem];refine Br.mk (λH=>?_) λH=>?_
    . obtain⟨k,rfl⟩:∃j,k=j+1:=⟨k-1,by simp at H;omega⟩
      have w:=aIi (k:=k) (by omega);obtain⟨s,V,hs,Z,Y,J⟩:=J;have G:E cS o++[[.v (.int .i64 s.kind),.v (.int .i64 s.a),.v (.int .i64 s.b),.v (.int .i64 s.to),.v (.int .i64 s.f0),.v (.int .i64 s.f1),.v (.int .i64 s.s0),.v (.int .i64 s.s1),.v (.string s.text)]]=E cS (o++[s]):=by rw[aS];rfl
      repeat' first|simp -dsimp only[go_sem,w,G]|apply Br.mk<;>intro h<;>try simp -dsimp only[h]|refine aA.bor (by first|exact Y) rfl ?_|refine aC ?_|refine aC9 ?_|fail

      all_goals first|omega|(refine⟨⟨(k,V,o++[s]),by dsimp only;omega,by dsimp only;rw[AC];simp only[Aa,Ab];omega,J⟩,?_,by simp only;omega⟩;simp[Vs.LeL,Vs.look,aB,aP,aJ,Vs.hset,aK,Vs.E,sB,cS];done)
    . obtain rfl:k=0:=by simp at H;omega
      obtain⟨rfl,rfl⟩:=J;have I:(E cS o1).take o1.length=E cS o1:=Ag (by rw[aH];exact AL _)
      try have L:(E cS (o1.set i9 s9)).take o1.length=E cS (o1.set i9 s9):=Ag (by rw[aH,Ao];exact AL _)
      repeat' first|simp -dsimp only[go_sem,e0,w20]|apply Br.mk<;>intro h<;>try simp -dsimp only[h]|refine aA.borG (by first|exact SP) rfl ?_|refine aA.bor (by first|exact P24|exact P10|exact PN|exact P2b) rfl ?_|refine And.intro ?_ (λh=>absurd rfl h)|refine aC ?_|refine aC9 ?_|fail

      all_goals first|omega|exact⟨_,_,rfl,rfl⟩|exact⟨⟨_,_,rfl,rfl⟩,λh=>absurd rfl h⟩|(refine⟨?_,λh=>absurd rfl h⟩;exact⟨_,_,rfl,rfl⟩)|(rw[I];exact⟨_,_,rfl,rfl⟩)|(rw[L];exact⟨_,_,rfl,rfl⟩)|skip
      all_goals
        refine aO.at dM (X:={u:Nat×Nat // u.1+u.2=20+e9}) (λu=>[(3,.loc (.t 3 0) 0 u.1.2),(7,.v (.int .i64 (u.1.1:Nat)))]) (λu=>[(.t 3 0,.arr 9 (E cS (rC u.1.2)) false)]) (λu=>u.1.1) ⟨(20+e9,0),rfl⟩ ?_ ?_
        . simp[Vs.LeL,Vs.look,aB,aP,aJ,Vs.hset,aK,aId,sB]
        . rintro⟨⟨k,j⟩,U⟩
          dsimp only at U;have F:(E cS (rC j)).length=j:=by rw[aH,rA]
          simp -dsimp only[go_sem,F];refine Br.mk (λH=>?_) λH=>?_
          . obtain⟨k,rfl⟩:∃i,k=i+1:=⟨k-1,by simp at H;omega⟩
            have w:=aIi (k:=k) (by omega);have G:=aJB j
            repeat' first|simp -dsimp only[go_sem,F,w,G]|apply Br.mk<;>intro h<;>try simp -dsimp only[h]|refine aC ?_|refine aC9 ?_|fail

            all_goals first|omega|(refine⟨⟨(k,j+1),by dsimp only;omega⟩,?_,by simp only;omega⟩;simp[Vs.LeL,Vs.look,aB,aP,aJ,Vs.hset,aK];done)
          . obtain rfl:k=0:=by simp at H;omega
            obtain rfl:j=20+e9:=by omega
            have I:(E cS (rC (20+e9))).take (20+e9)=E cS (rC (20+e9)):=Ag (by rw[F];exact AL _)
            try simp -dsimp only[go_sem,F]
            all_goals first|exact⟨⟨_,_,rfl,rfl⟩,λh=>absurd rfl h⟩|(rw[I];exact⟨⟨_,_,rfl,rfl⟩,λh=>absurd rfl h⟩)):p:=h
set_option maxRecDepth 20000 in
theorem df000 (l:List Int) (x:Sr) (hl:byt l) (y1:Sr) (y3:Sr) (y4:Sr) (y8:Sr) (k0:Nat) (o1:List Stp) (P2:O1 l x 2 false y1) (P6:PK l y1 6 (k0:Nat) y3) (hk0:k0<=5) (hy3:y3.p<=2000) (hT:stU l k0 y3 [] o1 y4) (ho1:o1.length<=6) (e0:decide ((o1.length:Int)>0)=false) (P24:O1 l y4 24 false y8) (e9:Nat) (he9:e9<=1) (w20:IntKind.i64.wrap (20+(e9:Int))=((20+e9:Nat):Int)):Vs.Fn Tryz.prog F.bK [sB l x] [.ptr (.b 0) 0 0] (.sl 9 (E cS o1)) [some (sB l y8)]:=dfW
set_option maxRecDepth 20000 in
theorem df001 (l:List Int) (x:Sr) (hl:byt l) (y1:Sr) (y3:Sr) (y4:Sr) (y8:Sr) (k0:Nat) (o1:List Stp) (P2:O1 l x 2 false y1) (P6:PK l y1 6 (k0:Nat) y3) (hk0:k0<=5) (hy3:y3.p<=2000) (hT:stU l k0 y3 [] o1 y4) (ho1:o1.length<=6) (e0:decide ((o1.length:Int)>0)=false) (P24:O1 l y4 24 true y8) (e9:Nat) (he9:e9<=1) (w20:IntKind.i64.wrap (20+(e9:Int))=((20+e9:Nat):Int)) (y9:Sr) (P2b:PK l y8 2 (e9:Nat) y9):Vs.Fn Tryz.prog F.bK [sB l x] [.ptr (.b 0) 0 0] (.sl 9 (E cS (rC (20+e9)))) [some (sB l y9)]:=dfW
set_option maxRecDepth 20000 in
theorem df010 (l:List Int) (x:Sr) (hl:byt l) (y1:Sr) (y3:Sr) (y4:Sr) (y8:Sr) (k0:Nat) (o1:List Stp) (P2:O1 l x 2 false y1) (P6:PK l y1 6 (k0:Nat) y3) (hk0:k0<=5) (hy3:y3.p<=2000) (hT:stU l k0 y3 [] o1 y4) (ho1:o1.length<=6) (e0:decide ((o1.length:Int)>0)=true) (y5:Sr) (P10:O1 l y4 10 false y5) (P24:O1 l y5 24 false y8) (e9:Nat) (he9:e9<=1) (w20:IntKind.i64.wrap (20+(e9:Int))=((20+e9:Nat):Int)):Vs.Fn Tryz.prog F.bK [sB l x] [.ptr (.b 0) 0 0] (.sl 9 (E cS o1)) [some (sB l y8)]:=dfW
set_option maxRecDepth 20000 in
theorem df011 (l:List Int) (x:Sr) (hl:byt l) (y1:Sr) (y3:Sr) (y4:Sr) (y8:Sr) (k0:Nat) (o1:List Stp) (P2:O1 l x 2 false y1) (P6:PK l y1 6 (k0:Nat) y3) (hk0:k0<=5) (hy3:y3.p<=2000) (hT:stU l k0 y3 [] o1 y4) (ho1:o1.length<=6) (e0:decide ((o1.length:Int)>0)=true) (y5:Sr) (P10:O1 l y4 10 false y5) (P24:O1 l y5 24 true y8) (e9:Nat) (he9:e9<=1) (w20:IntKind.i64.wrap (20+(e9:Int))=((20+e9:Nat):Int)) (y9:Sr) (P2b:PK l y8 2 (e9:Nat) y9):Vs.Fn Tryz.prog F.bK [sB l x] [.ptr (.b 0) 0 0] (.sl 9 (E cS (rC (20+e9)))) [some (sB l y9)]:=dfW
set_option maxRecDepth 20000 in
theorem df020 (l:List Int) (x:Sr) (hl:byt l) (y1:Sr) (y3:Sr) (y4:Sr) (y8:Sr) (k0:Nat) (o1:List Stp) (P2:O1 l x 2 false y1) (P6:PK l y1 6 (k0:Nat) y3) (hk0:k0<=5) (hy3:y3.p<=2000) (hT:stU l k0 y3 [] o1 y4) (ho1:o1.length<=6) (e0:decide ((o1.length:Int)>0)=true) (y5:Sr) (P10:O1 l y4 10 true y5) (y6:Sr) (y7:Sr) (i9:Nat) (hi9:i9<o1.length) (s9:Stp) (PN:PK l y5 (o1.length:Nat) (i9:Nat) y6) (SP:Vs.Fn Tryz.prog F.oJ [sB l y6,.arr 9 (E cS o1) false] [.ptr (.b 0) 0 0,.ptr (.b 1) i9 0] (.tup []) [some (sB l y7),some (.arr 9 (E cS (o1.set i9 s9)) false)]) (P24:O1 l y7 24 false y8) (e9:Nat) (he9:e9<=1) (w20:IntKind.i64.wrap (20+(e9:Int))=((20+e9:Nat):Int)):Vs.Fn Tryz.prog F.bK [sB l x] [.ptr (.b 0) 0 0] (.sl 9 (E cS (o1.set i9 s9))) [some (sB l y8)]:=dfW
set_option maxRecDepth 20000 in
theorem df021 (l:List Int) (x:Sr) (hl:byt l) (y1:Sr) (y3:Sr) (y4:Sr) (y8:Sr) (k0:Nat) (o1:List Stp) (P2:O1 l x 2 false y1) (P6:PK l y1 6 (k0:Nat) y3) (hk0:k0<=5) (hy3:y3.p<=2000) (hT:stU l k0 y3 [] o1 y4) (ho1:o1.length<=6) (e0:decide ((o1.length:Int)>0)=true) (y5:Sr) (P10:O1 l y4 10 true y5) (y6:Sr) (y7:Sr) (i9:Nat) (hi9:i9<o1.length) (s9:Stp) (PN:PK l y5 (o1.length:Nat) (i9:Nat) y6) (SP:Vs.Fn Tryz.prog F.oJ [sB l y6,.arr 9 (E cS o1) false] [.ptr (.b 0) 0 0,.ptr (.b 1) i9 0] (.tup []) [some (sB l y7),some (.arr 9 (E cS (o1.set i9 s9)) false)]) (P24:O1 l y7 24 true y8) (e9:Nat) (he9:e9<=1) (w20:IntKind.i64.wrap (20+(e9:Int))=((20+e9:Nat):Int)) (y9:Sr) (P2b:PK l y8 2 (e9:Nat) y9):Vs.Fn Tryz.prog F.bK [sB l x] [.ptr (.b 0) 0 0] (.sl 9 (E cS (rC (20+e9)))) [some (sB l y9)]:=dfW
set_option maxRecDepth 20000 in
theorem df100 (l:List Int) (x:Sr) (hl:byt l) (y1:Sr) (y3:Sr) (y4:Sr) (y8:Sr) (k0:Nat) (o1:List Stp) (P2:O1 l x 2 true y1) (y2:Sr) (to:Int) (PT:PK l y1 3 to y2) (P6:PK l y2 6 (k0:Nat) y3) (hk0:k0<=5) (hy3:y3.p<=2000) (hT:stU l k0 y3 [aED to] o1 y4) (ho1:o1.length<=6) (e0:decide ((o1.length:Int)>0)=false) (P24:O1 l y4 24 false y8) (e9:Nat) (he9:e9<=1) (w20:IntKind.i64.wrap (20+(e9:Int))=((20+e9:Nat):Int)):Vs.Fn Tryz.prog F.bK [sB l x] [.ptr (.b 0) 0 0] (.sl 9 (E cS o1)) [some (sB l y8)]:=dfW
set_option maxRecDepth 20000 in
theorem df101 (l:List Int) (x:Sr) (hl:byt l) (y1:Sr) (y3:Sr) (y4:Sr) (y8:Sr) (k0:Nat) (o1:List Stp) (P2:O1 l x 2 true y1) (y2:Sr) (to:Int) (PT:PK l y1 3 to y2) (P6:PK l y2 6 (k0:Nat) y3) (hk0:k0<=5) (hy3:y3.p<=2000) (hT:stU l k0 y3 [aED to] o1 y4) (ho1:o1.length<=6) (e0:decide ((o1.length:Int)>0)=false) (P24:O1 l y4 24 true y8) (e9:Nat) (he9:e9<=1) (w20:IntKind.i64.wrap (20+(e9:Int))=((20+e9:Nat):Int)) (y9:Sr) (P2b:PK l y8 2 (e9:Nat) y9):Vs.Fn Tryz.prog F.bK [sB l x] [.ptr (.b 0) 0 0] (.sl 9 (E cS (rC (20+e9)))) [some (sB l y9)]:=dfW
set_option maxRecDepth 20000 in
theorem df110 (l:List Int) (x:Sr) (hl:byt l) (y1:Sr) (y3:Sr) (y4:Sr) (y8:Sr) (k0:Nat) (o1:List Stp) (P2:O1 l x 2 true y1) (y2:Sr) (to:Int) (PT:PK l y1 3 to y2) (P6:PK l y2 6 (k0:Nat) y3) (hk0:k0<=5) (hy3:y3.p<=2000) (hT:stU l k0 y3 [aED to] o1 y4) (ho1:o1.length<=6) (e0:decide ((o1.length:Int)>0)=true) (y5:Sr) (P10:O1 l y4 10 false y5) (P24:O1 l y5 24 false y8) (e9:Nat) (he9:e9<=1) (w20:IntKind.i64.wrap (20+(e9:Int))=((20+e9:Nat):Int)):Vs.Fn Tryz.prog F.bK [sB l x] [.ptr (.b 0) 0 0] (.sl 9 (E cS o1)) [some (sB l y8)]:=dfW
set_option maxRecDepth 20000 in
theorem df111 (l:List Int) (x:Sr) (hl:byt l) (y1:Sr) (y3:Sr) (y4:Sr) (y8:Sr) (k0:Nat) (o1:List Stp) (P2:O1 l x 2 true y1) (y2:Sr) (to:Int) (PT:PK l y1 3 to y2) (P6:PK l y2 6 (k0:Nat) y3) (hk0:k0<=5) (hy3:y3.p<=2000) (hT:stU l k0 y3 [aED to] o1 y4) (ho1:o1.length<=6) (e0:decide ((o1.length:Int)>0)=true) (y5:Sr) (P10:O1 l y4 10 false y5) (P24:O1 l y5 24 true y8) (e9:Nat) (he9:e9<=1) (w20:IntKind.i64.wrap (20+(e9:Int))=((20+e9:Nat):Int)) (y9:Sr) (P2b:PK l y8 2 (e9:Nat) y9):Vs.Fn Tryz.prog F.bK [sB l x] [.ptr (.b 0) 0 0] (.sl 9 (E cS (rC (20+e9)))) [some (sB l y9)]:=dfW
set_option maxRecDepth 20000 in
theorem df120 (l:List Int) (x:Sr) (hl:byt l) (y1:Sr) (y3:Sr) (y4:Sr) (y8:Sr) (k0:Nat) (o1:List Stp) (P2:O1 l x 2 true y1) (y2:Sr) (to:Int) (PT:PK l y1 3 to y2) (P6:PK l y2 6 (k0:Nat) y3) (hk0:k0<=5) (hy3:y3.p<=2000) (hT:stU l k0 y3 [aED to] o1 y4) (ho1:o1.length<=6) (e0:decide ((o1.length:Int)>0)=true) (y5:Sr) (P10:O1 l y4 10 true y5) (y6:Sr) (y7:Sr) (i9:Nat) (hi9:i9<o1.length) (s9:Stp) (PN:PK l y5 (o1.length:Nat) (i9:Nat) y6) (SP:Vs.Fn Tryz.prog F.oJ [sB l y6,.arr 9 (E cS o1) false] [.ptr (.b 0) 0 0,.ptr (.b 1) i9 0] (.tup []) [some (sB l y7),some (.arr 9 (E cS (o1.set i9 s9)) false)]) (P24:O1 l y7 24 false y8) (e9:Nat) (he9:e9<=1) (w20:IntKind.i64.wrap (20+(e9:Int))=((20+e9:Nat):Int)):Vs.Fn Tryz.prog F.bK [sB l x] [.ptr (.b 0) 0 0] (.sl 9 (E cS (o1.set i9 s9))) [some (sB l y8)]:=dfW
set_option maxRecDepth 20000 in
theorem df121 (l:List Int) (x:Sr) (hl:byt l) (y1:Sr) (y3:Sr) (y4:Sr) (y8:Sr) (k0:Nat) (o1:List Stp) (P2:O1 l x 2 true y1) (y2:Sr) (to:Int) (PT:PK l y1 3 to y2) (P6:PK l y2 6 (k0:Nat) y3) (hk0:k0<=5) (hy3:y3.p<=2000) (hT:stU l k0 y3 [aED to] o1 y4) (ho1:o1.length<=6) (e0:decide ((o1.length:Int)>0)=true) (y5:Sr) (P10:O1 l y4 10 true y5) (y6:Sr) (y7:Sr) (i9:Nat) (hi9:i9<o1.length) (s9:Stp) (PN:PK l y5 (o1.length:Nat) (i9:Nat) y6) (SP:Vs.Fn Tryz.prog F.oJ [sB l y6,.arr 9 (E cS o1) false] [.ptr (.b 0) 0 0,.ptr (.b 1) i9 0] (.tup []) [some (sB l y7),some (.arr 9 (E cS (o1.set i9 s9)) false)]) (P24:O1 l y7 24 true y8) (e9:Nat) (he9:e9<=1) (w20:IntKind.i64.wrap (20+(e9:Int))=((20+e9:Nat):Int)) (y9:Sr) (P2b:PK l y8 2 (e9:Nat) y9):Vs.Fn Tryz.prog F.bK [sB l x] [.ptr (.b 0) 0 0] (.sl 9 (E cS (rC (20+e9)))) [some (sB l y9)]:=dfW
end
set_option maxRecDepth 20000 in
theorem aDq (l:List Int) (x:Sr) (G:byt l) (hp:x.p<=1900):∃fs z,okZ fs∧fs.length<=21∧z.p<=x.p+400∧Vs.Fn Tryz.prog F.bK [sB l x] [.ptr (.b 0) 0 0] (.sl 9 (E cS fs)) [some (sB l z)]:=by
 have hn:∀y:Stp,cS y=[.v (.int .i64 y.kind),.v (.int .i64 y.a),.v (.int .i64 y.b),.v (.int .i64 y.to),.v (.int .i64 y.f0),.v (.int .i64 y.f1),.v (.int .i64 y.s0),.v (.int .i64 y.s1),.v (.string y.text)]:=λ_=>rfl;clear hn;have P2:=one l x G 2 (by omega);have q2:=aQ l x 2;obtain⟨b2,hm⟩:∃b,(pkV l x 2==0)=b:=⟨_,rfl⟩;rw[hm] at P2;generalize pkS l x 2=y1 at *
 cases b2
 .have P6:=pick l y1 G 6 (by omega);have q6:=aQ l y1 6;have v6:=bC G y1 (n:=6) (by omega);obtain⟨k0,hg⟩:∃k:Nat,pkV l y1 6=k:=⟨(pkV l y1 6).toNat,by omega⟩;rw[hg] at P6 v6;generalize pkS l y1 6=y3 at *
  obtain⟨H,M,⟨ho,hj,ha⟩,hT⟩:=aGr G k0 y3 [] (by omega) (λs hs=>by cases hs);simp only[Ab] at hj;by_cases h0:H.length=0
  .have e0:decide ((H.length:Int)>0)=false:=AX (by omega);have u:=one l M G 24 (by omega);have hc:=aQ l M 24;obtain⟨U,J⟩:∃b,(pkV l M 24==0)=b:=⟨_,rfl⟩;rw[J] at u;generalize pkS l M 24=y8 at *
   cases U
   .refine⟨H,y8,ha,by(try simp only[Ao]);omega,by omega,?_⟩;exact df000 l x G y1 y3 M y8 k0 H P2 P6 (by omega) (by omega) hT (by omega) e0 u 0 (by omega) rfl
   .have I:=pick l y8 G 2 (by omega);have hd:=aQ l y8 2;have Y:=bC G y8 (n:=2) (by omega);obtain⟨L,V⟩:∃k:Nat,pkV l y8 2=k:=⟨(pkV l y8 2).toNat,by omega⟩;rw[V] at I Y;generalize pkS l y8 2=y9 at *
    have Z:IntKind.i64.wrap (20+(L:Int))=((20+L:Nat):Int):=by rw[aM (by omega) (by omega)];omega
    refine⟨rC (20+L),y9,yY _,by rw[rA];omega,by omega,?_⟩;exact df001 l x G y1 y3 M y8 k0 H P2 P6 (by omega) (by omega) hT (by omega) e0 u L (by omega) Z y9 I
  .have e0:decide ((H.length:Int)>0)=true:=AR (by omega);have O:=one l M G 10 (by omega);have hr:=aQ l M 10;obtain⟨he,hb⟩:∃b,(pkV l M 10==0)=b:=⟨_,rfl⟩;rw[hb] at O;generalize pkS l M 10=y5 at *
   cases he
   .have u:=one l y5 G 24 (by omega);have hc:=aQ l y5 24;obtain⟨U,J⟩:∃b,(pkV l y5 24==0)=b:=⟨_,rfl⟩;rw[J] at u;generalize pkS l y5 24=y8 at *
    cases U
    .refine⟨H,y8,ha,by(try simp only[Ao]);omega,by omega,?_⟩;exact df010 l x G y1 y3 M y8 k0 H P2 P6 (by omega) (by omega) hT (by omega) e0 y5 O u 0 (by omega) rfl
    .have I:=pick l y8 G 2 (by omega);have hd:=aQ l y8 2;have Y:=bC G y8 (n:=2) (by omega);obtain⟨L,V⟩:∃k:Nat,pkV l y8 2=k:=⟨(pkV l y8 2).toNat,by omega⟩;rw[V] at I Y;generalize pkS l y8 2=y9 at *
     have Z:IntKind.i64.wrap (20+(L:Int))=((20+L:Nat):Int):=by rw[aM (by omega) (by omega)];omega
     refine⟨rC (20+L),y9,yY _,by rw[rA];omega,by omega,?_⟩;exact df011 l x G y1 y3 M y8 k0 H P2 P6 (by omega) (by omega) hT (by omega) e0 y5 O u L (by omega) Z y9 I
   .have PN:=pick l y5 G (H.length:Nat) (by omega);have qn:=aQ l y5 (H.length:Nat);have vn:=bC G y5 (n:=(H.length:Nat)) (by omega);obtain⟨i9,hf⟩:∃k:Nat,pkV l y5 (H.length:Nat)=k:=⟨(pkV l y5 (H.length:Nat)).toNat,by omega⟩;rw[hf] at PN vn;generalize pkS l y5 (H.length:Nat)=y6 at *
    obtain⟨s9,y7,hq,hk,SP⟩:=aMd l y6 G (by omega) H i9 (by omega) (by omega) (ha _ (Am _));have u:=one l y7 G 24 (by omega);have hc:=aQ l y7 24;obtain⟨U,J⟩:∃b,(pkV l y7 24==0)=b:=⟨_,rfl⟩;rw[J] at u;generalize pkS l y7 24=y8 at *
    cases U
    .refine⟨(H.set i9 s9),y8,aHx ha hk,by(try simp only[Ao]);omega,by omega,?_⟩;exact df020 l x G y1 y3 M y8 k0 H P2 P6 (by omega) (by omega) hT (by omega) e0 y5 O y6 y7 i9 (by omega) s9 PN SP u 0 (by omega) rfl
    .have I:=pick l y8 G 2 (by omega);have hd:=aQ l y8 2;have Y:=bC G y8 (n:=2) (by omega);obtain⟨L,V⟩:∃k:Nat,pkV l y8 2=k:=⟨(pkV l y8 2).toNat,by omega⟩;rw[V] at I Y;generalize pkS l y8 2=y9 at *
     have Z:IntKind.i64.wrap (20+(L:Int))=((20+L:Nat):Int):=by rw[aM (by omega) (by omega)];omega
     refine⟨rC (20+L),y9,yY _,by rw[rA];omega,by omega,?_⟩;exact df021 l x G y1 y3 M y8 k0 H P2 P6 (by omega) (by omega) hT (by omega) e0 y5 O y6 y7 i9 (by omega) s9 PN SP u L (by omega) Z y9 I
 .have PT:=pick l y1 G 3 (by omega);have qt:=aQ l y1 3;generalize pkV l y1 3=to at *
  generalize pkS l y1 3=y2 at *
  have P6:=pick l y2 G 6 (by omega);have q6:=aQ l y2 6;have v6:=bC G y2 (n:=6) (by omega);obtain⟨k0,hg⟩:∃k:Nat,pkV l y2 6=k:=⟨(pkV l y2 6).toNat,by omega⟩;rw[hg] at P6 v6;generalize pkS l y2 6=y3 at *
  obtain⟨H,M,⟨ho,hj,ha⟩,hT⟩:=aGr G k0 y3 [aED to] (by omega) (λs hs=>by rw[Ar.1 hs];exact BX _);simp only[Aa,Ab] at hj;by_cases h0:H.length=0
  .have e0:decide ((H.length:Int)>0)=false:=AX (by omega);have u:=one l M G 24 (by omega);have hc:=aQ l M 24;obtain⟨U,J⟩:∃b,(pkV l M 24==0)=b:=⟨_,rfl⟩;rw[J] at u;generalize pkS l M 24=y8 at *
   cases U
   .refine⟨H,y8,ha,by(try simp only[Ao]);omega,by omega,?_⟩;exact df100 l x G y1 y3 M y8 k0 H P2 y2 to PT P6 (by omega) (by omega) hT (by omega) e0 u 0 (by omega) rfl
   .have I:=pick l y8 G 2 (by omega);have hd:=aQ l y8 2;have Y:=bC G y8 (n:=2) (by omega);obtain⟨L,V⟩:∃k:Nat,pkV l y8 2=k:=⟨(pkV l y8 2).toNat,by omega⟩;rw[V] at I Y;generalize pkS l y8 2=y9 at *
    have Z:IntKind.i64.wrap (20+(L:Int))=((20+L:Nat):Int):=by rw[aM (by omega) (by omega)];omega
    refine⟨rC (20+L),y9,yY _,by rw[rA];omega,by omega,?_⟩;exact df101 l x G y1 y3 M y8 k0 H P2 y2 to PT P6 (by omega) (by omega) hT (by omega) e0 u L (by omega) Z y9 I
  .have e0:decide ((H.length:Int)>0)=true:=AR (by omega);have O:=one l M G 10 (by omega);have hr:=aQ l M 10;obtain⟨he,hb⟩:∃b,(pkV l M 10==0)=b:=⟨_,rfl⟩;rw[hb] at O;generalize pkS l M 10=y5 at *
   cases he
   .have u:=one l y5 G 24 (by omega);have hc:=aQ l y5 24;obtain⟨U,J⟩:∃b,(pkV l y5 24==0)=b:=⟨_,rfl⟩;rw[J] at u;generalize pkS l y5 24=y8 at *
    cases U
    .refine⟨H,y8,ha,by(try simp only[Ao]);omega,by omega,?_⟩;exact df110 l x G y1 y3 M y8 k0 H P2 y2 to PT P6 (by omega) (by omega) hT (by omega) e0 y5 O u 0 (by omega) rfl
    .have I:=pick l y8 G 2 (by omega);have hd:=aQ l y8 2;have Y:=bC G y8 (n:=2) (by omega);obtain⟨L,V⟩:∃k:Nat,pkV l y8 2=k:=⟨(pkV l y8 2).toNat,by omega⟩;rw[V] at I Y;generalize pkS l y8 2=y9 at *
     have Z:IntKind.i64.wrap (20+(L:Int))=((20+L:Nat):Int):=by rw[aM (by omega) (by omega)];omega
     refine⟨rC (20+L),y9,yY _,by rw[rA];omega,by omega,?_⟩;exact df111 l x G y1 y3 M y8 k0 H P2 y2 to PT P6 (by omega) (by omega) hT (by omega) e0 y5 O u L (by omega) Z y9 I
   .have PN:=pick l y5 G (H.length:Nat) (by omega);have qn:=aQ l y5 (H.length:Nat);have vn:=bC G y5 (n:=(H.length:Nat)) (by omega);obtain⟨i9,hf⟩:∃k:Nat,pkV l y5 (H.length:Nat)=k:=⟨(pkV l y5 (H.length:Nat)).toNat,by omega⟩;rw[hf] at PN vn;generalize pkS l y5 (H.length:Nat)=y6 at *
    obtain⟨s9,y7,hq,hk,SP⟩:=aMd l y6 G (by omega) H i9 (by omega) (by omega) (ha _ (Am _));have u:=one l y7 G 24 (by omega);have hc:=aQ l y7 24;obtain⟨U,J⟩:∃b,(pkV l y7 24==0)=b:=⟨_,rfl⟩;rw[J] at u;generalize pkS l y7 24=y8 at *
    cases U
    .refine⟨(H.set i9 s9),y8,aHx ha hk,by(try simp only[Ao]);omega,by omega,?_⟩;exact df120 l x G y1 y3 M y8 k0 H P2 y2 to PT P6 (by omega) (by omega) hT (by omega) e0 y5 O y6 y7 i9 (by omega) s9 PN SP u 0 (by omega) rfl
    .have I:=pick l y8 G 2 (by omega);have hd:=aQ l y8 2;have Y:=bC G y8 (n:=2) (by omega);obtain⟨L,V⟩:∃k:Nat,pkV l y8 2=k:=⟨(pkV l y8 2).toNat,by omega⟩;rw[V] at I Y;generalize pkS l y8 2=y9 at *
     have Z:IntKind.i64.wrap (20+(L:Int))=((20+L:Nat):Int):=by rw[aM (by omega) (by omega)];omega
     refine⟨rC (20+L),y9,yY _,by rw[rA];omega,by omega,?_⟩;exact df121 l x G y1 y3 M y8 k0 H P2 y2 to PT P6 (by omega) (by omega) hT (by omega) e0 y5 O y6 y7 i9 (by omega) s9 PN SP u L (by omega) Z y9 I
end
section
variable [Vs.Envs]
attribute [local irreducible] Vs.Fn wO dsC
theorem aE2 {c:List Int} (h:crd c):gL c=true∧c.length=5:=by
 obtain⟨a,n,m,L,M,O,rfl⟩:=h;have u:∀k:Nat,k<100->(ptN 2 (k:Int)).all (λx=>inB x 0 4095)=true:=by decide +kernel
 have h2:∀k:Nat,k<31->(ptN 2 (-(k:Int))).all (λx=>inB x 0 4095)=true:=by decide +kernel
 have H:(ptN 2 n).all (λx=>inB x 0 4095)=true:=by
  have:=u n.toNat (by omega)
  rwa [Int.toNat_of_nonneg M.1] at this
 have I:(ptN 2 m).all (λx=>inB x 0 4095)=true:=by
  by_cases J:0<=m
  .have:=u m.toNat (by omega)
   rwa [Int.toNat_of_nonneg J] at this
  .have:=h2 (-m).toNat (by omega)
   rwa [Int.toNat_of_nonneg (by omega),Int.neg_neg] at this
 have G:inB a 0 4095=true:=by rcases L with rfl|rfl|rfl<;>decide +kernel
 have F:(a::(ptN 2 n++ptN 2 m)).length=5:=by simp[aGC]
 refine⟨?_,F⟩;unfold gL;rw[F,BO,List.all_append,G,H,I];rfl
theorem vK {o:List (List Int)} (h:∀c,c∈o->crd c) (H:o.length<=40):okD 5 o:=by
 refine⟨?_,λc u=>(aE2 (h c u)).2⟩;simp only[bB,Au,Aw,Bb];refine⟨λc u=>⟨(aE2 (h c u)).1,?_⟩,H⟩;have G:0<o.length:=Cx u;have F:o.getD 0 []∈o:=by rw[show o.getD 0 []=o[0] by simp[List.getD,G]];exact Am _
 rw[(aE2 (h c u)).2,(aE2 (h _ F)).2]
theorem aJK {w:Nat} (H:1<=w∧w<=20) {d:List (List Int)} (h:okD w d):okO w (O0 d):=by
 refine⟨H,rfl,λe u=>?_,by simp[O0],λt G=>absurd G (by simp[O0])⟩;rcases Ay.1 u with rfl|u
 .exact h
 .rw[(List.mem_replicate.1 u).2];exact⟨rfl,λc F=>absurd F (by simp)⟩
end
section
variable [Vs.Envs]
attribute [local irreducible] Vs.Fn nxV nxS pkV pkS ptN crd dW dtF lH run wO
theorem aM2 (a b:Int):Fz F.xI [.v (.int .i64 a),.v (.int .i64 b)] (.v (.int .i64 (if a<b then a else b))):=by
 refine fn0 Cd.s_l00Min_k λX=>?_
 repeat' first|simp -dsimp only[go_sem]|apply Br.mk<;>intro h<;>try simp -dsimp only[h]|refine aC ?_|refine aC9 ?_|fail
 all_goals(first|(refine aU ?_;simp_all;done)|(simp_all;done)|(simp_all;omega))
theorem aMJ {o:Off}{S:Nat->Prop}{w:World}{v:Value}{ρ:Vs.Name->Option Nat}{κ:Vs.Name->Nat}{hh:Vs.Name->Option Blk} (h:RV S w ρ κ hh (.agg (roV o)) v):RV S w ρ κ hh (.agg (cO o)) v:=by
 unfold roV roT at h;by_cases u:o.totals.length=0
 .rw[AY u] at h;unfold cO;rw[Bl u];exact aL4 h
 .rw[AJ u] at h;exact h
end
section
variable [Vs.Envs]
attribute [local irreducible] Vs.Fn dW wO stC chOK areCh chTo chAt l03 chB rk cd3 chI stp stpTo
attribute [local go_sem] Int.reduceBEq Int.reduceBNe cC cO cFd aH Ai Ah Al Aq Ad Af Ac Ae Aa Ab Ao Ar Ay Az Bo Bq Vs.Name.t.injEq Ak AB Vs.Name.b.injEq A7 Bi in
theorem aLF (o:Off) (w:Nat) (ho:okO w o) (he:o.totals.length=0) (H:List Stp) (hz:∀x,x∈H->x.text.size<=1048576) (hl:H.length<=1048576):Vs.Fn Tryz.prog F.rE [] [.ro [.sl 1 (E cD o.trays),.v (.slice none 0 0)],.sl 9 (E cS H)] (.tup [.agg [.loc (.b 0) 0 (run o H).1.trays.length,roT (run o H).1],.v (.int .i64 ((run o H).2:Nat))]) [some (.arr 1 (E cD (run o H).1.trays) false)]:=by
 have OW:Vs.Fn Tryz.prog F.kD [] [.ro [.sl 1 (E cD o.trays),.v (.slice none 0 0)]] (.agg [.loc (.b 0) 0 o.trays.length,.v (.slice none 0 0)]) [some (.arr 1 (E cD o.trays) false)]:=by
  refine aEV (args':=[.ro (cO o)]) rfl (λS w j v hj ρ κ hh V=>?_) (aCu o (dC ho) (by rw[ho.2.1];omega) he)
  match j,hj with
  |0,_=>exact roE he V
 have hr:=aDW o H;generalize hR:run o H=R;refine fn1 Cd.s_l15Run_k [.t 9 0] [.arr 1 (E cD R.1.trays) false] λX=>?_;unfold Cd.rE
 repeat' first|simp -dsimp only[go_sem,cS]|apply Br.mk<;>intro h<;>try simp -dsimp only[h]|refine aA.own (by first|exact OW) rfl ?_|refine aC ?_|refine aC9 ?_|fail
 refine aO.atR dM (X:={p:Nat×Off // p.1<=H.length∧okO w p.2∧aDK o H p.1 p.2}) (λp=>[(7,.v (.int .i64 (p.1.1:Nat)))]) (λp=>(.t 6 0,.var [.loc (.t 9 0) 0 p.1.2.trays.length,gT p.1.2] false)::(.t 9 0,.arr 1 (E cD p.1.2.trays) false)::gHT p.1.2) (λp=>H.length-p.1.1) ⟨(0,o),by simp,ho,hr⟩ ?_ ?_
 .simp[Vs.LeL,Vs.look,aB,aP,aJ,Vs.hset,aK,aIN he,aIO he]
 .rintro⟨⟨i,I⟩,hi,O,L⟩;dsimp only at hi O L⊢;have hq:=dC O;have hu:=O.2.1;have ht:=O.2.2.2.1;have hb:(E cD I.trays).take I.trays.length=E cD I.trays:=Ag (by rw[aH];exact AL _);have hf:(E cTs I.totals).take I.totals.length=E cTs I.totals:=Ag (by rw[aH];exact AL _);by_cases J:I.totals.length=0
  .rw[aIN J,aIO J];have WD:=zD I hq J
   try simp -dsimp only[go_sem,cS]
   refine Br.mk (λhc=>?_) λhc=>?_
   .have M:i<H.length:=Dq;have hw:=aI M (by omega);have gx:(E cS H).getD i []=cS H[i]:=aR M;have Y:=hz _ (Am M);have LS:=tH H[i] (wO I.trays:Int) Y;cases V:dW H[i] (wO I.trays)
    .rw[V] at LS;have G:=mQ M L (by unfold dsC;rw[V];simp);rw[hR] at G;subst G
     repeat' first|simp -dsimp only[go_sem,gx,hb,hf,roV,xM J,cS]|apply Br.mk<;>intro h<;>try simp -dsimp only[h]|refine aA.c (by first|exact WD|exact LS) ?_|refine aC ?_|refine aC9 ?_|fail
     all_goals first|omega|exact⟨_,_,rfl,rfl⟩|exact⟨⟨_,_,rfl,rfl⟩,λh=>h rfl⟩
    .rw[V] at LS;by_cases h0:stC H[i] I=0
     .have hd:dsC H[i] I=0:=by unfold dsC;rw[V];exact h0
      have U:=yS M L hd;have hn:=yE O hd;have hs:=tQ H[i] I;by_cases h7:H[i].kind=7
      .have DO:=wC H[i] Y I w O V J h7 h0;obtain⟨q1,q2⟩:=o9 (o:=I) h7;have hm:(stO H[i] I).totals.length=I.totals.length+1:=by rw[q1,AC];rfl
       have hk:(stO H[i] I).totals.length≠0:=by omega
       have ha:=aFT hk;have Z:=aFU hk;generalize stO H[i] I=o2 at *
       repeat' first|simp -dsimp only[go_sem,gx,hw,cS]|apply Br.mk<;>intro h<;>try simp -dsimp only[h]|refine aA.borG (B:=[.t 6 0,.t 9 0]) (by first|exact DO) rfl ?_|refine aA.c (by first|exact WD|exact LS) ?_|refine aC ?_|refine aC9 ?_|fail
       all_goals first|omega|(refine⟨⟨(i+1,o2),by simp only;omega,hn,U⟩,.inr ⟨.t 26 2,.t 9 1,by decide,rfl,?_⟩,by simp only;omega⟩;simp[oU,Vs.nmF,Vs.rn,Vs.rnL,Vs.rnB,Vs.LeL,Vs.look,aB,aP,aJ,Vs.hset,aK,ha,Z,q1,q2];done)
      .have DO:=zI H[i] Y I w O V J h7 h0;obtain⟨q1,q2⟩:=sQ (o:=I) h7;have hg:(stO H[i] I).totals.length=0:=by rw[q1];exact J
       have ha:=aIN hg;have Z:=aIO hg;generalize stO H[i] I=o2 at *
       repeat' first|simp -dsimp only[go_sem,gx,hw,cS]|apply Br.mk<;>intro h<;>try simp -dsimp only[h]|refine aA.borG (B:=[.t 6 0,.t 9 0]) (by first|exact DO) rfl ?_|refine aA.c (by first|exact WD|exact LS) ?_|refine aC ?_|refine aC9 ?_|fail
       all_goals first|omega|(refine⟨⟨(i+1,o2),by simp only;omega,hn,U⟩,.inl ?_,by simp only;omega⟩;simp[Vs.LeL,Vs.look,aB,aP,aJ,Vs.hset,aK,ha,Z,q1,q2];done)
     .have DO:=zH H[i] Y I w O V J h0;have e0:(stC H[i] I != 0)=true:=by simp[h0]
      have G:=mQ M L (by unfold dsC;rw[V];exact h0);rw[hR] at G;subst G;generalize stC H[i] I=c at *
      repeat' first|simp -dsimp only[go_sem,gx,e0,hb,hf,roV,xM J,cS]|apply Br.mk<;>intro h<;>try simp -dsimp only[h]|refine aA.borG (B:=[.t 6 0,.t 9 0]) (by first|exact DO) rfl ?_|refine aA.c (by first|exact WD|exact LS) ?_|refine aC ?_|refine aC9 ?_|fail
      all_goals first|omega|exact⟨_,_,rfl,rfl⟩|exact⟨⟨_,_,rfl,rfl⟩,λh=>h rfl⟩
   .have hp:i=H.length:=by
     have:¬i<H.length:=Dq;omega
    subst hp;have G:=aAN L;rw[hR] at G;subst G
    repeat' first|simp -dsimp only[go_sem,hb,hf,roV,xM J,cS]|apply Br.mk<;>intro h<;>try simp -dsimp only[h]|refine And.intro ?_ (λh=>absurd rfl h)|refine aC ?_|refine aC9 ?_|fail
    all_goals first|omega|exact⟨_,_,rfl,rfl⟩|exact⟨⟨_,_,rfl,rfl⟩,λh=>h rfl⟩
  .rw[aFT J,aFU J];have WD:=nN I hq
   try simp -dsimp only[go_sem,cS]
   refine Br.mk (λhc=>?_) λhc=>?_
   .have M:i<H.length:=Dq;have hw:=aI M (by omega);have gx:(E cS H).getD i []=cS H[i]:=aR M;have Y:=hz _ (Am M);have LS:=tH H[i] (wO I.trays:Int) Y;cases V:dW H[i] (wO I.trays)
    .rw[V] at LS;have G:=mQ M L (by unfold dsC;rw[V];simp);rw[hR] at G;subst G
     repeat' first|simp -dsimp only[go_sem,gx,hb,hf,roV,xL J,cS]|apply Br.mk<;>intro h<;>try simp -dsimp only[h]|refine aA.c (by first|exact WD|exact LS) ?_|refine aC ?_|refine aC9 ?_|fail
     all_goals first|omega|exact⟨_,_,rfl,rfl⟩|exact⟨⟨_,_,rfl,rfl⟩,λh=>h rfl⟩
    .rw[V] at LS;by_cases h0:stC H[i] I=0
     .have hd:dsC H[i] I=0:=by unfold dsC;rw[V];exact h0
      have U:=yS M L hd;have hn:=yE O hd;have hs:=tQ H[i] I;by_cases h7:H[i].kind=7
      .have DO:=vZ H[i] Y I w O V h7 h0;obtain⟨q1,q2⟩:=o9 (o:=I) h7;have hm:(stO H[i] I).totals.length=I.totals.length+1:=by rw[q1,AC];rfl
       have hk:(stO H[i] I).totals.length≠0:=by omega
       have ha:=aFT hk;have Z:=aFU hk;generalize stO H[i] I=o2 at *
       repeat' first|simp -dsimp only[go_sem,gx,hw,cS]|apply Br.mk<;>intro h<;>try simp -dsimp only[h]|refine aA.borG (B:=[.t 6 0,.t 9 0,.t 9 1]) (by first|exact DO) rfl ?_|refine aA.c (by first|exact WD|exact LS) ?_|refine aC ?_|refine aC9 ?_|fail
       all_goals first|omega|(refine⟨⟨(i+1,o2),by simp only;omega,hn,U⟩,.inr ⟨.t 26 3,.t 9 1,by decide,rfl,?_⟩,by simp only;omega⟩;simp[oU,Vs.nmF,Vs.rn,Vs.rnL,Vs.rnB,Vs.LeL,Vs.look,aB,aP,aJ,Vs.hset,aK,ha,Z,q1,q2];done)
      .have DO:=zG H[i] Y I w O V h7 h0;obtain⟨q1,q2⟩:=sQ (o:=I) h7;have hg:(stO H[i] I).totals.length≠0:=by rw[q1];exact J
       have ha:=aFT hg;have Z:=aFU hg;generalize stO H[i] I=o2 at *
       repeat' first|simp -dsimp only[go_sem,gx,hw,cS]|apply Br.mk<;>intro h<;>try simp -dsimp only[h]|refine aA.borG (B:=[.t 6 0,.t 9 0,.t 9 1]) (by first|exact DO) rfl ?_|refine aA.c (by first|exact WD|exact LS) ?_|refine aC ?_|refine aC9 ?_|fail
       all_goals first|omega|(refine⟨⟨(i+1,o2),by simp only;omega,hn,U⟩,.inl ?_,by simp only;omega⟩;simp[Vs.LeL,Vs.look,aB,aP,aJ,Vs.hset,aK,ha,Z,q1,q2];done)
     .have DO:=zF H[i] Y I w O V h0;have e0:(stC H[i] I != 0)=true:=by simp[h0]
      have G:=mQ M L (by unfold dsC;rw[V];exact h0);rw[hR] at G;subst G;generalize stC H[i] I=c at *
      repeat' first|simp -dsimp only[go_sem,gx,e0,hb,hf,roV,xL J,cS]|apply Br.mk<;>intro h<;>try simp -dsimp only[h]|refine aA.borG (B:=[.t 6 0,.t 9 0,.t 9 1]) (by first|exact DO) rfl ?_|refine aA.c (by first|exact WD|exact LS) ?_|refine aC ?_|refine aC9 ?_|fail
      all_goals first|omega|exact⟨_,_,rfl,rfl⟩|exact⟨⟨_,_,rfl,rfl⟩,λh=>h rfl⟩
   .have hp:i=H.length:=by
     have:¬i<H.length:=Dq;omega
    subst hp;have G:=aAN L;rw[hR] at G;subst G
    repeat' first|simp -dsimp only[go_sem,hb,hf,roV,xL J,cS]|apply Br.mk<;>intro h<;>try simp -dsimp only[h]|refine And.intro ?_ (λh=>absurd rfl h)|refine aC ?_|refine aC9 ?_|fail
    all_goals first|omega|exact⟨_,_,rfl,rfl⟩|exact⟨⟨_,_,rfl,rfl⟩,λh=>h rfl⟩
end
end Go.Proofs.YtmiiohemehacjaaGreatDoor
