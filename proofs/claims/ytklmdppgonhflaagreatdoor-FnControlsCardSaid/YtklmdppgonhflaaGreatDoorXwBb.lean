/- A card that is drawn: its row is handed over. -/
import Derived.Test.YtklmdppgonhflaaGreatDoorXwJa
import Derived.Test.YtklmdppgonhflaaGreatDoorXwPd
import Derived.Test.YtklmdppgonhflaaGreatDoorXwYc
set_option linter.all false
set_option maxHeartbeats 8000000
namespace Go.Proofs.YtklmdppgonhflaaGreatDoor
open Go.Vs
section
variable [Vs.Envs]
attribute [local irreducible] Vs.Fn nxV nxS pkV pkS pt crd gG dtF jD
open Go.Vs.Q in
def CdV.l15Spoil:aD:=s [m 4 0,o 5 (.call (.func F.aF) [4,(k 8)] [0])] [0,1,5]<|.block 0 (s [en 7 5 0,m 6 7] [0,1,5,6]<|.cond 6 (.region [m 8 1,m 9 0,o 10 (.bslice 1 4 [.v (.int .i64 (0))] [(0,(k 0)),(1,(k 7)),(2,(k 8)),(3,(k (-1)))]),o 11 (.call (.func F.bE) [9,10] [0]),nc 12 8,fa 13 0
 12,⟨none,.store 1 13 11,none⟩] [] []) (s [en 15 5 1,m 14 15] [0,1,5,14]<|.cond 14 (.region [m 16 1,m 17 0,o 18 (.bslice 1 3 [.v (.int .i64 (0))] [(0,(k (-1))),(1,(k 5)),(2,(k 6))]),o 19 (.call (.func F.bE) [17,18] [0]),nc 20 16,fa 21 1 20,⟨none,.store 1 21 19,none⟩] [] []) (s [en 23
 5 2,m 22 23] [0,1,5,22]<|.cond 22 (.region [m 24 1,m 25 0,o 26 (.bslice 1 4 [.v (.int .i64 (0))] [(0,(k (-1))),(1,(k 1)),(2,(k 5)),(3,(k 6))]),o 27 (.call (.func F.bE) [25,26] [0]),nc 28 24,fa 29 2 28,⟨none,.store 1 29 27,none⟩] [] []) (s [en 31 5 3,m 30 31] [0,1,5,30]<|.cond 30
 (.region [m 32 1,m 33 0,o 34 (.bslice 1 3 [.v (.int .i64 (0))] [(0,(k (-1))),(1,(k 5)),(2,(k 6))]),o 35 (.call (.func F.bE) [33,34] [0]),nc 36 32,fa 37 3 36,⟨none,.store 1 37 35,none⟩] [] []) (s [en 39 5 4,m 38 39] [0,1,5,38]<|.cond 38 (.region [m 40 1,m 41 0,o 42 (.call (.func
 F.iW) [41,(k 5)] [0]),nc 43 40,fa 44 4 43,⟨none,.store 2 44 42,none⟩] [] []) (s [en 46 5 5,m 45 46] [0,1,5,45]<|.cond 45 (.region [m 47 1,m 48 0,o 49 (.call (.func F.iW) [48,(k 5)] [0]),nc 50 47,fa 51 6 50,⟨none,.store 2 51 49,none⟩] [] []) (s [en 53 5 6,m 52 53]
 [0,1,5,52]<|.cond 52 (.region [m 54 1,m 55 0,o 56 (.bslice 1 4 [.v (.string ⟨#[]⟩)] [(0,(.const (.string ⟨#[]⟩))),(1,(.const (.string ⟨#[65]⟩))),(2,(.const (.string ⟨#[97]⟩))),(3,(.const (.string ⟨#[65,66]⟩)))]),o 57 (.call (.func F.dU) [55,56] [0]),nc 58 54,fa 59 8 58,⟨none,.store 1
 59 57,none⟩] [] []) (s [en 61 5 7,m 60 61] [0,1,60]<|.cond 60 (.region [m 62 1,m 63 0,o 64 (.call (.func F.aF) [63,(k 2)] [0]),o 65 (.bin .add (k 13) 64),o 66 (.build [.v (.int .i64 (0)),.v (.int .i64 (0))] [(0,1,(k 1)),(1,1,65)]),nc 67 62,fa 68 6 67,⟨none,.store 2 68 66,none⟩] []
 []) .skip))))))))
theorem CdV.l15Spoil_k:CK 32 Tryz.f32 CdV.l15Spoil 69 []:=ck Tryz.func32
attribute [go_sem] CdV.l15Spoil
open Go.Vs.Q in
def CdV.l02DrawField:aD:=s [o 4 (.alloc [.v (.int .i64 (0)),.v (.int .i64 (0))])] [0,1,4]<|.seq (s [m 7 0,o 8 (.call (.func F.bA) [7,(k 12)] [0])] [0,1,4,8]<|.cond 8 (s [m 9 0,m 10 1,o 11 (.bslice 1 6 [.v (.int .i64 (0))] [(0,(k (-1))),(1,(k 0)),(2,(k 1)),(3,10),(4,(k 9223372036854775807)),(5,(k
 (-9223372036854775808)))]),o 12 (.call (.func F.bE) [9,11] [0]),m 5 12] [0,1,4,5]<|s [m 13 5,m 14 0,m 15 1,m 16 1,ad 17 16 1,o 18 (.bslice 1 5 [.v (.int .i64 (0))] [(0,(k 0)),(1,(k 1)),(2,15),(3,17),(4,(k 9223372036854775807))]),o 19 (.call (.func F.bE) [14,18]
 [0]),o 20 (.build [.v (.int .i64 (0)),.v (.int .i64 (0))] [(0,1,13),(1,1,19)]),⟨none,.store 2 4 20,none⟩] [4]<|.ret) .skip)<|s [m 21 0,m 22 1,c 23 F.vK [(k 1),22],o 24 (.call (.func F.aF) [21,23] [0]),m 6 24] [0,1,4,6]<|s [m 25 6,m 26 6,ad 27 26 1,m 28 0,m 29 1,m 30 6,o 31
 (.bin .sub 29 30),c 32 F.vK [(k 1),31],o 33 (.call (.func F.aF) [28,32] [0]),o 34 (.bin .add 27 33),o 35 (.build [.v (.int .i64 (0)),.v (.int .i64 (0))] [(0,1,25),(1,1,34)]),⟨none,.store 2 4 35,none⟩] [4]<|.ret
theorem CdV.l02DrawField_k:CK 44 Tryz.f44 CdV.l02DrawField 36 [.cell 4 29]:=ck Tryz.func44
attribute [go_sem] CdV.l02DrawField
theorem aFr (a b:Int):Fz F.vK [.v (.int .i64 a),.v (.int .i64 b)] (.v (.int .i64 (if a>b then a else b))):=by
 refine fn0 Cd.s_l00Max_k λX=>?_
 repeat' first|simp -dsimp only[go_sem]|apply Br.mk<;>intro h<;>try simp -dsimp only[h]|refine aC ?_|refine aC9 ?_|fail
 all_goals(first|(refine aR ?_;simp_all;done)|(simp_all;done)|(simp_all;omega))
attribute [local go_sem] Int.reduceBEq Int.reduceBNe cC aH Af Ag Ao Aq Ae Aj Ad Al Ac Ai Ap Av Am Ak AR BQ Vs.Name.t.injEq Ar AY aT aU bF Be BF BG Int.reduceAdd Int.reduceSub in
theorem drawFieldK (l:List Int) (x:Sr) (G:byt l) (hp:x.p<=2900) (k:Int) (hk:k=4∨k=5):∃f0 f1 z,z.p<=x.p+8∧Vs.Fn Tryz.prog F.iW [sB l x] [.ptr (.b 0) 0 0,.v (.int .i64 k)] (.agg [.v (.int .i64 f0),.v (.int .i64 f1)]) [some (sB l z)]:=by
 have H:=one l x G 12 (by omega);have q1:=aO l x 12;obtain⟨Z,I⟩:∃b,(pkV l x 12==0)=b:=⟨_,rfl⟩;rw[I] at H;generalize pkS l x 12=y1 at *
 cases Z
 .have h2:=aZ G y1 (n:=k) (by omega);have V:=pick l y1 G k (by omega);have q2:=aO l y1 k;generalize pkV l y1 k=v2 at *
  generalize pkS l y1 k=y2 at *
  have J:=aFr 1 k;rw[show(if(1:Int)>k then(1:Int) else k)=k by split<;>omega] at J;have w5:IntKind.i64.wrap (k-v2)=k-v2:=aI (by omega) (by omega);have M:=aFr 1 (k-v2);rw[show(if(1:Int)>k-v2 then(1:Int) else k-v2)=k-v2 by split<;>omega] at M;have Y:=pick l y2 G (k-v2) (by omega);have q3:=aO l y2 (k-v2);generalize pkV l y2 (k-v2)=v3 at *
  generalize pkS l y2 (k-v2)=z at *
  refine⟨v2,IntKind.i64.wrap (IntKind.i64.wrap (v2+1)+v3),z,by omega,?_⟩;refine fn1 CdV.l02DrawField_k [.b 0] [sB l z] λX=>?_;unfold CdV.l02DrawField
  repeat' first|simp -dsimp only[go_sem,sB,w5]|apply Br.mk<;>intro h<;>try simp -dsimp only[h]|refine aA.bor (by first|exact H|exact V|exact Y) rfl ?_|refine aA.c (by first|exact J|exact M) ?_|refine aC ?_|refine aC9 ?_|fail
  all_goals first|exact⟨_,_,rfl,rfl⟩
 .have O:=among l y1 G [-1,0,1,k,9223372036854775807,-9223372036854775808] (by omega) (by simp) (by simp);have q2:=aO l y1 (([-1,0,1,k,9223372036854775807,-9223372036854775808]:List Int).length:Nat);generalize([-1,0,1,k,9223372036854775807,-9223372036854775808]:List Int).getD _ 0=v2 at *
  generalize pkS l y1 (([-1,0,1,k,9223372036854775807,-9223372036854775808]:List Int).length:Nat)=y2 at *
  have U:=among l y2 G [0,1,k,k+1,9223372036854775807] (by omega) (by simp) (by simp);have q3:=aO l y2 (([0,1,k,k+1,9223372036854775807]:List Int).length:Nat);generalize([0,1,k,k+1,9223372036854775807]:List Int).getD _ 0=v3 at *
  generalize pkS l y2 (([0,1,k,k+1,9223372036854775807]:List Int).length:Nat)=z at *
  have w6:IntKind.i64.wrap (k+1)=k+1:=aI (by omega) (by omega);refine⟨v2,v3,z,by omega,?_⟩;refine fn1 CdV.l02DrawField_k [.b 0] [sB l z] λX=>?_;unfold CdV.l02DrawField
  repeat' first|simp -dsimp only[go_sem,sB,w6]|apply Br.mk<;>intro h<;>try simp -dsimp only[h]|refine aA.bor (by first|exact H) rfl ?_|refine aA.borM (by first|exact O|exact U) rfl ?_|refine aC ?_|refine aC9 ?_|fail
  all_goals first|exact⟨_,_,rfl,rfl⟩
theorem aCu {o:List Stp}{i:Nat} (hi:i<o.length):(E cS o).getD i []=[.v (.int .i64 o[i].kind),.v (.int .i64 o[i].a),.v (.int .i64 o[i].b),.v (.int .i64 o[i].to),.v (.int .i64 o[i].f0),.v (.int .i64 o[i].f1),.v (.int .i64 o[i].s0),.v (.int .i64 o[i].s1),.v (.string o[i].text)]:=aW hi
theorem zP (o:List Stp) (i:Nat) (y:Stp):(E cS o).set i [.v (.int .i64 y.kind),.v (.int .i64 y.a),.v (.int .i64 y.b),.v (.int .i64 y.to),.v (.int .i64 y.f0),.v (.int .i64 y.f1),.v (.int .i64 y.s0),.v (.int .i64 y.s1),.v (.string y.text)]=E cS (o.set i y):=by simp[E,Dc,cS]
theorem spW {p:Prop} (h:p:=by
  refine fn1 CdV.l15Spoil_k [.b 0,.b 1] [sB l z,.arr 9 (E cS (o.set i ns)) false] λX=>?_;unfold CdV.l15Spoil
  repeat' first|simp -dsimp only[go_sem,Int.reduceBEq,Int.reduceBNe,cC,aH,Af,Ag,Ao,Aq,Ae,Aj,Ad,Al,Ac,Ai,Ap,Av,Am,Ak,AR,BQ,Vs.Name.t.injEq,Ar,AY,aT,aU,bF,sB,Be,BF,BG,Int.reduceAdd,Int.reduceSub,Vs.Name.b.injEq,Nat.one_ne_zero,Nat.zero_ne_one,and_true,and_false,Ck,false_and,cS,hlo,hgi,hst,aH,Ar,AY,Ad,Al,Bf,BA,Cj,Ce,Ae,Aj]|apply Br.mk<;>intro h<;>try simp -dsimp only[h]|refine aA.bor (by first|exact P1|exact P2|exact DFz) rfl ?_|refine aA.borM (by first|exact A1) rfl ?_|refine aC ?_|refine aC9 ?_|fail
  all_goals first|omega|exact⟨_,_,rfl,rfl⟩|(refine⟨⟨by omega,by omega⟩,?_⟩;exact⟨_,_,rfl,rfl⟩)):p:=h
theorem tx4 (i:Nat):(([⟨#[]⟩,⟨#[65]⟩,⟨#[97]⟩,⟨#[65,66]⟩]:List ByteArray).getD i ⟨#[]⟩).size<=2:=by
 rcases i with _|_|_|_|i<;>first|decide|exact Nat.zero_le _
theorem aNE (l:List Int) (x:Sr) (hl:byt l) (hp:x.p<=2800) (o:List Stp) (i:Nat) (hi:i<o.length) (ho:o.length<=100) (hsz:o[i].text.size<=2):∃s z,z.p<=x.p+20∧s.text.size<=2∧Vs.Fn Tryz.prog F.lD [sB l x,.arr 9 (E cS o) false] [.ptr (.b 0) 0 0,.ptr (.b 1) i 0] (.tup []) [some (sB l z),some (.arr 9 (E cS (o.set i s)) false)]:=by
 have hlo:(E cS o).length=o.length:=aH _;have P1:=pick l x hl 8 (by omega);have q1:=aO l x 8;have h1:=aZ hl x (n:=8) (by omega);generalize pkV l x 8=v1 at *
 generalize pkS l x 8=y1 at *
 have hv:v1=0∨v1=1∨v1=2∨v1=3∨v1=4∨v1=5∨v1=6∨v1=7:=by omega
 rcases hv with rfl|rfl|rfl|rfl|rfl|rfl|rfl|rfl
 .have A1:=among l y1 hl [0,7,8,-1] (by omega) (by simp) (by simp);have q2:=aO l y1 (([0,7,8,-1]:List Int).length:Nat);generalize([0,7,8,-1]:List Int).getD _ 0=w at *
  generalize pkS l y1 (([0,7,8,-1]:List Int).length:Nat)=z at *
  refine⟨⟨w,o[i].a,o[i].b,o[i].to,o[i].f0,o[i].f1,o[i].s0,o[i].s1,o[i].text⟩,z,by omega,by show o[i].text.size<=2;exact hsz,?_⟩;have hgi:=aCu hi;have hst:=zP o i ⟨w,o[i].a,o[i].b,o[i].to,o[i].f0,o[i].f1,o[i].s0,o[i].s1,o[i].text⟩;dsimp only at hst;generalize o[i]=s at *
  generalize(⟨w,s.a,s.b,s.to,s.f0,s.f1,s.s0,s.s1,s.text⟩:Stp)=ns at *
  exact spW
 .have A1:=among l y1 hl [-1,5,6] (by omega) (by simp) (by simp);have q2:=aO l y1 (([-1,5,6]:List Int).length:Nat);generalize([-1,5,6]:List Int).getD _ 0=w at *
  generalize pkS l y1 (([-1,5,6]:List Int).length:Nat)=z at *
  refine⟨⟨o[i].kind,w,o[i].b,o[i].to,o[i].f0,o[i].f1,o[i].s0,o[i].s1,o[i].text⟩,z,by omega,by show o[i].text.size<=2;exact hsz,?_⟩;have hgi:=aCu hi;have hst:=zP o i ⟨o[i].kind,w,o[i].b,o[i].to,o[i].f0,o[i].f1,o[i].s0,o[i].s1,o[i].text⟩;dsimp only at hst;generalize o[i]=s at *
  generalize(⟨s.kind,w,s.b,s.to,s.f0,s.f1,s.s0,s.s1,s.text⟩:Stp)=ns at *
  exact spW
 .have A1:=among l y1 hl [-1,1,5,6] (by omega) (by simp) (by simp);have q2:=aO l y1 (([-1,1,5,6]:List Int).length:Nat);generalize([-1,1,5,6]:List Int).getD _ 0=w at *
  generalize pkS l y1 (([-1,1,5,6]:List Int).length:Nat)=z at *
  refine⟨⟨o[i].kind,o[i].a,w,o[i].to,o[i].f0,o[i].f1,o[i].s0,o[i].s1,o[i].text⟩,z,by omega,by show o[i].text.size<=2;exact hsz,?_⟩;have hgi:=aCu hi;have hst:=zP o i ⟨o[i].kind,o[i].a,w,o[i].to,o[i].f0,o[i].f1,o[i].s0,o[i].s1,o[i].text⟩;dsimp only at hst;generalize o[i]=s at *
  generalize(⟨s.kind,s.a,w,s.to,s.f0,s.f1,s.s0,s.s1,s.text⟩:Stp)=ns at *
  exact spW
 .have A1:=among l y1 hl [-1,5,6] (by omega) (by simp) (by simp);have q2:=aO l y1 (([-1,5,6]:List Int).length:Nat);generalize([-1,5,6]:List Int).getD _ 0=w at *
  generalize pkS l y1 (([-1,5,6]:List Int).length:Nat)=z at *
  refine⟨⟨o[i].kind,o[i].a,o[i].b,w,o[i].f0,o[i].f1,o[i].s0,o[i].s1,o[i].text⟩,z,by omega,by show o[i].text.size<=2;exact hsz,?_⟩;have hgi:=aCu hi;have hst:=zP o i ⟨o[i].kind,o[i].a,o[i].b,w,o[i].f0,o[i].f1,o[i].s0,o[i].s1,o[i].text⟩;dsimp only at hst;generalize o[i]=s at *
  generalize(⟨s.kind,s.a,s.b,w,s.f0,s.f1,s.s0,s.s1,s.text⟩:Stp)=ns at *
  exact spW
 .obtain⟨w0,w1,z,q2,DFz⟩:=drawFieldK l y1 hl (by omega) 5 (.inr rfl);refine⟨⟨o[i].kind,o[i].a,o[i].b,o[i].to,w0,w1,o[i].s0,o[i].s1,o[i].text⟩,z,by omega,by show o[i].text.size<=2;exact hsz,?_⟩;have hgi:=aCu hi;have hst:=zP o i ⟨o[i].kind,o[i].a,o[i].b,o[i].to,w0,w1,o[i].s0,o[i].s1,o[i].text⟩;dsimp only at hst;generalize o[i]=s at *
  generalize(⟨s.kind,s.a,s.b,s.to,w0,w1,s.s0,s.s1,s.text⟩:Stp)=ns at *
  exact spW
 .obtain⟨w0,w1,z,q2,DFz⟩:=drawFieldK l y1 hl (by omega) 5 (.inr rfl);refine⟨⟨o[i].kind,o[i].a,o[i].b,o[i].to,o[i].f0,o[i].f1,w0,w1,o[i].text⟩,z,by omega,by show o[i].text.size<=2;exact hsz,?_⟩;have hgi:=aCu hi;have hst:=zP o i ⟨o[i].kind,o[i].a,o[i].b,o[i].to,o[i].f0,o[i].f1,w0,w1,o[i].text⟩;dsimp only at hst;generalize o[i]=s at *
  generalize(⟨s.kind,s.a,s.b,s.to,s.f0,s.f1,w0,w1,s.text⟩:Stp)=ns at *
  exact spW
 .have A1:=text l y1 hl [⟨#[]⟩,⟨#[65]⟩,⟨#[97]⟩,⟨#[65,66]⟩] (by omega) (by simp) (by simp);have q2:=aO l y1 (([⟨#[]⟩,⟨#[65]⟩,⟨#[97]⟩,⟨#[65,66]⟩]:List ByteArray).length:Nat);have hts:(([⟨#[]⟩,⟨#[65]⟩,⟨#[97]⟩,⟨#[65,66]⟩]:List ByteArray).getD (pkV l y1 (([⟨#[]⟩,⟨#[65]⟩,⟨#[97]⟩,⟨#[65,66]⟩]:List ByteArray).length:Nat)).toNat ⟨#[]⟩).size<=2:=tx4 _;unfold cSt at A1;simp only[Vs.E,Bt,BI] at A1;generalize([⟨#[]⟩,⟨#[65]⟩,⟨#[97]⟩,⟨#[65,66]⟩]:List ByteArray).getD _ ⟨#[]⟩=w at *
  generalize pkS l y1 (([⟨#[]⟩,⟨#[65]⟩,⟨#[97]⟩,⟨#[65,66]⟩]:List ByteArray).length:Nat)=z at *
  refine⟨⟨o[i].kind,o[i].a,o[i].b,o[i].to,o[i].f0,o[i].f1,o[i].s0,o[i].s1,w⟩,z,by omega,hts,?_⟩;have hgi:=aCu hi;have hst:=zP o i ⟨o[i].kind,o[i].a,o[i].b,o[i].to,o[i].f0,o[i].f1,o[i].s0,o[i].s1,w⟩;dsimp only at hst;generalize o[i]=s at *
  generalize(⟨s.kind,s.a,s.b,s.to,s.f0,s.f1,s.s0,s.s1,w⟩:Stp)=ns at *
  exact spW
 .have P2:=pick l y1 hl 2 (by omega);have q2:=aO l y1 2;generalize pkV l y1 2=w at *
  generalize pkS l y1 2=z at *
  refine⟨⟨o[i].kind,o[i].a,o[i].b,o[i].to,o[i].f0,o[i].f1,1,IntKind.i64.wrap (13+w),o[i].text⟩,z,by omega,by show o[i].text.size<=2;exact hsz,?_⟩;have hgi:=aCu hi;have hst:=zP o i ⟨o[i].kind,o[i].a,o[i].b,o[i].to,o[i].f0,o[i].f1,1,IntKind.i64.wrap (13+w),o[i].text⟩;dsimp only at hst;generalize o[i]=s at *
  generalize(⟨s.kind,s.a,s.b,s.to,s.f0,s.f1,1,IntKind.i64.wrap (13+w),s.text⟩:Stp)=ns at *
  exact spW
end
section
variable [Vs.Envs]
attribute [local irreducible] Vs.Fn nxV nxS pkV pkS pt crd gG dtF jD
open Go.Vs.Q in
def CdV.iD:aD:=s [o 2 (.alloc [.v (.int .i64 (0)),.v (.int .i64 (0))])] [0,2]<|.seq (s [m 4 0,o 5 (.call (.func F.bA) [4,(k 6)] [0])] [0,2,5]<|.cond 5 (s [m 6 0,o 7 (.call (.func F.qK) [6] [0]),⟨none,.store 2 2 7,none⟩] [2]<|.ret) .skip)<|s [m 8 0,o 9 (.call (.func F.aF)
 [8,(k 2)] [0]),o 10 (.bin .mul (k 2) 9),o 11 (.bin .add (k 1) 10),o 12 (.build [.v (.int .i64 (0)),.v (.int .i64 (0))] [(0,1,11)]),o 3 (.alloc [.v (.int .i64 (0)),.v (.int .i64 (0))]),⟨none,.store 2 3 12,none⟩] [2,3]<|s [fa 13 0 3,lf 14 1 13,ad 15 14 2,fa 16 1 3,⟨none,.store 1 16 15,none⟩] [2,3]<|s
 [lt 17 2 3,⟨none,.store 2 2 17,none⟩] [2]<|.ret
theorem CdV.l18Number_k:CK 33 Tryz.f33 CdV.iD 18 [.cell 2 29]:=ck Tryz.func33
attribute [go_sem] CdV.iD
attribute [local go_sem] Int.reduceBEq Int.reduceBNe cC aH Af Ag Ao Aq Ae Aj Ad Al Ac Ai Ap Av Am Ak AR BQ Vs.Name.t.injEq Ar AY aT aU bF Be BF BG Int.reduceAdd Int.reduceSub Int.reduceMul cCt in
theorem aOt (l:List Int) (x:Sr) (G:byt l) (hp:x.p<=2800):∃J M z,z.p<=x.p+12∧Vs.Fn Tryz.prog F.qK [sB l x] [.ptr (.b 0) 0 0] (.agg [.v (.int .i64 J),.v (.int .i64 M)]) [some (sB l z)]:=by
 have H:=one l x G 10 (by omega);have q1:=aO l x 10;obtain⟨b1,O⟩:∃b,(pkV l x 10==0)=b:=⟨_,rfl⟩;rw[O] at H;generalize pkS l x 10=x1 at *
 cases b1
 rotate_left
 .obtain⟨J,M,z,hz,D5⟩:=drawFieldK l x1 G (by omega) 5 (.inr rfl);refine⟨J,M,z,by omega,?_⟩;refine fn1 Cd.s_l18Sum_k [.b 0] [sB l z] λX=>?_;unfold Cd.qK
  repeat' first|simp -dsimp only[go_sem,sB]|apply Br.mk<;>intro h<;>try simp -dsimp only[h]|refine aA.bor (by first|exact H|exact D5) rfl ?_|refine aC ?_|refine aC9 ?_|fail
  all_goals first|exact⟨_,_,rfl,rfl⟩
 have I:=one l x1 G 12 (by omega);have q2:=aO l x1 12;obtain⟨b2,U⟩:∃b,(pkV l x1 12==0)=b:=⟨_,rfl⟩;rw[U] at I;generalize pkS l x1 12=x2 at *
 have V:=pick l x2 G 2 (by omega);have v3:=aZ G x2 (n:=2) (by omega);have q3:=aO l x2 2;generalize pkV l x2 2=r at *
 generalize pkS l x2 2=z at *
 have Y:IntKind.i64.wrap (13+r)=13+r:=aI (by omega) (by omega);have Z:IntKind.i64.wrap (2*r)=2*r:=aI (by omega) (by omega);have w3:IntKind.i64.wrap (1+2*r)=1+2*r:=aI (by omega) (by omega);cases b2
 .refine⟨1+2*r,5,z,by omega,?_⟩;refine fn1 Cd.s_l18Sum_k [.b 0] [sB l z] λX=>?_;unfold Cd.qK
  repeat' first|simp -dsimp only[go_sem,sB,Y,Z,w3]|apply Br.mk<;>intro h<;>try simp -dsimp only[h]|refine aA.bor (by first|exact H|exact I|exact V) rfl ?_|refine aC ?_|refine aC9 ?_|fail
  all_goals first|exact⟨_,_,rfl,rfl⟩
 .refine⟨1,13+r,z,by omega,?_⟩;refine fn1 Cd.s_l18Sum_k [.b 0] [sB l z] λX=>?_;unfold Cd.qK
  repeat' first|simp -dsimp only[go_sem,sB,Y,Z,w3]|apply Br.mk<;>intro h<;>try simp -dsimp only[h]|refine aA.bor (by first|exact H|exact I|exact V) rfl ?_|refine aC ?_|refine aC9 ?_|fail
  all_goals first|exact⟨_,_,rfl,rfl⟩
attribute [local go_sem] Int.reduceBEq Int.reduceBNe cC aH Af Ag Ao Aq Ae Aj Ad Al Ac Ai Ap Av Am Ak AR BQ Vs.Name.t.injEq Ar AY aT aU bF Be BF BG Int.reduceAdd Int.reduceSub Int.reduceMul cCt in
theorem iD (l:List Int) (x:Sr) (G:byt l) (hp:x.p<=2780):∃I J z,z.p<=x.p+14∧Vs.Fn Tryz.prog F.yE [sB l x] [.ptr (.b 0) 0 0] (.agg [.v (.int .i64 I),.v (.int .i64 J)]) [some (sB l z)]:=by
 have H:=one l x G 6 (by omega);have q1:=aO l x 6;obtain⟨V,M⟩:∃b,(pkV l x 6==0)=b:=⟨_,rfl⟩;rw[M] at H;generalize pkS l x 6=x1 at *
 cases V
 rotate_left
 .obtain⟨I,J,z,hz,O⟩:=aOt l x1 G (by omega);refine⟨I,J,z,by omega,?_⟩;refine fn1 CdV.l18Number_k [.b 0] [sB l z] λX=>?_;unfold CdV.iD
  repeat' first|simp -dsimp only[go_sem,sB]|apply Br.mk<;>intro h<;>try simp -dsimp only[h]|refine aA.bor (by first|exact H|exact O) rfl ?_|refine aC ?_|refine aC9 ?_|fail
  all_goals first|exact⟨_,_,rfl,rfl⟩
 have U:=pick l x1 G 2 (by omega);have v3:=aZ G x1 (n:=2) (by omega);have q3:=aO l x1 2;generalize pkV l x1 2=r at *
 generalize pkS l x1 2=z at *
 have Y:IntKind.i64.wrap (2*r)=2*r:=aI (by omega) (by omega);have Z:IntKind.i64.wrap (1+2*r)=1+2*r:=aI (by omega) (by omega);have w4:IntKind.i64.wrap (1+2*r+2)=1+2*r+2:=aI (by omega) (by omega);refine⟨1+2*r,1+2*r+2,z,by omega,?_⟩;refine fn1 CdV.l18Number_k [.b 0] [sB l z] λX=>?_;unfold CdV.iD
 repeat' first|simp -dsimp only[go_sem,sB,Y,Z,w4]|apply Br.mk<;>intro h<;>try simp -dsimp only[h]|refine aA.bor (by first|exact H|exact U) rfl ?_|refine aC ?_|refine aC9 ?_|fail
 all_goals first|exact⟨_,_,rfl,rfl⟩
end
section
variable [Vs.Envs]
attribute [local irreducible] Vs.Fn nxV nxS pkV pkS pt crd gG dtF jD
def shV (a n:Int):Int:=IntKind.i64.wrap (a*2 ^ (min n.toNat 64))
def hoR (l:List Int) (x:Sr):Int×Sr:=
 if pkV l (pkS l x 10) 6=0 then(0,pkS l (pkS l x 10) 6)
 else if pkV l (pkS l x 10) 6=1 then(fU .or .i64 (shV 1 (pkV l (pkS l (pkS l x 10) 6) 3)) (shV 8 (pkV l (pkS l (pkS l (pkS l x 10) 6) 3) 9)),pkS l (pkS l (pkS l (pkS l x 10) 6) 3) 9)
 else if pkV l (pkS l x 10) 6=2 then(pkV l (pkS l (pkS l x 10) 6) 4096,pkS l (pkS l (pkS l x 10) 6) 4096)
 else(shV 4 (pkV l x 10),pkS l (pkS l x 10) 6)
def hoF (l:List Int):Nat->Sr->List Int->List Int×Sr
 |0,x,o=>(o,x)
 |k+1,x,o=>hoF l k (hoR l x).2 (o++[(hoR l x).1])
theorem aLB (l:List Int) (x:Sr):(hoR l x).2.p<=x.p+8:=by
 unfold hoR;have F:=aO l x 10;have h2:=aO l (pkS l x 10) 6;have G:=aO l (pkS l (pkS l x 10) 6) 3;have H:=aO l (pkS l (pkS l (pkS l x 10) 6) 3) 9;have I:=aO l (pkS l (pkS l x 10) 6) 4096;split
 .show(pkS l (pkS l x 10) 6).p<=_;omega
 split
 .show(pkS l (pkS l (pkS l (pkS l x 10) 6) 3) 9).p<=_;omega
 split
 .show(pkS l (pkS l (pkS l x 10) 6) 4096).p<=_;omega
 .show(pkS l (pkS l x 10) 6).p<=_;omega
theorem xK (l:List Int):∀(k:Nat) (x:Sr) (o:List Int),(hoF l k x o).1.length=o.length+k∧(hoF l k x o).2.p<=x.p+8*k
 |0,x,o=>⟨rfl,by simp[hoF]⟩
 | k+1,x,o=>by
  have F:=xK l k (hoR l x).2 (o++[(hoR l x).1]);have G:=aLB l x;rw[hoF];refine⟨?_,by omega⟩;rw[F.1,AX];simp only[Cf];omega
theorem aJd {v n:Int} (h:0<=v∧v<n) (F:n<=4096):IntKind.u64.wrap v=v:=by simp[IntKind.wrap,IntKind.signed,IntKind.bits];omega
def gvH (i:Nat):AV:=if i=0 then .v (.slice none 0 0) else .loc (.t 42 0) 0 i
def ghH (o:List Int) (i:Nat):List (Vs.Name×Blk):=if i=0 then[] else[(.t 42 0,.arr 1 (E cI o) false)]
attribute [local go_sem] Int.reduceBEq Int.reduceBNe cC aH Af Ag Ao Aq Ae Aj Ad Al Ac Ai Ap Av Am Ak AR BQ Vs.Name.t.injEq Ar AY aT aU bF Be BF BG Int.reduceAdd Int.reduceSub Int.reduceMul cC in
theorem aIE (l:List Int) (x:Sr) (J:byt l) (n:Nat) (O:0<n) (hn:n<=20) (hp:x.p<=3000):Vs.Fn Tryz.prog F.gI [sB l x] [.ptr (.b 0) 0 0,.v (.int .i64 n)] (.agg [.loc (.b 1) 0 n]) [some (sB l (hoF l n x []).2),some (.arr 1 (E cI (hoF l n x []).1) false)]:=by
 have ha:=(xK l n x []).1;simp only[Ai,Ca] at ha;have hd:hoF l n x []=hoF l (n-0) x []:=rfl;generalize hR:hoF l n x []=R at *
 refine fn1 Cd.s_l02Draw_k [.b 0,.t 42 0] [sB l R.2,.arr 1 (E cI R.1) false] λX=>?_;unfold Cd.gI
 repeat' first|simp -dsimp only[go_sem,sB]|apply Br.mk<;>intro h<;>try simp -dsimp only[h]|refine aC ?_|refine aC9 ?_|fail
 refine aP.intro dM (X:={M:Nat×Sr×List Int // M.1<=n∧M.2.2.length=M.1∧(M.2.1.p+8*(n-M.1)<=3300)∧hoF l (n-M.1) M.2.1 M.2.2=R}) (λM=>⟨[(0,.ptr (.b 0) 0 0),(1,.v (.int .i64 (n:Nat))),(4,.ptr (.t 4 0) 0 0),(5,.ptr (.t 5 0) 0 0),(6,.v (.int .i64 (M.1.1:Nat)))],(.b 0,sB l M.1.2.1)::(.t 5 0,.var [gvH M.1.1] false)::(.t 4 0,.var [.v (.slice none 0 0)] false)::ghH M.1.2.2 M.1.1⟩) (λM=>n-M.1.1) ⟨(0,x,[]),by dsimp only;omega,rfl,by dsimp only;omega,by dsimp only;rw[←hR];rfl⟩ ?_ ?_
 .simp[Vs.LeL,Vs.look,aB,aQ,aK,Vs.hset,aL,gvH,ghH,sB]
 .rintro⟨⟨i,y,o⟩,hi,ho,hk,I⟩;dsimp only at hi ho hk I;have hw:IntKind.i64.wrap ((i:Int)+1)=((i+1:Nat):Int):=by rw[aI (by omega) (by omega)];omega
  by_cases hz:i=0
  .subst hz;obtain rfl:o=[]:=Bv ho;simp only[gvH,ghH,Bj]
   try simp -dsimp only[go_sem,sB]
   refine Br.mk (λhc=>?_) λhc=>?_
   .rw[show n-0=(n-0-1)+1 by omega,hoF] at I;have P1:=pick l y J 10 (by omega);have v1:=aZ J y (n:=10) (by omega);have q1:=aO l y 10;have u1:=aJd v1 (by omega);have P2:=pick l (pkS l y 10) J 6 (by omega);have v2:=aZ J (pkS l y 10) (n:=6) (by omega);have q2:=aO l (pkS l y 10) 6;have hq:=aLB l y;unfold hoR at I hq;generalize pkV l (pkS l y 10) 6=r2 at *
    generalize pkS l (pkS l y 10) 6=x2 at *
    generalize pkV l y 10=r1 at *
    generalize pkS l y 10=x1 at *
    by_cases O:r2=0
    .simp only[O,Bj,Bc] at I hq;have Y:(r2==0)=true:=BO.2 O;generalize x2=y2 at *
     have G:[[AV.v (.int .i64 (0))]]=E cI [0]:=by rfl
     repeat' first|simp -dsimp only[go_sem,Y,u1,hw,sB]|apply Br.mk<;>intro h<;>try simp -dsimp only[h]|refine aA.bor (by first|exact P1|exact P2) rfl ?_|refine aC ?_|refine aC9 ?_|fail
     all_goals first|omega|(refine⟨⟨(0+1,y2,[0]),by dsimp only;omega,rfl,by dsimp only;omega,by rw[show n-(0+1)=n-0-1 by omega];exact I⟩,?_,by simp only;omega⟩;simp[Vs.LeL,Vs.look,aB,aQ,aK,Vs.hset,aL,Vs.E,sB,gvH,ghH,cI];done)
    have Y:(r2==0)=false:=AB.2 O;by_cases Z:r2=1
    .simp only[O,Z,Bj,Bc] at I hq;have e1:(r2==1)=true:=BO.2 Z;have P3:=pick l x2 J 3 (by omega);have v3:=aZ J x2 (n:=3) (by omega);have q3:=aO l x2 3;have P4:=pick l (pkS l x2 3) J 9 (by omega);have v4:=aZ J (pkS l x2 3) (n:=9) (by omega);have q4:=aO l (pkS l x2 3) 9;have u3:=aJd v3 (by omega);have u4:=aJd v4 (by omega);generalize pkV l x2 3=r3 at *
     generalize pkV l (pkS l x2 3) 9=r4 at *
     generalize pkS l (pkS l x2 3) 9=y2 at *
     generalize pkS l x2 3=x3 at *
     obtain⟨hh,H⟩:∃hh,fU .or .i64 (shV 1 r3) (shV 8 r4)=hh:=⟨_,rfl⟩;rw[H] at I;unfold shV at H;have G:[[AV.v (.int .i64 (hh))]]=E cI [hh]:=by rfl
     repeat' first|simp -dsimp only[go_sem,Y,e1,u1,u3,u4,H,hw,G,sB]|apply Br.mk<;>intro h<;>try simp -dsimp only[h]|refine aA.bor (by first|exact P1|exact P2|exact P3|exact P4) rfl ?_|refine aC ?_|refine aC9 ?_|fail
     all_goals first|omega|(refine⟨⟨(0+1,y2,[hh]),by dsimp only;omega,rfl,by dsimp only;omega,by rw[show n-(0+1)=n-0-1 by omega];exact I⟩,?_,by simp only;omega⟩;simp[Vs.LeL,Vs.look,aB,aQ,aK,Vs.hset,aL,Vs.E,sB,gvH,ghH,G];done)
    have e1:(r2==1)=false:=AB.2 Z;by_cases h2:r2=2
    .simp only[O,Z,h2,Bj,Bc] at I hq;have e2:(r2==2)=true:=BO.2 h2;have P3:=pick l x2 J 4096 (by omega);have q3:=aO l x2 4096;generalize pkV l x2 4096=r3 at *
     generalize pkS l x2 4096=y2 at *
     have G:[[AV.v (.int .i64 (r3))]]=E cI [r3]:=by rfl
     repeat' first|simp -dsimp only[go_sem,Y,e1,e2,u1,hw,G,sB]|apply Br.mk<;>intro h<;>try simp -dsimp only[h]|refine aA.bor (by first|exact P1|exact P2|exact P3) rfl ?_|refine aC ?_|refine aC9 ?_|fail
     all_goals first|omega|(refine⟨⟨(0+1,y2,[r3]),by dsimp only;omega,rfl,by dsimp only;omega,by rw[show n-(0+1)=n-0-1 by omega];exact I⟩,?_,by simp only;omega⟩;simp[Vs.LeL,Vs.look,aB,aQ,aK,Vs.hset,aL,Vs.E,sB,gvH,ghH,G];done)
    have e2:(r2==2)=false:=AB.2 h2;simp only[O,Z,h2,Bc] at I hq;generalize x2=y2 at *
    obtain⟨hh,H⟩:∃hh,shV 4 r1=hh:=⟨_,rfl⟩;rw[H] at I;unfold shV at H;have G:[[AV.v (.int .i64 (hh))]]=E cI [hh]:=by rfl
    repeat' first|simp -dsimp only[go_sem,Y,e1,e2,u1,H,hw,G,sB]|apply Br.mk<;>intro h<;>try simp -dsimp only[h]|refine aA.bor (by first|exact P1|exact P2) rfl ?_|refine aC ?_|refine aC9 ?_|fail
    all_goals first|omega|(refine⟨⟨(0+1,y2,[hh]),by dsimp only;omega,rfl,by dsimp only;omega,by rw[show n-(0+1)=n-0-1 by omega];exact I⟩,?_,by simp only;omega⟩;simp[Vs.LeL,Vs.look,aB,aQ,aK,Vs.hset,aL,Vs.E,sB,gvH,ghH,G];done)
   .have:¬0<n:=Dq;omega
  .simp only[gvH,ghH,AC hz];have U:(E cI o).length=i:=by rw[aH];exact ho
   have V:(E cI o).take i=E cI o:=Ah (by omega)
   try simp -dsimp only[go_sem,U,V,sB]
   refine Br.mk (λhc=>?_) λhc=>?_
   .have he:i<n:=Dq;rw[show n-i=(n-i-1)+1 by omega,hoF] at I;have P1:=pick l y J 10 (by omega);have v1:=aZ J y (n:=10) (by omega);have q1:=aO l y 10;have u1:=aJd v1 (by omega);have P2:=pick l (pkS l y 10) J 6 (by omega);have v2:=aZ J (pkS l y 10) (n:=6) (by omega);have q2:=aO l (pkS l y 10) 6;have hq:=aLB l y;unfold hoR at I hq;generalize pkV l (pkS l y 10) 6=r2 at *
    generalize pkS l (pkS l y 10) 6=x2 at *
    generalize pkV l y 10=r1 at *
    generalize pkS l y 10=x1 at *
    by_cases O:r2=0
    .simp only[O,Bj,Bc] at I hq;have Y:(r2==0)=true:=BO.2 O;generalize x2=y2 at *
     have G:E cI o++[[AV.v (.int .i64 (0))]]=E cI (o++[0]):=by rw[aV];rfl
     repeat' first|simp -dsimp only[go_sem,Y,u1,hw,G,U,V,sB]|apply Br.mk<;>intro h<;>try simp -dsimp only[h]|refine aA.bor (by first|exact P1|exact P2) rfl ?_|refine aC ?_|refine aC9 ?_|fail
     all_goals first|omega|(refine⟨⟨(i+1,y2,o++[0]),by dsimp only;omega,by dsimp only;rw[AX];simp only[Cf];omega,by dsimp only;omega,by rw[show n-(i+1)=n-i-1 by omega];exact I⟩,?_,by simp only;omega⟩;simp[Vs.LeL,Vs.look,aB,aQ,aK,Vs.hset,aL,Vs.E,sB,gvH,ghH,G];done)
    have Y:(r2==0)=false:=AB.2 O;by_cases Z:r2=1
    .simp only[O,Z,Bj,Bc] at I hq;have e1:(r2==1)=true:=BO.2 Z;have P3:=pick l x2 J 3 (by omega);have v3:=aZ J x2 (n:=3) (by omega);have q3:=aO l x2 3;have P4:=pick l (pkS l x2 3) J 9 (by omega);have v4:=aZ J (pkS l x2 3) (n:=9) (by omega);have q4:=aO l (pkS l x2 3) 9;have u3:=aJd v3 (by omega);have u4:=aJd v4 (by omega);generalize pkV l x2 3=r3 at *
     generalize pkV l (pkS l x2 3) 9=r4 at *
     generalize pkS l (pkS l x2 3) 9=y2 at *
     generalize pkS l x2 3=x3 at *
     obtain⟨hh,H⟩:∃hh,fU .or .i64 (shV 1 r3) (shV 8 r4)=hh:=⟨_,rfl⟩;rw[H] at I;unfold shV at H;have G:E cI o++[[AV.v (.int .i64 (hh))]]=E cI (o++[hh]):=by rw[aV];rfl
     repeat' first|simp -dsimp only[go_sem,Y,e1,u1,u3,u4,H,hw,G,U,V,sB]|apply Br.mk<;>intro h<;>try simp -dsimp only[h]|refine aA.bor (by first|exact P1|exact P2|exact P3|exact P4) rfl ?_|refine aC ?_|refine aC9 ?_|fail
     all_goals first|omega|(refine⟨⟨(i+1,y2,o++[hh]),by dsimp only;omega,by dsimp only;rw[AX];simp only[Cf];omega,by dsimp only;omega,by rw[show n-(i+1)=n-i-1 by omega];exact I⟩,?_,by simp only;omega⟩;simp[Vs.LeL,Vs.look,aB,aQ,aK,Vs.hset,aL,Vs.E,sB,gvH,ghH,G];done)
    have e1:(r2==1)=false:=AB.2 Z;by_cases h2:r2=2
    .simp only[O,Z,h2,Bj,Bc] at I hq;have e2:(r2==2)=true:=BO.2 h2;have P3:=pick l x2 J 4096 (by omega);have q3:=aO l x2 4096;generalize pkV l x2 4096=r3 at *
     generalize pkS l x2 4096=y2 at *
     have G:E cI o++[[AV.v (.int .i64 (r3))]]=E cI (o++[r3]):=by rw[aV];rfl
     repeat' first|simp -dsimp only[go_sem,Y,e1,e2,u1,hw,G,U,V,sB]|apply Br.mk<;>intro h<;>try simp -dsimp only[h]|refine aA.bor (by first|exact P1|exact P2|exact P3) rfl ?_|refine aC ?_|refine aC9 ?_|fail
     all_goals first|omega|(refine⟨⟨(i+1,y2,o++[r3]),by dsimp only;omega,by dsimp only;rw[AX];simp only[Cf];omega,by dsimp only;omega,by rw[show n-(i+1)=n-i-1 by omega];exact I⟩,?_,by simp only;omega⟩;simp[Vs.LeL,Vs.look,aB,aQ,aK,Vs.hset,aL,Vs.E,sB,gvH,ghH,G];done)
    have e2:(r2==2)=false:=AB.2 h2;simp only[O,Z,h2,Bc] at I hq;generalize x2=y2 at *
    obtain⟨hh,H⟩:∃hh,shV 4 r1=hh:=⟨_,rfl⟩;rw[H] at I;unfold shV at H;have G:E cI o++[[AV.v (.int .i64 (hh))]]=E cI (o++[hh]):=by rw[aV];rfl
    repeat' first|simp -dsimp only[go_sem,Y,e1,e2,u1,H,hw,G,U,V,sB]|apply Br.mk<;>intro h<;>try simp -dsimp only[h]|refine aA.bor (by first|exact P1|exact P2) rfl ?_|refine aC ?_|refine aC9 ?_|fail
    all_goals first|omega|(refine⟨⟨(i+1,y2,o++[hh]),by dsimp only;omega,by dsimp only;rw[AX];simp only[Cf];omega,by dsimp only;omega,by rw[show n-(i+1)=n-i-1 by omega];exact I⟩,?_,by simp only;omega⟩;simp[Vs.LeL,Vs.look,aB,aQ,aK,Vs.hset,aL,Vs.E,sB,gvH,ghH,G];done)
   .have hb:i=n:=by
     have:¬i<n:=Dq;omega
    subst hb;rw[Cw,hoF] at I;subst I
    try simp -dsimp only[go_sem,U,V,sB]
    all_goals first|exact⟨_,_,rfl,rfl⟩|exact⟨⟨_,_,rfl,rfl⟩,λh=>h rfl⟩
end
end Go.Proofs.YtklmdppgonhflaaGreatDoor
