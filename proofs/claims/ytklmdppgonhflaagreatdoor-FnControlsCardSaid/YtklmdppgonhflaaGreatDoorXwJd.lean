/- A text that is spoilt. -/
import Derived.Test.YtklmdppgonhflaaGreatDoorXwBq
import Derived.Test.YtklmdppgonhflaaGreatDoorVuZ
import Derived.Test.YtklmdppgonhflaaGreatDoorXwD
import Derived.Test.YtklmdppgonhflaaGreatDoorVsI
import Derived.Test.YtklmdppgonhflaaGreatDoorXwBb
import Derived.Test.YtklmdppgonhflaaGreatDoorXwZd
import Derived.Test.YtklmdppgonhflaaGreatDoorXwPd
import Derived.Test.YtklmdppgonhflaaGreatDoorXwJa
set_option linter.all false
set_option maxHeartbeats 8000000
namespace Go.Proofs.YtklmdppgonhflaaGreatDoor
open Go.Vs
section
variable [Vs.Envs]
attribute [local irreducible] Vs.Fn nxV nxS pkV pkS pt crd dtF jD hoF hoR
open Go.Vs.Q in
def CdV.iL:aD:=s [mn 2] [0]<|s [m 6 0,o 7 (.call (.func F.aF) [6,(k 4)] [0]),o 8 (.bin .add (k 1) 7),m 3 8] [0,3]<|.seq (.naming 4 (.region [m 9 0,m 10 3,o 11 (.call (.func F.mF) [9,10,(k 7)] [0]),m 4 11] [0,3,4] []))<|.seq (s [m 12 0,o 13 (.call (.func F.aF) [12,(k
 16)] [0])] [0,3,4,13]<|.block 0 (s [en 15 13 0,m 14 15] [0,3,4,13,14]<|.cond 14 (.naming 4 (.region [m 16 4,m 17 0,m 18 3,ad 19 18 1,o 20 (.call (.func F.gI) [17,19] [0]),o 21 (.bslice 1 1 [.v (.slice none 0 0)] [(0,20)]),o 22 (.append 1 24 16 21),m 4 22] [4] [])) (s [en 24 13 1,m 23 24]
 [0,4,13,23]<|.cond 23 (s [m 25 4,ln 26 25,o 27 (.bin .gtr 26 (k 0))] [0,4,27]<|.cond 27 (.region [m 28 0,m 29 4,m 30 0,m 31 4,ln 32 31,o 33 (.call (.func F.aF) [30,32] [0]),ix 34 1 29 33,o 35 (.call (.func F.sU) [28,34] [0,1])] [4] []) .skip) (s [en 37 13 2,m 36 37]
 [0,4,36]<|.cond 36 (.seq (.naming 4 (.region [o 38 (.bslice 1 0 [.v (.slice none 0 0)] []),m 4 38] [0,4] []))<|s [m 39 0,o 40 (.call (.func F.aF) [39,(k 2)] [0]),o 41 (.bin .add (k 40) 40),m 5 41] [0,4,5]<|.block 1 (.loop (.seq (s [m 42 5,o 43 (.bin .gtr 42 (k 0))] [0,4,5,43]<|.cond
 43 .skip (.exit 1))<|.seq (.block 2 (.naming 4 (.region [m 46 4,m 47 0,o 48 (.call (.func F.gI) [47,(k 1)] [0]),o 49 (.bslice 1 1 [.v (.slice none 0 0)] [(0,48)]),o 50 (.append 1 24 46 49),m 4 50] [0,4,5] [])))<|.region [m 44 5,o 45 (.bin .sub 44 (k 1)),m 5 45] [0,4,5] []))) .skip))))<|s [m
 51 4,m 2 51] [2]<|.ret
theorem CdV.l02BentDeck_k:CK 43 Tryz.f43 CdV.iL 52 [.tmp 2]:=ck Tryz.func43
attribute [go_sem] CdV.iL
attribute [local go_sem] Int.reduceBEq Int.reduceBNe aH Af Ag Ao Aq Ae Aj Ad Al Ac Ai Ap Av Am Ak AR BQ Vs.Name.t.injEq Ar AY aT aU bF Be BF BG in
theorem aES (l:List Int) (y:Sr) (U:byt l) (hp:y.p<=1500) (O:pkV l (ddF l (1+pkV l y 4).toNat (pkV l (pkS l y 4) (7+1:Nat)).toNat (pkS l (pkS l y 4) (7+1:Nat)) []).2 16=1->(ddF l (1+pkV l y 4).toNat (pkV l (pkS l y 4) (7+1:Nat)).toNat (pkS l (pkS l y 4) (7+1:Nat)) []).1.length=0):∃(d:List (List Int)) (z:Sr),bO d∧z.p<=y.p+700∧Vs.Fn Tryz.prog F.j4 [sB l y] [.ptr (.b 0) 0 0] (.sl 1 (E cC d)) [some (sB l z)]:=by
 rw[show(1+pkV l y 4).toNat=(1+pkV l y 4).toNat from rfl] at O;have ht:=O;have P1:=pick l y U 4 (by omega);have v1:=aZ U y (n:=4) (by omega);have q1:=aO l y 4;generalize pkS l y 4=y1 at *
 obtain⟨M,hn⟩:∃n:Nat,1+pkV l y 4=n:=⟨(1+pkV l y 4).toNat,by omega⟩;have w1:IntKind.i64.wrap (1+pkV l y 4)=(M:Int):=by rw[aI (by omega) (by omega)];exact hn
 have hs:0<M:=by omega
 have hv:M<=4:=by omega
 rw[hn,BR] at O;generalize pkV l y 4=r0 at *
 have Y:=nO l y1 U M hs (by omega) 7 (by omega) (by omega);rw[show((7:Nat):Int)=7 from rfl] at Y;have vk:=aZ U y1 (n:=(7+1:Nat)) (by omega);have qk:=aO l y1 (7+1:Nat);obtain⟨k0,hj⟩:∃k:Nat,(pkV l y1 (7+1:Nat)).toNat=k:=⟨_,rfl⟩;have hm:k0<=7:=by omega
 obtain⟨g1,g2,g3⟩:=aDR l M k0 (pkS l y1 (7+1:Nat)) [] (λc I=>by cases I);simp only[Ai,Ca] at g1;have hu:8*M*k0<=32*7:=Nat.mul_le_mul (by omega) hm;rw[hj] at Y O;generalize ddF l M k0 (pkS l y1 (7+1:Nat)) []=R at *
 have G:(E cC R.1).length=R.1.length:=aH _;have V:(E cC R.1).take R.1.length=E cC R.1:=Ah (by rw[G];exact Au _);have hb:bO R.1:=⟨by omega,λc I=>by have:=g3 c I;omega⟩;have P3:=pick l R.2 U 16 (by omega);have v3:=aZ U R.2 (n:=16) (by omega);have q3:=aO l R.2 16;generalize pkV l R.2 16=r3 at *
 generalize pkS l R.2 16=y3 at *
 by_cases h0:r3=0
 .have e0:(r3==0)=true:=BO.2 h0;have w2:IntKind.i64.wrap ((M:Int)+1)=((M+1:Nat):Int):=by rw[aI (by omega) (by omega)];omega
  have LD:=aDH l y3 U (M+1) (by omega) (by omega) (by omega);have hq:=xK l (M+1) y3 [];generalize hoF l (M+1) y3 []=H at *
  simp only[Ai,Ca] at hq;have Z:E cC R.1++[[.sl 1 (E cI H.1)]]=E cC (R.1++[H.1]):=by rw[aV];rfl
  have hg:(E cC (R.1++[H.1])).take (R.1.length+1)=E cC (R.1++[H.1]):=Ah (by rw[aH];simp);refine⟨R.1++[H.1],H.2,⟨by rw[AX];simp;omega,λc I=>?_⟩,by omega,?_⟩
  .rcases Bg.1 I with h|h
   .exact hb.2 c h
   .rw[Av.1 h];omega
  refine fn1 CdV.l02BentDeck_k [.b 0] [sB l H.2] λX=>?_;unfold CdV.iL
  repeat' first|simp -dsimp only[go_sem,e0,w2,Z,hg,G,cC,sB,w1]|apply Br.mk<;>intro h<;>try simp -dsimp only[h]|refine aA.bor (by first|exact P1|exact Y|exact P3|exact LD) rfl ?_|refine aC ?_|refine aC9 ?_|fail
  all_goals first|omega|exact⟨_,_,rfl,rfl⟩|(exfalso;simp at h;done)
 have e0:(r3==0)=false:=AB.2 h0;by_cases h1:r3=1
 .have e1:(r3==1)=true:=BO.2 h1;have ho:R.1.length=0:=O h1;have he:R.1=[]:=Bv ho;rw[he] at Y G V;simp only[Ai] at Y G V;refine⟨[],y3,⟨by simp,λc I=>by cases I⟩,by omega,?_⟩;refine fn1 CdV.l02BentDeck_k [.b 0] [sB l y3] λX=>?_;unfold CdV.iL
  repeat' first|simp -dsimp only[go_sem,e0,e1,G,V,cC,sB,w1]|apply Br.mk<;>intro h<;>try simp -dsimp only[h]|refine aA.bor (by first|exact P1|exact Y|exact P3) rfl ?_|refine aC ?_|refine aC9 ?_|fail
  all_goals first|omega|exact⟨_,_,rfl,rfl⟩|(exfalso;simp at h;done)
 have e1:(r3==1)=false:=AB.2 h1;by_cases h2:r3=2
 .have e2:(r3==2)=true:=BO.2 h2;have P5:=pick l y3 U 2 (by omega);have v5:=aZ U y3 (n:=2) (by omega);have q5:=aO l y3 2;obtain⟨k1,ha⟩:∃k:Nat,40+pkV l y3 2=k:=⟨(40+pkV l y3 2).toNat,by omega⟩;have w5:IntKind.i64.wrap (40+pkV l y3 2)=(k1:Int):=by rw[aI (by omega) (by omega)];exact ha
  generalize pkV l y3 2=r5 at *
  generalize pkS l y3 2=y5 at *
  obtain⟨f1,f2,f3⟩:=aDR l 1 k1 y5 [] (λc I=>by cases I);simp only[Ai,Ca,Nat.mul_one] at f1 f2;generalize hQ:ddF l 1 k1 y5 []=Q at *
  have hd:(E cC Q.1).take Q.1.length=E cC Q.1:=Ah (by rw[aH];exact Au _);refine⟨Q.1,Q.2,⟨by omega,λc I=>by have:=f3 c I;omega⟩,by omega,?_⟩;refine fn1 CdV.l02BentDeck_k [.b 0] [sB l Q.2] λX=>?_;unfold CdV.iL
  repeat' first|simp -dsimp only[go_sem,e0,e1,e2,w5,G,cC,sB,w1]|apply Br.mk<;>intro h<;>try simp -dsimp only[h]|refine aA.bor (by first|exact P1|exact Y|exact P3|exact P5) rfl ?_|refine aC ?_|refine aC9 ?_|fail
  refine aP.at dM (X:={J:Nat×Sr×List (List Int) // (J.2.1.p+8*J.1<=2950)∧(J.1+J.2.2.length=k1)∧ddF l 1 J.1 J.2.1 J.2.2=Q}) (λJ=>[(4,.loc (.t 4 0) 0 J.1.2.2.length),(5,.v (.int .i64 (J.1.1:Nat)))]) (λJ=>[(.b 0,sB l J.1.2.1),(.t 4 0,.arr 1 (E cC J.1.2.2) false)]) (λJ=>J.1.1) ⟨(k1,y5,[]),by dsimp only;omega,by dsimp only;simp only[Ai];omega,hQ⟩ ?_ ?_
  .simp[Vs.LeL,Vs.look,aB,aQ,aK,Vs.hset,aL,Vs.E,sB]
  .rintro⟨⟨k,y,o⟩,ha,hk,hr⟩;dsimp only at ha hk hr;simp -dsimp only[go_sem,cC,sB];refine Br.mk (λI=>?_) λI=>?_
   .obtain⟨k,rfl⟩:∃j,k=j+1:=⟨k-1,by simp at I;omega⟩;have w:=aJj (k:=k) (by omega);have hf:=aDH l y U 1 (by omega) (by omega) (by omega);rw[show((1:Nat):Int)=1 from rfl] at hf;have hq:=(xK l 1 y []).2;rw[ddF] at hr;generalize hoF l 1 y []=H at *
    have Z:E cC o++[[.sl 1 (E cI H.1)]]=E cC (o++[H.1]):=by rw[aV];rfl
    repeat' first|simp -dsimp only[go_sem,w,Z,cC,sB]|apply Br.mk<;>intro h<;>try simp -dsimp only[h]|refine aA.bor (by first|exact hf) rfl ?_|refine aC ?_|refine aC9 ?_|fail
    all_goals first|omega|(refine⟨⟨(k,H.2,o++[H.1]),by dsimp only;omega,by dsimp only;rw[AX];simp only[Ac,Ai];omega,hr⟩,?_,by simp only;omega⟩;simp[Vs.LeL,Vs.look,aB,aQ,aK,Vs.hset,aL,Vs.E,sB,cC];done)
   .obtain rfl:k=0:=by simp at I;omega
    rw[ddF] at hr;subst hr;dsimp only at *
    simp -dsimp only[go_sem,hd,cC,sB]
    first|exact⟨⟨_,_,rfl,rfl⟩,λh=>absurd rfl h⟩|exact⟨⟨_,_,rfl,rfl⟩,λh=>h rfl⟩|exact⟨_,_,rfl,rfl⟩
 have e2:(r3==2)=false:=AB.2 h2;refine⟨R.1,y3,hb,by omega,?_⟩;refine fn1 CdV.l02BentDeck_k [.b 0] [sB l y3] λX=>?_;unfold CdV.iL
 repeat' first|simp -dsimp only[go_sem,e0,e1,e2,G,V,cC,sB,w1]|apply Br.mk<;>intro h<;>try simp -dsimp only[h]|refine aA.bor (by first|exact P1|exact Y|exact P3) rfl ?_|refine aC ?_|refine aC9 ?_|fail
 all_goals first|omega|exact⟨_,_,rfl,rfl⟩|(exfalso;simp at h;done)
end
section
variable [Vs.Envs]
attribute [local irreducible] Vs.Fn nxV nxS pkV pkS pt crd dtF jD hoF hoR
open Go.Vs.Q in
def CdV.l02BentDeckN:aD:=s [mn 2] [0]<|s [m 6 0,o 7 (.call (.func F.aF) [6,(k 4)] [0]),o 8 (.bin .add (k 1) 7),m 3 8] [0,3]<|.seq ((.region [m 9 0,m 10 3,o 11 (.call (.func F.mF) [9,10,(k 7)] [0]),m 4 11] [0,3,4] []))<|.seq (s [m 12 0,o 13 (.call (.func F.aF) [12,(k 16)] [0])]
 [0,3,4,13]<|.block 0 (s [en 15 13 0,m 14 15] [0,3,4,13,14]<|.cond 14 ((.region [m 16 4,m 17 0,m 18 3,ad 19 18 1,o 20 (.call (.func F.gI) [17,19] [0]),o 21 (.bslice 1 1 [.v (.slice none 0 0)] [(0,20)]),o 22 (.append 1 24 16 21),m 4 22] [4] [])) (s [en 24 13 1,m 23 24] [0,4,13,23]<|.cond 23
 (s [m 25 4,ln 26 25,o 27 (.bin .gtr 26 (k 0))] [0,4,27]<|.cond 27 (.region [m 28 0,m 29 4,m 30 0,m 31 4,ln 32 31,o 33 (.call (.func F.aF) [30,32] [0]),ix 34 1 29 33,o 35 (.call (.func F.sU) [28,34] [0,1])] [4] []) .skip) (s [en 37 13 2,m 36 37] [0,4,36]<|.cond 36 (.seq
 ((.region [o 38 (.bslice 1 0 [.v (.slice none 0 0)] []),m 4 38] [0,4] []))<|s [m 39 0,o 40 (.call (.func F.aF) [39,(k 2)] [0]),o 41 (.bin .add (k 40) 40),m 5 41] [0,4,5]<|.block 1 (.loop (.seq (s [m 42 5,o 43 (.bin .gtr 42 (k 0))] [0,4,5,43]<|.cond 43 .skip (.exit 1))<|.seq (.block 2
 ((.region [m 46 4,m 47 0,o 48 (.call (.func F.gI) [47,(k 1)] [0]),o 49 (.bslice 1 1 [.v (.slice none 0 0)] [(0,48)]),o 50 (.append 1 24 46 49),m 4 50] [0,4,5] [])))<|.region [m 44 5,o 45 (.bin .sub 44 (k 1)),m 5 45] [0,4,5] []))) .skip))))<|s [m 51 4,m 2 51] [2]<|.ret
theorem CdV.l02BentDeckN_k:CK 43 Tryz.f43 CdV.l02BentDeckN 52 [.tmp 2]:=ck Tryz.func43
attribute [go_sem] CdV.l02BentDeckN
attribute [local go_sem] Int.reduceBEq Int.reduceBNe aH Af Ag Ao Aq Ae Aj Ad Al Ac Ai Ap Av Am Ak AR BQ Vs.Name.t.injEq Ar AY aT aU bF Be BF BG AJ Bp in
theorem aJ8 (l:List Int) (y:Sr) (hl:byt l) (hp:y.p<=1500) (hr:pkV l (ddF l (1+pkV l y 4).toNat (pkV l (pkS l y 4) (7+1:Nat)).toNat (pkS l (pkS l y 4) (7+1:Nat)) []).2 16=1) (hk:(ddF l (1+pkV l y 4).toNat (pkV l (pkS l y 4) (7+1:Nat)).toNat (pkS l (pkS l y 4) (7+1:Nat)) []).1.length≠0):∃(d:List (List Int)) (z:Sr),bO d∧z.p<=y.p+700∧Vs.Fn Tryz.prog F.j4 [sB l y] [.ptr (.b 0) 0 0] (.sl 1 (E cC d)) [some (sB l z)]:=by
 have P1:=pick l y hl 4 (by omega);have v1:=aZ hl y (n:=4) (by omega);have q1:=aO l y 4;generalize pkS l y 4=y1 at *
 obtain⟨Y,hn⟩:∃n:Nat,1+pkV l y 4=n:=⟨(1+pkV l y 4).toNat,by omega⟩;have w1:IntKind.i64.wrap (1+pkV l y 4)=(Y:Int):=by rw[aI (by omega) (by omega)];exact hn
 have h9:0<Y:=by omega
 have q7:Y<=4:=by omega
 rw[hn,BR] at hr hk;generalize pkV l y 4=r0 at *
 have qg:=(nO l y1 hl Y h9 (by omega) 7 (by omega) (by omega)).has;have hy:=@aCz _ l y1 hl Y h9 (by omega) 7 (by omega) (by omega);have vk:=aZ hl y1 (n:=(7+1:Nat)) (by omega);have qk:=aO l y1 (7+1:Nat);obtain⟨k0,qn⟩:∃k:Nat,(pkV l y1 (7+1:Nat)).toNat=k:=⟨_,rfl⟩;have qo:k0<=7:=by omega
 obtain⟨g1,g2,g3⟩:=aDR l Y k0 (pkS l y1 (7+1:Nat)) [] (λc hc=>by cases hc);simp only[Ai,Ca] at g1;have q0:8*Y*k0<=32*7:=Nat.mul_le_mul (by omega) qo;rw[qn] at hy hr hk;generalize ddF l Y k0 (pkS l y1 (7+1:Nat)) []=R at *
 have P3:=pick l R.2 hl 16 (by omega);have q3:=aO l R.2 16;rw[hr] at P3;generalize pkS l R.2 16=y3 at *
 have P5:=pick l y3 hl (R.1.length:Nat) (by omega);have v5:=aZ hl y3 (n:=(R.1.length:Nat)) (by omega);have q5:=aO l y3 (R.1.length:Nat);obtain⟨j,hj⟩:∃j:Nat,pkV l y3 (R.1.length:Nat)=j:=⟨(pkV l y3 (R.1.length:Nat)).toNat,by omega⟩;rw[hj] at P5 v5;generalize pkS l y3 (R.1.length:Nat)=y5 at *
 have hf:=(qW l y5 hl [] (by simp) (by omega));obtain⟨_,_,_,_,_,_,hf⟩:=hf;have hf:=(hf [] [] (by simp)).has;obtain⟨d',z,qy,qi,hz,SP⟩:=aKu l y5 hl R.1 (λc hc=>by have:=g3 c hc;omega) (by omega) j (by omega) (by omega);refine⟨d',z,⟨by omega,λc hc=>by have:=qi c hc;omega⟩,by omega,?_⟩;obtain⟨h1,h2,h3⟩:=CdV.l02BentDeckN_k.o;obtain⟨qw,H,hc⟩:=A7.1 h2;have qe:(Tryz.f43.body.map (zB Tryz.f43.ntmps (dF Tryz.prog)))=some true:=by kernel_rfl
 rw[H] at qe;have Z:=rE Tryz.mixed;refine Vs.Fn.of_atB (dr:=dF Tryz.prog) (ac:=CdV.l02BentDeckN) h1 H (by simpa using h3) hc (by simpa using qe) (by rw[CdV.l02BentDeckN_k.n];exact Bd rfl) λS w qf qv a G=>?_;generalize hu:(⟨Tryz.f43.ntmps,w,S,uQ qf [sB l y],λj=>qf (.b j),λj=>qv (.b j),λj=>[sB l y][j]?⟩:Ctx)=C0 at G;have hd:C0.nt=Tryz.f43.ntmps:=by rw[←hu]
 have hv:∀t,t<52->t<C0.nt:=λt ht=>by rw[hd,CdV.l02BentDeckN_k.n];exact ht
 have qd:∀{σ:FSt}{a:Act}{w:World}{S:Nat->Prop}{ρ:Vs.Name->Option Nat}{κ:Vs.Name->Nat}{yy:Sr},OK C0 σ a w S ρ κ->σ.h (.b 0)=some (sB l yy)->∀b,C0.Mut b->ρ (.b 0)=some b:=by
  intro σ a w S ρ κ yy G h0 b hm;rw[←hu] at hm G;obtain⟨i,hi,qm⟩:=hm;have ql:i=0:=by simpa using hi
  subst ql;exact(G.keep 0 (sB l yy) h0).1.trans qm
 unfold CdV.l02BentDeckN;refine At.step ⟨[(0,.ptr (.b 0) 0 0)],[(.b 0,sB l y)]⟩ Z G hd ?_ λa wA S1 ρ1 κ1 G=>?_
 .simp -dsimp only[go_sem,cC,sB,w1]
  try simp[Vs.LeL,Vs.look,aB,sB]
 refine At.step ⟨[(0,.ptr (.b 0) 0 0),(3,.v (.int .i64 Y))],[(.b 0,sB l y1)]⟩ Z G hd ?_ λa wB S2 ρ2 κ2 G=>?_
 .simp -dsimp only[go_sem,cC,sB,w1];refine And.intro rfl ?_;refine aA.bor (by exact P1) rfl ?_;simp -dsimp only[go_sem,cC,sB,w1]
  try simp[Vs.LeL,Vs.look,aB,sB]
 refine At.seq (At.rg (RgL.fwN (K:=fun σ'=>LeL σ' ⟨[(9,.ptr (.b 0) 0 0),(10,.v (.int .i64 Y)),(0,.ptr (.b 0) 0 0),(3,.v (.int .i64 Y))],[(.b 0,sB l y1)]⟩) (pre:=[⟨some 9,.mv (.tmp 0),none⟩,⟨some 10,.mv (.tmp 3),none⟩]) (post:=[⟨some 11,.call (.func F.mF) [(.tmp 9),(.tmp 10),(.const (.int .i64 (7)))] [0],none⟩,⟨some 4,.mv (.tmp 11),none⟩]) hd G ?_ fun σ' a w S ρ κ V G=>?_))
 .simp -dsimp only[go_sem,cC,sB,w1]
  try simp[Vs.LeL,Vs.look,aB,sB]
 replace G:=G.le V
 clear V;refine RgL.op rfl λop ops hg=>?_;refine aIn (C:=C0) (by rw[hd];exact hg) rfl G qg ?_;have q8:=G.size;refine(aCt (X:=λv w' S' _ _=>∃I xs cs x0 c0,aNX w w' S' R.1 v I xs cs x0 c0) (d:=11) (xs:=[.ptr (.b 0) 0 0,.v (.int .i64 Y),.v (.int .i64 7)]) (ys:=[.ptr (.b 0) 0 0,.v (.int .i64 Y),.v (.int .i64 7)]) (B:=[.b 0]) (L1:=[]) (L2:=[]) (hin:=[sB l y1]) (r:=.junk) (hout:=[some (sB l R.2)]) (fz:=true) G (by simp) rfl rfl (λh=>by cases h) (λj h1 h2=>by simp at h1 h2;omega) rfl (λi hi=>?_) (λS1 ρ1 κ1 q1 q2 q3 q4 q5 q6=>(hy q1 q5 q6).mono ?_)).mono ?_
 .match i,hi with
  |0,_=>exact G.ev (.tmp 9)
  |1,_=>exact G.ev (.tmp 10)
  |2,_=>exact .clo (.v _)
 .rintro e w' ⟨v,S',ρ',κ',rfl,hpo,I,xs,cs,x0,c0,hD⟩;exact⟨v,S',ρ',κ',rfl,hpo,.junk _,I,xs,cs,x0,c0,hD⟩
 rintro e w' ⟨v,S2,ρ2,κ2,S',ρ',κ',rfl,hok2,_,hsub,_,I,xs,cs,x0,c0,hD⟩;refine⟨v,rfl,?_⟩;have qp:I.length=R.1.length:=by rw[←hD.rows.len];simp
 have ho:OK C0 (⟨[(11,.v v),(0,.ptr (.b 0) 0 0),(3,.v (.int .i64 Y))],[(.b 0,sB l R.2)]⟩:St).f (a.put (some 11) v) w' S2 ρ2 κ2:=by
  refine(hok2.put (x:=.v v) (v:=v) (.clo (.v v)) (d:=some 11) (λd' h=>by cases h;exact hv 11 (by omega))).less (λt=>?_) λm b hm=>?_
  .simp only[St.f,Vs.look,upd];by_cases h4:t=11
   .subst h4;simp
   .by_cases h0:t=0
    .subst h0;simp
    .by_cases h3:t=3
     .subst h3;simp
     .simp[h4,h0,h3]
  .simp only[St.f,aB] at hm;split at hm
   .rename_i h;have ha:m=.b 0:=by first|exact h|exact h.symm
    subst ha;rw[←hm];simp[Vs.aft,Vs.lK,sB,Vs.rnB,Vs.rnL,Vs.rn]
   .cases hm
 have hw:Own S2 w' x0 c0 1 (I.map λs=>[AV.v s]) v:=hD.root.mono (λb H hs=>hD.root.notS H (hsub b hs)) λ_ _=>rfl
 have qc:∀b,ρ2 (.b 0)=some b->b<w.heap.size:=λb he=>by
  have h1:=(ho.keep 0 (sB l R.2) rfl).1;have h2:=(G.keep 0 (sB l y1) rfl).1;exact G.hok.lt (n:=.b 0) (by rfl) ((h2.trans h1.symm).trans he)
 have J:=ho.adopt (n:=.t 11 0) rfl hw (λb H=>⟨λm hm he=>by
     have:b<w.heap.size:=by
       have ha:m=.b 0:=by
         obtain⟨bb,U⟩:=AA.1 hm;simp only[St.f,aB] at U;split at U
         . rename_i h;first|exact h|exact h.symm
         . cases U
       subst ha;exact qc b he
     have:=(hD.new0 b H).1;omega,.inl (by have:=(hD.new0 b H).1;omega)⟩) (t:=11) (by simp[Act.put,G.nt,hv 11 (by omega)])
 rw[Bh] at J
 replace J:=J.le (σ':=⟨[(11,.loc (.t 11 0) 0 I.length),(0,.ptr (.b 0) 0 0),(3,.v (.int .i64 Y))],[(.t 11 0,.arr 1 (I.map λs=>[AV.v s]) false),(.b 0,sB l R.2)]⟩) (by simp[Vs.LeL,Vs.look,aB,sB])
 obtain⟨ρ4,κ4,qu,qt,J⟩:∃ρ4 κ4,ρ4 (.t 11 0)=x0∧ρ4 (.b 0)=ρ2 (.b 0)∧OK C0 (⟨[(11,.loc (.t 11 0) 0 I.length),(0,.ptr (.b 0) 0 0),(3,.v (.int .i64 Y))],[(.t 11 0,.arr 1 (I.map λs=>[AV.v s]) false),(.b 0,sB l R.2)]⟩:St).f (a.put (some 11) v) w' S2 ρ4 κ4:=⟨_,_,AP rfl,AC (by decide),J⟩
 have hh:=J.hid (D:=λb=>∃i,i<I.length∧xs i=some b) (λb ⟨i,hi,H⟩=>(hD.new i b hi H).2) (λb ⟨i,hi,H⟩ hs=>(hD.rows.row i hi).notS H (hsub b hs)) (λb ⟨i,hi,H⟩ m hm he=>by
     obtain⟨bb,U⟩:=AA.1 hm;simp only[St.f,aB] at U;split at U
     . rename_i h
       have ha:m=.t 11 0:=by first|exact h|exact h.symm
       subst ha;rw[qu] at he;exact(hD.new0 b he).2.2 i hi H
     . split at U
       . rename_i h
         have ha:m=.b 0:=by first|exact h|exact h.symm
         subst ha;rw[qt] at he;have h1:=qc b he;have h2:=(hD.new i b hi H).1;omega
       . cases U)
 have h8:=J.later;have hq:=J.anew;have qq:=hD.rows.mono (S':=S2) (w':=w') (λi b hi H hs=>(hD.rows.row i hi).notS H (hsub b hs)) (λ_ _ _ _=>rfl);have qj:∀i b,i<I.length->xs i=some b->C0.w0.heap.size<=b:=λi b hi H=>by have:=(hD.new i b hi H).1;omega
 rw[←qp] at P5;have h7:decide ((I.length:Int)>0)=true:=A9 (by omega);have qz:j<I.length:=by omega
 have qx:(j:Int)<I.length:=by omega
 generalize h6:C0.anew w' S2 _ ρ4=C1 at hq hh h8;have qr:C1.w0=w':=by rw[←h6];rfl
 have M:C1.nt=Tryz.f43.ntmps:=by rw[←h6];exact hd
 refine RgL.fwN (C:=C1) (K:=fun σ'=>LeL σ' ⟨[(0,.ptr (.b 0) 0 0),(4,.loc (.t 11 0) 0 I.length)],[(.t 11 0,.arr 1 (I.map λs=>[AV.v s]) false),(.b 0,sB l R.2)]⟩) (pre:=[⟨some 4,.mv (.tmp 11),none⟩]) (post:=[]) M hq ?_ fun σ' a w S ρ κ V G=>?_
 .simp -dsimp only[go_sem,cC,sB,w1]
  try simp[Vs.LeL,Vs.look,aB,sB]
 replace G:=G.le V
 clear V;refine RgL.nil ?_;show At Tryz.prog _ _ (.seq _ _) _ a w
 refine At.seq (At.step ⟨[(0,.ptr (.b 0) 0 0),(4,.loc (.t 11 0) 0 I.length),(13,.v (.int .i64 1))],[(.t 11 0,.arr 1 (I.map λs=>[AV.v s]) false),(.b 0,sB l y3)]⟩ Z G M ?_ λa w S ρ κ G=>?_)
 .simp -dsimp only[go_sem,cC,sB,w1];refine And.intro rfl ?_;refine aA.bor (by exact P3) rfl ?_;simp -dsimp only[go_sem,cC,sB,w1]
  try simp[Vs.LeL,Vs.look,aB,sB]
 refine At.block (At.step ⟨[(0,.ptr (.b 0) 0 0),(4,.loc (.t 11 0) 0 I.length),(13,.v (.int .i64 1)),(14,.v (.bool false))],[(.t 11 0,.arr 1 (I.map λs=>[AV.v s]) false),(.b 0,sB l y3)]⟩ Z G M ?_ λa w S ρ κ G=>?_)
 .simp -dsimp only[go_sem,cC,sB,w1]
  try simp[Vs.LeL,Vs.look,aB,sB]
 refine At.cond (t:=false) (dD (G.ev (.tmp 14))) (λh=>by cases h) λ_=>?_;refine At.step ⟨[(0,.ptr (.b 0) 0 0),(4,.loc (.t 11 0) 0 I.length),(23,.v (.bool true))],[(.t 11 0,.arr 1 (I.map λs=>[AV.v s]) false),(.b 0,sB l y3)]⟩ Z G M ?_ λa w S ρ κ G=>?_
 .simp -dsimp only[go_sem,cC,sB,w1]
  try simp[Vs.LeL,Vs.look,aB,sB]
 refine At.cond (t:=true) (dD (G.ev (.tmp 23))) (λ_=>?_) λh=>by cases h
 refine At.step ⟨[(0,.ptr (.b 0) 0 0),(4,.loc (.t 11 0) 0 I.length),(27,.v (.bool true))],[(.t 11 0,.arr 1 (I.map λs=>[AV.v s]) false),(.b 0,sB l y3)]⟩ Z G M ?_ λa w S ρ κ G=>?_
 .simp -dsimp only[go_sem,cC,sB,w1]
  first|(simp[Vs.LeL,Vs.look,aB,sB,h7];done)|(simp[Vs.LeL,Vs.look,aB,sB,h7];omega)
 refine At.cond (t:=true) (dD (G.ev (.tmp 27))) (λ_=>?_) λh=>by cases h
 refine At.rg (RgL.fwN (C:=C1) (K:=fun σ'=>LeL σ' ⟨[(28,.ptr (.b 0) 0 0),(34,.ptr (.t 11 0) j 0),(4,.loc (.t 11 0) 0 I.length)],[(.t 11 0,.arr 1 (I.map λs=>[AV.v s]) false),(.b 0,sB l y5)]⟩) (pre:=[⟨some 28,.mv (.tmp 0),none⟩,⟨some 29,.mv (.tmp 4),none⟩,⟨some 30,.mv (.tmp 0),none⟩,⟨some 31,.mv (.tmp 4),none⟩,⟨some 32,.len (.tmp 31),none⟩,⟨some 33,.call (.func F.aF) [(.tmp 30),(.tmp 32)] [0],none⟩,⟨some 34,.idxSl 1 (.tmp 29) (.tmp 33),none⟩]) (post:=[⟨some 35,.call (.func F.sU) [(.tmp 28),(.tmp 34)] [0,1],none⟩]) M G ?_ fun σ' a w S ρ κ V G=>?_)
 .simp -dsimp only[go_sem,cC,sB,w1];refine And.intro rfl ?_;refine aA.bor (by exact P5) rfl ?_;simp -dsimp only[go_sem,cC,sB,w1]
  first|exact⟨⟨by omega,by omega⟩,by simp[Vs.LeL,Vs.look,aB,sB]⟩
 replace G:=G.le V
 clear V;refine RgL.op rfl λop ops hg=>aIn (C:=C1) (by rw[M];exact hg) rfl G hf ?_;have O:=G.back h8
 have qh:∀b,ρ (.t 11 0)=some b->C0.w0.heap.size<=b:=λb H=>(O.mine (.t 11 0) b (by rfl) H).elim id λhm=>by
  have h1:=qd O rfl b hm;have:=O.hok.inj (.t 11 0) (.b 0) b (by rfl) (by rfl) H h1;cases this
 refine(SP O rfl rfl (qq.mono (S':=S) (w':=w) (λi b hi H=>(hh.same G).2.2.1 b ⟨i,hi,H⟩) (λi b hi H=>by have:=(hh.same G).1 b ⟨i,hi,H⟩;rw[qr] at this;exact this)) (λi b hi H=>⟨qj i b hi H,(hh.same G).2.1 b ⟨i,hi,H⟩,(hh.same G).2.2.2 b ⟨i,hi,H⟩⟩) qh (O.slots 4) (O.ev (.tmp 28)) (O.ev (.tmp 34))).mono ?_;rintro e w' ⟨u,S',rfl,hok6⟩;refine⟨u,rfl,RgL.nil ?_⟩;simp only[Exit.inBlock,Exit.then]
 have qa:OK C0 (⟨[(4,.sl 1 (E cC d'))],[(.b 0,sB l z)]⟩:St).f (a.put (some 35) u) w' S' ρ κ:=by
  refine(hok6.put (x:=.junk) (v:=u) (.junk u) (d:=some 35) (λd' h=>by cases h;exact hv 35 (by omega))).less (λt=>?_) λ_ _ h=>h;by_cases h5:t=35
  .subst h5;exact .inr (by simp[St.f,Vs.look])
  .exact .inl (by simp[upd,h5])
 refine At.step ⟨[(2,.sl 1 (E cC d'))],[(.b 0,sB l z)]⟩ Z qa hd ?_ λa w S ρ κ G=>?_
 .simp -dsimp only[go_sem,cC,sB,w1]
  try simp[Vs.LeL,Vs.look,aB,sB]
 refine At.ret ⟨.inl rfl,G.defers,?_⟩
 obtain ⟨x,v,hx,qs,qb⟩:=aFc G (fn:=Tryz.f43) (K:=λx=>x=.sl 1 (E cC d')) (by
   show aAC Tryz.prog _ _ [_]
   simp[aAC,aHh,Vs.look,yP])
 subst hx;rw[←hu] at G
 exact ⟨v,S,ρ,κ,qb,OK.post (hout:=[sB l z]) G (λn b H=>by
   obtain⟨rfl,rfl⟩:=aD7 H;exact⟨rfl,aDc l z⟩),.clo (qs.closed rfl)⟩
theorem iL (l:List Int) (y:Sr) (I:byt l) (J:y.p<=1500):∃(d:List (List Int)) (z:Sr),bO d∧z.p<=y.p+700∧Vs.Fn Tryz.prog F.j4 [sB l y] [.ptr (.b 0) 0 0] (.sl 1 (E cC d)) [some (sB l z)]:=by
 by_cases H:pkV l (ddF l (1+pkV l y 4).toNat (pkV l (pkS l y 4) (7+1:Nat)).toNat (pkS l (pkS l y 4) (7+1:Nat)) []).2 16=1
 .by_cases G:(ddF l (1+pkV l y 4).toNat (pkV l (pkS l y 4) (7+1:Nat)).toNat (pkS l (pkS l y 4) (7+1:Nat)) []).1.length=0
  .exact aES l y I J λ_=>G
  .exact aJ8 l y I J H G
 .exact aES l y I J λh=>absurd h H
end
section
variable [Vs.Tab 0 Vs.powP]
attribute [local irreducible] Vs.Fn nxV nxS pkV pkS pt crd gG dtF jD dcl
def aEb (c:Int×Int×Int):Prop:=(-9223372036854775808<=c.1∧c.1<=9223372036854775807)∧(-9223372036854775808<=c.2.1∧c.2.1<=9223372036854775807)∧(-9223372036854775808<=c.2.2∧c.2.2<=9223372036854775807)
theorem aLH {L:List Int} (h:∀x,x∈L->-9223372036854775808<=x∧x<=9223372036854775807) (i:Nat):-9223372036854775808<=L.getD i 0∧L.getD i 0<=9223372036854775807:=by
 rw[A8];cases hx:L[i]? with
 |none=>exact⟨by decide,by decide⟩
 |some c=>exact h c (BS hx)
attribute [local go_sem] Int.reduceBEq Int.reduceBNe cC aH Af Ag Ao Aq Ae Aj Ad Al Ac Ai Ap Av Am Ak AR BQ Vs.Name.t.injEq Ar AY aT aU bF Be BF BG Int.reduceAdd Int.reduceSub Int.reduceMul in
theorem aBg (l:List Int) (x:Sr) (G:byt l) (hp:x.p<=3900):∃(c:Int×Int×Int) (z:Sr),aEb c∧z.p<=x.p+12∧Vs.Fn Tryz.prog F.gZ [sB l x] [.ptr (.b 0) 0 0] (.agg (cCt c)) [some (sB l z)]:=by
 have M:=pick l x G 100 (by omega);have v1:=aZ G x (n:=100) (by omega);have q1:=aO l x 100;generalize pkV l x 100=r1 at *
 generalize pkS l x 100=x1 at *
 have U:=pick l x1 G 10000 (by omega);have v2:=aZ G x1 (n:=10000) (by omega);have q2:=aO l x1 10000;generalize pkV l x1 10000=r2 at *
 generalize pkS l x1 10000=x2 at *
 have V:=pick l x2 G 1000 (by omega);have v3:=aZ G x2 (n:=1000) (by omega);have q3:=aO l x2 1000;generalize pkV l x2 1000=r3 at *
 generalize pkS l x2 1000=x3 at *
 have Y:=pick l x3 G 16 (by omega);have v4:=aZ G x3 (n:=16) (by omega);have q4:=aO l x3 16;generalize pkV l x3 16=r4 at *
 generalize pkS l x3 16=x4 at *
 have H:IntKind.i64.wrap (r2-2000)=r2-2000:=aI (by omega) (by omega);by_cases h0:r4=0
 .have I:(r4==0)=true:=BO.2 h0;have J:=among l x4 G [-1,0,1000000,1000001] (by omega) (by simp) (by simp);have q5:=aO l x4 (([-1,0,1000000,1000001]:List Int).length:Nat);have hv:=aLH (L:=[-1,0,1000000,1000001]) (by simp) (pkV l x4 (([-1,0,1000000,1000001]:List Int).length:Nat)).toNat;generalize([-1,0,1000000,1000001]:List Int).getD _ 0=v at *
  generalize pkS l x4 (([-1,0,1000000,1000001]:List Int).length:Nat)=z at *
  refine⟨(v,r2-2000,r3),z,by unfold aEb;dsimp only;omega,by omega,?_⟩;refine fn1 Cd.s_l18Draw_k [.b 0] [sB l z] λX=>?_;unfold Cd.gZ;simp -dsimp only[go_sem,sB,cCt,H]
  repeat' first|simp -dsimp only[go_sem,sB,cCt,H,I]|apply Br.mk<;>intro h<;>try simp -dsimp only[h]|refine aA.bor (by first|exact M|exact U|exact V|exact Y) rfl ?_|refine aA.borM (by first|exact J) rfl ?_|refine aC ?_|refine aC9 ?_|fail
  all_goals first|exact⟨_,_,rfl,rfl⟩
 by_cases h1:r4=1
 .have I:(r4==0)=false:=AB.2 (by omega);have O:(r4==1)=true:=BO.2 h1;have J:=among l x4 G [-1000000000000001,-1000000000000000,1000000000000000,1000000000000001] (by omega) (by simp) (by simp);have q5:=aO l x4 (([-1000000000000001,-1000000000000000,1000000000000000,1000000000000001]:List Int).length:Nat);have hv:=aLH (L:=[-1000000000000001,-1000000000000000,1000000000000000,1000000000000001]) (by simp) (pkV l x4 (([-1000000000000001,-1000000000000000,1000000000000000,1000000000000001]:List Int).length:Nat)).toNat;generalize([-1000000000000001,-1000000000000000,1000000000000000,1000000000000001]:List Int).getD _ 0=v at *
  generalize pkS l x4 (([-1000000000000001,-1000000000000000,1000000000000000,1000000000000001]:List Int).length:Nat)=z at *
  refine⟨(r1,v,r3),z,by unfold aEb;dsimp only;omega,by omega,?_⟩;refine fn1 Cd.s_l18Draw_k [.b 0] [sB l z] λX=>?_;unfold Cd.gZ;simp -dsimp only[go_sem,sB,cCt,H]
  repeat' first|simp -dsimp only[go_sem,sB,cCt,H,I,O]|apply Br.mk<;>intro h<;>try simp -dsimp only[h]|refine aA.bor (by first|exact M|exact U|exact V|exact Y) rfl ?_|refine aA.borM (by first|exact J) rfl ?_|refine aC ?_|refine aC9 ?_|fail
  all_goals first|exact⟨_,_,rfl,rfl⟩
 by_cases h2:r4=2
 .have I:(r4==0)=false:=AB.2 (by omega);have O:(r4==1)=false:=AB.2 (by omega);have Z:(r4==2)=true:=BO.2 h2;have J:=among l x4 G [-1,0,1000000000,1000000001,9223372036854775807] (by omega) (by simp) (by simp);have q5:=aO l x4 (([-1,0,1000000000,1000000001,9223372036854775807]:List Int).length:Nat);have hv:=aLH (L:=[-1,0,1000000000,1000000001,9223372036854775807]) (by simp) (pkV l x4 (([-1,0,1000000000,1000000001,9223372036854775807]:List Int).length:Nat)).toNat;generalize([-1,0,1000000000,1000000001,9223372036854775807]:List Int).getD _ 0=v at *
  generalize pkS l x4 (([-1,0,1000000000,1000000001,9223372036854775807]:List Int).length:Nat)=z at *
  refine⟨(r1,r2-2000,v),z,by unfold aEb;dsimp only;omega,by omega,?_⟩;refine fn1 Cd.s_l18Draw_k [.b 0] [sB l z] λX=>?_;unfold Cd.gZ;simp -dsimp only[go_sem,sB,cCt,H]
  repeat' first|simp -dsimp only[go_sem,sB,cCt,H,I,O,Z]|apply Br.mk<;>intro h<;>try simp -dsimp only[h]|refine aA.bor (by first|exact M|exact U|exact V|exact Y) rfl ?_|refine aA.borM (by first|exact J) rfl ?_|refine aC ?_|refine aC9 ?_|fail
  all_goals first|exact⟨_,_,rfl,rfl⟩
 have I:(r4==0)=false:=AB.2 (by omega);have O:(r4==1)=false:=AB.2 (by omega);have Z:(r4==2)=false:=AB.2 (by omega);refine⟨(r1,r2-2000,r3),x4,by unfold aEb;dsimp only;omega,by omega,?_⟩;refine fn1 Cd.s_l18Draw_k [.b 0] [sB l x4] λX=>?_;unfold Cd.gZ;simp -dsimp only[go_sem,sB,cCt,H]
 repeat' first|simp -dsimp only[go_sem,sB,cCt,H,I,O,Z]|apply Br.mk<;>intro h<;>try simp -dsimp only[h]|refine aA.bor (by first|exact M|exact U|exact V|exact Y) rfl ?_|refine aA.borM (by first|exact M) rfl ?_|refine aC ?_|refine aC9 ?_|fail
 all_goals first|exact⟨_,_,rfl,rfl⟩
theorem aLl (a b c:Int) (U:aEb (a,b,c)):Fz F.pK [.agg [.v (.int .i64 a),.v (.int .i64 b),.v (.int .i64 c)]] (.v (.string (ctX a b c))):=by
 obtain⟨⟨G,H⟩,⟨I,J⟩,M,O⟩:=U;dsimp only at G H I J M O;have V:=gV (n:=a) (by omega) (by omega);have Y:=gV (n:=b) (by omega) (by omega);have Z:=gV (n:=c) (by omega) (by omega);refine fn0 Cd.s_l18Text_k λX=>?_
 repeat' first|simp -dsimp only[go_sem]|apply Br.mk<;>intro h<;>try simp -dsimp only[h]|refine RgK.mk rfl ?_|refine aA.c (by first|exact yU a (by omega) (by omega)|exact yU b (by omega) (by omega)|exact yU c (by omega) (by omega)) ?_|refine And.intro (by first|rfl|omega|decide|exact(by simp only[ByteArray.size_append,bsz,List.size_toArray,Ac,Ai];omega)|(refine⟨?_,?_⟩<;>(first|rfl|omega|decide|exact(by simp only[ByteArray.size_append,bsz,List.size_toArray,Ac,Ai];omega)))|(refine⟨?_,?_,?_⟩<;>(first|rfl|omega|decide|exact(by simp only[ByteArray.size_append,bsz,List.size_toArray,Ac,Ai];omega)))|(refine⟨?_,?_,?_,?_⟩<;>(first|rfl|omega|decide|exact(by simp only[ByteArray.size_append,bsz,List.size_toArray,Ac,Ai];omega)))) ?_|fail
 all_goals(exact aR rfl)
theorem aGK {a b c:Int} (O:aEb (a,b,c)):(ctX a b c).size<=100:=by
 obtain⟨⟨F,G⟩,⟨H,I⟩,J,M⟩:=O;dsimp only at F G H I J M;have U:=gV (n:=a) (by omega) (by omega);have V:=gV (n:=b) (by omega) (by omega);have Y:=gV (n:=c) (by omega) (by omega);simp only[ctX,ByteArray.size_append];have Z:(⟨#[32,99,97,114,100,115,32]⟩:ByteArray).size=7:=rfl;have e2:(⟨#[32,115,117,109,32]⟩:ByteArray).size=5:=rfl;have e3:(⟨#[32,100,105,103,105,116,115]⟩:ByteArray).size=7:=rfl;omega
theorem aBj (l:List Int):Vs.Fn Tryz.prog F.gJ [] [.sl 1 (E cU l)] (.ptr (.b 0) 0 0) [some (.var [.sl 1 (E cU l),.v (.int .i64 0),.v (.int .u64 0)] false)]:=by
 refine fn1 Cd.s_l00From_k [.t 5 0] [sB l ⟨0,0⟩] λX=>?_;unfold Cd.gJ
 repeat' first|simp -dsimp only[go_sem,Int.reduceBEq,Int.reduceBNe,cC,aH,Af,Ag,Ao,Aq,Ae,Aj,Ad,Al,Ac,Ai,Ap,Av,Am,Ak,AR,BQ,Vs.Name.t.injEq,Ar,AY,aT,aU,bF,sB,Be,BF,BG]|apply Br.mk<;>intro h<;>try simp -dsimp only[h]|refine aC ?_|refine aC9 ?_|fail
 all_goals exact⟨_,_,rfl,rfl⟩
open Go.Vs.Q in
def CdV.DrawAdd:aD:=s [o 2 (.alloc [.v (.int .i64 (0)),.v (.int .i64 (0)),.v (.int .i64 (0))]),o 3 (.alloc [.v (.int .i64 (0)),.v (.int .i64 (0)),.v (.int .i64 (0))])] [0,2,3]<|s [m 6 0,c 7 F.gJ [6],m 4 7] [2,3,4]<|s [m 8 4,o 9 (.call (.func F.gZ) [8] [0]),o 5 (.alloc [.v (.int .i64 (0)),.v (.int
 .i64 (0)),.v (.int .i64 (0))]),⟨none,.store 3 5 9,none⟩] [2,3,4,5]<|r [lt 10 3 5,m 11 4,o 12 (.call (.func F.gZ) [11] [0]),⟨none,.store 3 2 10,none⟩,⟨none,.store 3 3 12,none⟩] [2,3] [3000000]<|.ret
theorem CdV.DrawAdd_rs:Tryz.f11.results.toList=[.cell 2 35,.cell 3 35]:=rfl
theorem CdV.DrawAdd_nt:Tryz.f11.ntmps=13:=rfl
theorem CdV.DrawAdd_ok:xQ Tryz.prog [([[],[],[1],[0,2],[2,3]],[1])] 11 Tryz.f11 CdV.DrawAdd:=⟨Tryz.func11,by kernel_rfl,by decide +kernel⟩
attribute [local go_sem] Int.reduceBEq Int.reduceBNe cC aH Af Ag Ao Aq Ae Aj Ad Al Ac Ai Ap Av Am Ak AR BQ Vs.Name.t.injEq Ar AY aT aU bF sB Be BF BG Int.reduceAdd Int.reduceSub cFd AJ Bp in
theorem aNl (l:List Int) (H:byt l):∃a b,aEb a∧aEb b∧Fz F.uI [.sl 1 (E cU l)] (.tup [.agg (cCt a),.agg (cCt b)]):=by
 have M:=aBj l;obtain⟨⟨O,U,V⟩,y1,ha,G,I⟩:=aBg l ⟨0,0⟩ H (by dsimp only;omega);dsimp only at G;obtain⟨⟨Y,Z,b3⟩,y2,hb,hc,J⟩:=aBg l y1 H (by omega);refine⟨(O,U,V),(Y,Z,b3),ha,hb,?_⟩;refine CdV.DrawAdd_ok.fn Tryz.mixed (hin:=[]) _ _ [] [] CdV.DrawAdd_nt CdV.DrawAdd_rs rfl (by simp) rfl (by simp) λX=>?_;unfold CdV.DrawAdd;simp -dsimp only[go_sem,cCt]
 repeat' (first
   |(refine RgK.mk rfl ?_;simp -dsimp only[go_sem,cCt])
   |(refine RgK.ord Tryz.mixed [[],[],[1],[0,2],[2,3]] [1] rfl rfl (by decide) (T0:=[0,2,3,4]) rfl (n:=4) rfl rfl ?_;simp -dsimp only[go_sem,vcF,pv,vcO,Bt,BI,Option.isSome_some,cCt])
   |(refine OrK.yes rfl ?_ ?_<;>try simp -dsimp only[go_sem,vcO,cCt])
   |refine OrK.no rfl ?_
   |exact OrK.nil
   |(refine Br.mk (λh=>?_) (λh=>?_)<;>simp -dsimp only[go_sem,h,cCt])
   |(refine aA.bor (by first|exact I|exact J) rfl ?_;simp -dsimp only[go_sem,cCt])
   |(refine aA.own (by first|exact M) rfl ?_;simp -dsimp only[go_sem,cCt])
   |(refine aC9 ?_;try simp -dsimp only[go_sem,cCt])
   |fail)
 all_goals first|omega|exact⟨_,_,rfl,rfl⟩
theorem aJ0 (l:List Int) (U:byt l):∃a,aEb a∧Fz F.iI [.sl 1 (E cU l)] (.agg (cCt a)):=by
 have H:=aBj l;obtain⟨⟨I,J,M⟩,Y,O,V,G⟩:=aBg l ⟨0,0⟩ U (by dsimp only;omega);refine⟨(I,J,M),O,?_⟩;refine fn0 Cd.s_DrawControlText_k λX=>?_
 repeat' first|simp -dsimp only[go_sem,Int.reduceBEq,Int.reduceBNe,cC,aH,Af,Ag,Ao,Aq,Ae,Aj,Ad,Al,Ac,Ai,Ap,Av,Am,Ak,AR,BQ,Vs.Name.t.injEq,Ar,AY,aT,aU,bF,sB,Be,BF,BG,Int.reduceAdd,Int.reduceSub,cCt,cFd,AJ,Bp]|apply Br.mk<;>intro h<;>try simp -dsimp only[h]|refine aA.bor (by first|exact G) rfl ?_|refine aA.own (by first|exact H) rfl ?_|refine aC ?_|refine aC9 ?_|fail
 all_goals first|omega|exact⟨_,_,rfl,rfl⟩
theorem aJZ (l:List Int) (G:byt l):∃k,Fz F.gP [.sl 1 (E cU l)] (.v (.int .i64 k)):=by
 have H:=aBj l;have I:=pick l ⟨0,0⟩ G 10 (by dsimp only;omega);have J:=aZ G ⟨0,0⟩ (n:=10) (by omega);have M:=aO l ⟨0,0⟩ 10;generalize pkV l ⟨0,0⟩ 10=v1 at *
 generalize pkS l ⟨0,0⟩ 10=y1 at *
 refine⟨IntKind.i64.wrap (v1-1),?_⟩;refine fn0 Cd.s_DrawKeepsControl_k λX=>?_
 repeat' first|simp -dsimp only[go_sem,Int.reduceBEq,Int.reduceBNe,cC,aH,Af,Ag,Ao,Aq,Ae,Aj,Ad,Al,Ac,Ai,Ap,Av,Am,Ak,AR,BQ,Vs.Name.t.injEq,Ar,AY,aT,aU,bF,sB,Be,BF,BG,Int.reduceAdd,Int.reduceSub,cCt,cFd,AJ,Bp]|apply Br.mk<;>intro h<;>try simp -dsimp only[h]|refine aA.bor (by first|exact I) rfl ?_|refine aA.own (by first|exact H) rfl ?_|refine aC ?_|refine aC9 ?_|fail
 all_goals first|omega|exact⟨_,_,rfl,rfl⟩
end
section
variable [Vs.Tab 0 Vs.powP]
attribute [local irreducible] Vs.Fn nxV nxS pkV pkS pt crd gG dtF jD dcl
open Go.Vs.Q in
def CdV.tN:aD:=s [o 4 (.mv (.const (.string ⟨#[]⟩)))] [0,1]<|.seq (s [m 7 0,o 8 (.call (.func F.aF) [7,(k 5)] [0])] [0,1,8]<|.block 0 (s [en 10 8 0,m 9 10] [0,1,8,9]<|.cond 9 (s [m 11 0,m 12 1,o 13 (.lenS 12),ad 14 13 1,o 15 (.call (.func F.aF) [11,14] [0]),m 5 15] [0,1,5]<|.region
 [m 16 1,m 17 5,o 18 (.sstr 16 none (some 17)),m 19 0,o 20 (.bslice 1 7 [.v (.string ⟨#[]⟩)] [(0,(.const (.string ⟨#[32]⟩))),(1,(.const (.string ⟨#[48]⟩))),(2,(.const (.string ⟨#[45]⟩))),(3,(.const (.string ⟨#[120]⟩))),(4,(.const (.string ⟨#[49]⟩))),(5,(.const (.string ⟨#[57]⟩))),(6,(.const (.string
 ⟨#[46]⟩)))]),o 21 (.call (.func F.dU) [19,20] [0]),o 22 (.binS .add 18 21),m 23 1,m 24 5,o 25 (.sstr 23 (some 24) none),o 26 (.binS .add 22 25),m 1 26] [1] [3000000]) (s [en 28 8 1,m 27 28] [0,1,27]<|.cond 27 (s [m 29 1,o 30 (.binS .neq 29 (.const (.string ⟨#[]⟩)))] [0,1,30]<|.cond
 30 (s [m 31 0,m 32 1,o 33 (.lenS 32),o 34 (.call (.func F.aF) [31,33] [0]),m 6 34] [1,6]<|.region [m 35 1,m 36 6,o 37 (.sstr 35 none (some 36)),m 38 1,m 39 6,ad 40 39 1,o 41 (.sstr 38 (some 40) none),o 42 (.binS .add 37 41),m 1 42] [1] [35,36,38,37,39,40,41,42]) .skip) .skip)))<|s [m
 43 1,m 4 43] [4]<|.ret
theorem CdV.l01Spoil_rs:Tryz.f61.results.toList=[.tmp 4]:=rfl
theorem CdV.l01Spoil_nt:Tryz.f61.ntmps=44:=rfl
theorem CdV.l01Spoil_ok:xQ Tryz.prog [([[],[],[0,1],[],[],[3,4],[2,5],[],[],[7,8],[6,9],[10,5]],[0,1,3,7,8])] 61 Tryz.f61 CdV.tN:=⟨Tryz.func61,by kernel_rfl,by decide +kernel⟩
theorem aNP (x:ByteArray):(x.toList==(⟨#[]⟩:ByteArray).toList)=decide (x.size=0):=by
 rw[ByteArray.toList_eq,ByteArray.toList_eq];have e:x.size=x.data.toList.length:=by rw[BP];rfl
 rw[e];cases x.data.toList<;>simp
theorem tx7 (i:Nat):(([⟨#[32]⟩,⟨#[48]⟩,⟨#[45]⟩,⟨#[120]⟩,⟨#[49]⟩,⟨#[57]⟩,⟨#[46]⟩]:List ByteArray).getD i ⟨#[]⟩).size<=1:=by
 rcases i with _|_|_|_|_|_|_|i<;>first|decide|exact Nat.zero_le _
attribute [local go_sem] Int.reduceBEq Int.reduceBNe cC aH Af Ag Ao Aq Ae Aj Ad Al Ac Ai Ap Av Am Ak AR BQ Vs.Name.t.injEq Ar AY aT aU bF Be BF BG Int.reduceAdd Int.reduceSub cCt cFd BV Cs Cf ByteArray.size_append BR in
theorem tN (l:List Int) (x:Sr) (U:byt l) (hp:x.p<=1000) (t:ByteArray) (ht:t.size<=200):∃(t':ByteArray) (z:Sr),z.p<=x.p+30∧t'.size<=t.size+1∧Vs.Fn Tryz.prog F.aDb [sB l x] [.ptr (.b 0) 0 0,.v (.string t)] (.v (.string t')) [some (sB l z)]:=by
 have hb:t.size<=200:=ht;have V:=pick l x U 5 (by omega);have h1:=aZ U x (n:=5) (by omega);have q1:=aO l x 5;generalize pkV l x 5=v1 at *
 generalize pkS l x 5=y1 at *
 by_cases h0:v1=0
 .have I:(v1==0)=true:=BO.2 h0;have Z:=pick l y1 U ((t.size:Int)+1) (by omega);have h2:=aZ U y1 (n:=((t.size:Int)+1)) (by omega);have q2:=aO l y1 ((t.size:Int)+1);generalize pkV l y1 ((t.size:Int)+1)=v2 at *
  generalize pkS l y1 ((t.size:Int)+1)=y2 at *
  obtain⟨m,hm⟩:∃m:Nat,v2=m:=⟨v2.toNat,by omega⟩;subst hm;have M:IntKind.i64.wrap ((t.size:Int)+1)=(t.size:Int)+1:=aI (by omega) (by omega);have Y:=text l y2 U [⟨#[32]⟩,⟨#[48]⟩,⟨#[45]⟩,⟨#[120]⟩,⟨#[49]⟩,⟨#[57]⟩,⟨#[46]⟩] (by omega) (by simp) (by simp);have q3:=aO l y2 (([⟨#[32]⟩,⟨#[48]⟩,⟨#[45]⟩,⟨#[120]⟩,⟨#[49]⟩,⟨#[57]⟩,⟨#[46]⟩]:List ByteArray).length:Nat);have hc:=tx7 (pkV l y2 (([⟨#[32]⟩,⟨#[48]⟩,⟨#[45]⟩,⟨#[120]⟩,⟨#[49]⟩,⟨#[57]⟩,⟨#[46]⟩]:List ByteArray).length:Nat)).toNat;unfold cSt at Y;simp only[Vs.E,Bt,BI] at Y;generalize([⟨#[32]⟩,⟨#[48]⟩,⟨#[45]⟩,⟨#[120]⟩,⟨#[49]⟩,⟨#[57]⟩,⟨#[46]⟩]:List ByteArray).getD _ ⟨#[]⟩=w at *
  generalize pkS l y2 (([⟨#[32]⟩,⟨#[48]⟩,⟨#[45]⟩,⟨#[120]⟩,⟨#[49]⟩,⟨#[57]⟩,⟨#[46]⟩]:List ByteArray).length:Nat)=z at *
  have G:(t.extract 0 m).size=m:=by rw[ByteArray.size_extract];omega
  have H:(t.extract m t.size).size=t.size-m:=by rw[ByteArray.size_extract];omega
  refine⟨t.extract 0 m++w++t.extract m t.size,z,by omega,by simp only[ByteArray.size_append,ByteArray.size_extract];omega,?_⟩;refine CdV.l01Spoil_ok.fn Tryz.mixed (hin:=[sB l x]) _ _ [.b 0] [sB l z] CdV.l01Spoil_nt CdV.l01Spoil_rs rfl (by simp) rfl (by simp) λX=>?_;unfold CdV.tN;simp -dsimp only[go_sem,sB,I,M,G,H]
  repeat' (first
    |(refine RgK.mk rfl ?_;simp -dsimp only[go_sem,sB,I,M,G,H])
    |(refine RgK.ord Tryz.mixed [[],[],[0,1],[],[],[3,4],[2,5],[],[],[7,8],[6,9],[10,5]] [0,1,3,7,8] rfl rfl (by decide) (T0:=[2,4,5,6,9,10,11]) rfl (n:=7) rfl rfl ?_;simp -dsimp only[go_sem,vcF,pv,vcO,Bt,BI,Option.isSome_some,sB,I,M,G,H])
    |(refine OrK.yes rfl ?_ ?_<;>try simp -dsimp only[go_sem,vcO,sB,I,M,G,H])
    |refine OrK.no rfl ?_
    |exact OrK.nil
    |(refine Br.mk (λh=>?_) (λh=>?_)<;>simp -dsimp only[go_sem,h,sB,I,M,G,H])
    |(refine aA.bor (by first|exact V|exact Z) rfl ?_;simp -dsimp only[go_sem,sB,I,M,G,H])
    |(refine aA.borL (by first|exact Y) rfl ?_;simp -dsimp only[go_sem,sB,I,M,G,H])
    |(refine aC9 ?_;try simp -dsimp only[go_sem,sB,I,M,G,H])
    |fail)
  all_goals first|omega|exact⟨_,_,rfl,rfl⟩
 have I:(v1==0)=false:=AB.2 h0;by_cases h1:v1=1
 .have J:(v1==1)=true:=BO.2 h1;by_cases h2:t=⟨#[]⟩
  .have O:(t.toList==(⟨#[]⟩:ByteArray).toList)=true:=by rw[h2];exact beq_self_eq_true _
   refine⟨t,y1,by omega,by omega,?_⟩;refine CdV.l01Spoil_ok.fn Tryz.mixed (hin:=[sB l x]) _ _ [.b 0] [sB l y1] CdV.l01Spoil_nt CdV.l01Spoil_rs rfl (by simp) rfl (by simp) λX=>?_;unfold CdV.tN;simp -dsimp only[go_sem,sB,I,J,O]
   repeat' (first
     |(refine RgK.mk rfl ?_;simp -dsimp only[go_sem,sB,I,J,O])
     |(refine RgK.ord Tryz.mixed [[],[],[0,1],[],[],[3,4],[2,5],[],[],[7,8],[6,9],[10,5]] [0,1,3,7,8] rfl rfl (by decide) (T0:=[2,4,5,6,9,10,11]) rfl (n:=7) rfl rfl ?_;simp -dsimp only[go_sem,vcF,pv,vcO,Bt,BI,Option.isSome_some,sB,I,J,O])
     |(refine OrK.yes rfl ?_ ?_<;>try simp -dsimp only[go_sem,vcO,sB,I,J,O])
     |refine OrK.no rfl ?_
     |exact OrK.nil
     |(refine Br.mk (λh=>?_) (λh=>?_)<;>simp -dsimp only[go_sem,h,sB,I,J,O])
     |(refine aA.bor (by first|exact V) rfl ?_;simp -dsimp only[go_sem,sB,I,J,O])
     |(refine aC9 ?_;try simp -dsimp only[go_sem,sB,I,J,O])
     |fail)
   all_goals first|omega|exact⟨_,_,rfl,rfl⟩
  .have ha:0<t.size:=Nat.pos_of_ne_zero λh=>h2 (ByteArray.size_eq_zero_iff.1 h);have O:(t.toList==(⟨#[]⟩:ByteArray).toList)=false:=by rw[aNP];exact AQ (by omega)
   have Z:=pick l y1 U ((t.size:Int)) (by omega);have h2:=aZ U y1 (n:=((t.size:Int))) (by omega);have q2:=aO l y1 ((t.size:Int));generalize pkV l y1 ((t.size:Int))=v2 at *
   generalize pkS l y1 ((t.size:Int))=y2 at *
   obtain⟨m,hm⟩:∃m:Nat,v2=m:=⟨v2.toNat,by omega⟩;subst hm;have M:IntKind.i64.wrap ((m:Int)+1)=((m+1:Nat):Int):=by rw[aI (by omega) (by omega)];rfl
   have G:(t.extract 0 m).size=m:=by rw[ByteArray.size_extract];omega
   have H:(t.extract (m+1) t.size).size=t.size-(m+1):=by rw[ByteArray.size_extract];omega
   refine⟨t.extract 0 m++t.extract (m+1) t.size,y2,by omega,by simp only[ByteArray.size_append,ByteArray.size_extract];omega,?_⟩;refine CdV.l01Spoil_ok.fn Tryz.mixed (hin:=[sB l x]) _ _ [.b 0] [sB l y2] CdV.l01Spoil_nt CdV.l01Spoil_rs rfl (by simp) rfl (by simp) λX=>?_;unfold CdV.tN;simp -dsimp only[go_sem,sB,I,J,O,M,G,H]
   repeat' (first
     |(refine RgK.mk rfl ?_;simp -dsimp only[go_sem,sB,I,J,O,M,G,H])
     |(refine RgK.ord Tryz.mixed [[],[],[0,1],[],[],[3,4],[2,5],[],[],[7,8],[6,9],[10,5]] [0,1,3,7,8] rfl rfl (by decide) (T0:=[2,4,5,6,9,10,11]) rfl (n:=7) rfl rfl ?_;simp -dsimp only[go_sem,vcF,pv,vcO,Bt,BI,Option.isSome_some,sB,I,J,O,M,G,H])
     |(refine OrK.yes rfl ?_ ?_<;>try simp -dsimp only[go_sem,vcO,sB,I,J,O,M,G,H])
     |refine OrK.no rfl ?_
     |exact OrK.nil
     |(refine Br.mk (λh=>?_) (λh=>?_)<;>simp -dsimp only[go_sem,h,sB,I,J,O,M,G,H])
     |(refine aA.bor (by first|exact V|exact Z) rfl ?_;simp -dsimp only[go_sem,sB,I,J,O,M,G,H])
     |(refine aC9 ?_;try simp -dsimp only[go_sem,sB,I,J,O,M,G,H])
     |fail)
   all_goals first|omega|exact⟨_,_,rfl,rfl⟩
 have J:(v1==1)=false:=AB.2 h1;refine⟨t,y1,by omega,by omega,?_⟩;refine CdV.l01Spoil_ok.fn Tryz.mixed (hin:=[sB l x]) _ _ [.b 0] [sB l y1] CdV.l01Spoil_nt CdV.l01Spoil_rs rfl (by simp) rfl (by simp) λX=>?_;unfold CdV.tN;simp -dsimp only[go_sem,sB,I,J]
 repeat' (first
   |(refine RgK.mk rfl ?_;simp -dsimp only[go_sem,sB,I,J])
   |(refine RgK.ord Tryz.mixed [[],[],[0,1],[],[],[3,4],[2,5],[],[],[7,8],[6,9],[10,5]] [0,1,3,7,8] rfl rfl (by decide) (T0:=[2,4,5,6,9,10,11]) rfl (n:=7) rfl rfl ?_;simp -dsimp only[go_sem,vcF,pv,vcO,Bt,BI,Option.isSome_some,sB,I,J])
   |(refine OrK.yes rfl ?_ ?_<;>try simp -dsimp only[go_sem,vcO,sB,I,J])
   |refine OrK.no rfl ?_
   |exact OrK.nil
   |(refine Br.mk (λh=>?_) (λh=>?_)<;>simp -dsimp only[go_sem,h,sB,I,J])
   |(refine aA.bor (by first|exact V) rfl ?_;simp -dsimp only[go_sem,sB,I,J])
   |(refine aC9 ?_;try simp -dsimp only[go_sem,sB,I,J])
   |fail)
 all_goals first|omega|exact⟨_,_,rfl,rfl⟩
attribute [local go_sem] Int.reduceBEq Int.reduceBNe cC aH Af Ag Ao Aq Ae Aj Ad Al Ac Ai Ap Av Am Ak AR BQ Vs.Name.t.injEq Ar AY aT aU bF sB Be BF BG Int.reduceAdd Int.reduceSub cCt cFd AJ Bp in
theorem aOI (l:List Int) (J:byt l):∃t:ByteArray,t.size<=300∧Fz F.iH [.sl 1 (E cU l)] (.v (.string t)):=by
 have U:=aBj l;obtain⟨⟨a,b,c⟩,G,Y,M,O⟩:=aBg l ⟨0,0⟩ J (by dsimp only;omega);dsimp only at M;have V:=aLl a b c Y;have hb:=aGK Y;generalize ctX a b c=tx at *
 have H:=one l G J 3 (by omega);have q2:=aO l G 3;obtain⟨b2,I⟩:∃b,(pkV l G 3==0)=b:=⟨_,rfl⟩;rw[I] at H;generalize pkS l G 3=y2 at *
 cases b2
 .refine⟨tx,by omega,?_⟩;refine fn0 Cd.s_DrawReadControl_k λX=>?_
  repeat' first|simp -dsimp only[go_sem]|apply Br.mk<;>intro h<;>try simp -dsimp only[h]|refine aA.bor (by first|exact O|exact H) rfl ?_|refine aA.own (by first|exact U) rfl ?_|refine aA.c (by first|exact V) ?_|refine aC ?_|refine aC9 ?_|fail
  all_goals first|omega|exact⟨_,_,rfl,rfl⟩
 .obtain⟨t',z,hz,hc,Z⟩:=tN l y2 J (by omega) tx (by omega);refine⟨t',by omega,?_⟩;refine fn0 Cd.s_DrawReadControl_k λX=>?_
  repeat' first|simp -dsimp only[go_sem]|apply Br.mk<;>intro h<;>try simp -dsimp only[h]|refine aA.bor (by first|exact O|exact H|exact Z) rfl ?_|refine aA.own (by first|exact U) rfl ?_|refine aA.c (by first|exact V) ?_|refine aC ?_|refine aC9 ?_|fail
  all_goals first|omega|exact⟨_,_,rfl,rfl⟩
end
end Go.Proofs.YtklmdppgonhflaaGreatDoor
