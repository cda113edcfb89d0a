/- FirstBreak: the program and the reference. -/
import Derived.Test.YtmiiohemehacjaaGreatDoorXwBq
import Derived.Test.YtmiiohemehacjaaGreatDoorVuZ
import Derived.Test.YtmiiohemehacjaaGreatDoorVsI
import Derived.Test.YtmiiohemehacjaaGreatDoorXwGb
import Derived.Test.YtmiiohemehacjaaGreatDoorVuW
set_option linter.all false
set_option maxHeartbeats 8000000
namespace Go.Proofs.YtmiiohemehacjaaGreatDoor
open Go.Vs
section
variable [Vs.Envs]
attribute [local irreducible] Vs.Fn nxV nxS pkV pkS ptN crd dW dtF lH hoF hoR
open Go.Vs.Q in
def CdV.iV:aF:=s [mn 2] [0]<|s [m 6 0,o 7 (.call (.func F.aD) [6,(k 4)] [0]),o 8 (.bin .add (k 1) 7),m 3 8] [0,3]<|.seq (.naming 4 (.region [m 9 0,m 10 3,o 11 (.call (.func F.dK) [9,10,(k 7)] [0]),m 4 11] [0,3,4] []))<|.seq (s [m 12 0,o 13 (.call (.func F.aD) [12,(k
 16)] [0])] [0,3,4,13]<|.block 0 (s [en 15 13 0,m 14 15] [0,3,4,13,14]<|.cond 14 (.naming 4 (.region [m 16 4,m 17 0,m 18 3,ad 19 18 1,o 20 (.call (.func F.gM) [17,19] [0]),o 21 (.bslice 1 1 [.v (.slice none 0 0)] [(0,20)]),o 22 (.append 1 24 16 21),m 4 22] [4] [])) (s [en 24 13 1,m 23 24]
 [0,4,13,23]<|.cond 23 (s [m 25 4,ln 26 25,o 27 (.bin .gtr 26 (k 0))] [0,4,27]<|.cond 27 (.region [m 28 0,m 29 4,m 30 0,m 31 4,ln 32 31,o 33 (.call (.func F.aD) [30,32] [0]),ix 34 1 29 33,o 35 (.call (.func F.rJ) [28,34] [0,1])] [4] []) .skip) (s [en 37 13 2,m 36 37]
 [0,4,36]<|.cond 36 (.seq (.naming 4 (.region [o 38 (.bslice 1 0 [.v (.slice none 0 0)] []),m 4 38] [0,4] []))<|s [m 39 0,o 40 (.call (.func F.aD) [39,(k 2)] [0]),o 41 (.bin .add (k 40) 40),m 5 41] [0,4,5]<|.block 1 (.loop (.seq (s [m 42 5,o 43 (.bin .gtr 42 (k 0))] [0,4,5,43]<|.cond
 43 .skip (.exit 1))<|.seq (.block 2 (.naming 4 (.region [m 46 4,m 47 0,o 48 (.call (.func F.gM) [47,(k 1)] [0]),o 49 (.bslice 1 1 [.v (.slice none 0 0)] [(0,48)]),o 50 (.append 1 24 46 49),m 4 50] [0,4,5] [])))<|.region [m 44 5,o 45 (.bin .sub 44 (k 1)),m 5 45] [0,4,5] []))) .skip))))<|s [m
 51 4,m 2 51] [2]<|.ret
theorem CdV.l02BentDeck_k:CK 132 Tryz.f132 CdV.iV 52 [.tmp 2]:=ck Tryz.func132
attribute [go_sem] CdV.iV
attribute [local go_sem] Int.reduceBEq Int.reduceBNe aH Ai Ah Al Aq Ad Af Ac Ae Aa Ab Ao Ar Ay Az Bo Bq Vs.Name.t.injEq Ak AB aW aX bG AA AO AP in
theorem aEr (l:List Int) (y:Sr) (U:byt l) (hp:y.p<=1500) (O:pkV l (ddF l (1+pkV l y 4).toNat (pkV l (pkS l y 4) (7+1:Nat)).toNat (pkS l (pkS l y 4) (7+1:Nat)) []).2 16=1->(ddF l (1+pkV l y 4).toNat (pkV l (pkS l y 4) (7+1:Nat)).toNat (pkS l (pkS l y 4) (7+1:Nat)) []).1.length=0):∃(d:List (List Int)) (z:Sr),bE d∧z.p<=y.p+700∧Vs.Fn Tryz.prog F.dL [sB l y] [.ptr (.b 0) 0 0] (.sl 1 (E cC d)) [some (sB l z)]:=by
 rw[show(1+pkV l y 4).toNat=(1+pkV l y 4).toNat from rfl] at O;have ht:=O;have P1:=pick l y U 4 (by omega);have v1:=bC U y (n:=4) (by omega);have q1:=aQ l y 4;generalize pkS l y 4=y1 at *
 obtain⟨M,hn⟩:∃n:Nat,1+pkV l y 4=n:=⟨(1+pkV l y 4).toNat,by omega⟩;have w1:IntKind.i64.wrap (1+pkV l y 4)=(M:Int):=by rw[aM (by omega) (by omega)];exact hn
 have hs:0<M:=by omega
 have hv:M<=4:=by omega
 rw[hn,Bw] at O;generalize pkV l y 4=r0 at *
 have Y:=mR l y1 U M hs (by omega) 7 (by omega) (by omega);rw[show((7:Nat):Int)=7 from rfl] at Y;have vk:=bC U y1 (n:=(7+1:Nat)) (by omega);have qk:=aQ l y1 (7+1:Nat);obtain⟨k0,hj⟩:∃k:Nat,(pkV l y1 (7+1:Nat)).toNat=k:=⟨_,rfl⟩;have hm:k0<=7:=by omega
 obtain⟨g1,g2,g3⟩:=aDt l M k0 (pkS l y1 (7+1:Nat)) [] (λc J=>by cases J);simp only[Ab,BF] at g1;have hu:8*M*k0<=32*7:=Nat.mul_le_mul (by omega) hm;rw[hj] at Y O;generalize ddF l M k0 (pkS l y1 (7+1:Nat)) []=R at *
 have I:(E cC R.1).length=R.1.length:=aH _;have V:(E cC R.1).take R.1.length=E cC R.1:=Ag (by rw[I];exact AL _);have hb:bE R.1:=⟨by omega,λc J=>by have:=g3 c J;omega⟩;have P3:=pick l R.2 U 16 (by omega);have v3:=bC U R.2 (n:=16) (by omega);have q3:=aQ l R.2 16;generalize pkV l R.2 16=r3 at *
 generalize pkS l R.2 16=y3 at *
 by_cases h0:r3=0
 .have e0:(r3==0)=true:=Bj.2 h0;have w2:IntKind.i64.wrap ((M:Int)+1)=((M+1:Nat):Int):=by rw[aM (by omega) (by omega)];omega
  have LD:=aDf l y3 U (M+1) (by omega) (by omega) (by omega);have hq:=wI l (M+1) y3 [];generalize hoF l (M+1) y3 []=H at *
  simp only[Ab,BF] at hq;have Z:E cC R.1++[[.sl 1 (E cI H.1)]]=E cC (R.1++[H.1]):=by rw[aS];rfl
  have hg:(E cC (R.1++[H.1])).take (R.1.length+1)=E cC (R.1++[H.1]):=Ag (by rw[aH];simp);refine⟨R.1++[H.1],H.2,⟨by rw[AC];simp;omega,λc J=>?_⟩,by omega,?_⟩
  .rcases Be.1 J with h|h
   .exact hb.2 c h
   .rw[Ar.1 h];omega
  refine fn1 CdV.l02BentDeck_k [.b 0] [sB l H.2] λX=>?_;unfold CdV.iV
  repeat' first|simp -dsimp only[go_sem,e0,w2,Z,hg,I,cC,sB,w1]|apply Br.mk<;>intro h<;>try simp -dsimp only[h]|refine aA.bor (by first|exact P1|exact Y|exact P3|exact LD) rfl ?_|refine aC ?_|refine aC9 ?_|fail
  all_goals first|omega|exact⟨_,_,rfl,rfl⟩|(exfalso;simp at h;done)
 have e0:(r3==0)=false:=Ap.2 h0;by_cases h1:r3=1
 .have e1:(r3==1)=true:=Bj.2 h1;have ho:R.1.length=0:=O h1;have he:R.1=[]:=Bl ho;rw[he] at Y I V;simp only[Ab] at Y I V;refine⟨[],y3,⟨by simp,λc J=>by cases J⟩,by omega,?_⟩;refine fn1 CdV.l02BentDeck_k [.b 0] [sB l y3] λX=>?_;unfold CdV.iV
  repeat' first|simp -dsimp only[go_sem,e0,e1,I,V,cC,sB,w1]|apply Br.mk<;>intro h<;>try simp -dsimp only[h]|refine aA.bor (by first|exact P1|exact Y|exact P3) rfl ?_|refine aC ?_|refine aC9 ?_|fail
  all_goals first|omega|exact⟨_,_,rfl,rfl⟩|(exfalso;simp at h;done)
 have e1:(r3==1)=false:=Ap.2 h1;by_cases h2:r3=2
 .have e2:(r3==2)=true:=Bj.2 h2;have P5:=pick l y3 U 2 (by omega);have v5:=bC U y3 (n:=2) (by omega);have q5:=aQ l y3 2;obtain⟨k1,ha⟩:∃k:Nat,40+pkV l y3 2=k:=⟨(40+pkV l y3 2).toNat,by omega⟩;have w5:IntKind.i64.wrap (40+pkV l y3 2)=(k1:Int):=by rw[aM (by omega) (by omega)];exact ha
  generalize pkV l y3 2=r5 at *
  generalize pkS l y3 2=y5 at *
  obtain⟨f1,f2,f3⟩:=aDt l 1 k1 y5 [] (λc J=>by cases J);simp only[Ab,BF,Nat.mul_one] at f1 f2;generalize hQ:ddF l 1 k1 y5 []=Q at *
  have hd:(E cC Q.1).take Q.1.length=E cC Q.1:=Ag (by rw[aH];exact AL _);refine⟨Q.1,Q.2,⟨by omega,λc J=>by have:=f3 c J;omega⟩,by omega,?_⟩;refine fn1 CdV.l02BentDeck_k [.b 0] [sB l Q.2] λX=>?_;unfold CdV.iV
  repeat' first|simp -dsimp only[go_sem,e0,e1,e2,w5,I,cC,sB,w1]|apply Br.mk<;>intro h<;>try simp -dsimp only[h]|refine aA.bor (by first|exact P1|exact Y|exact P3|exact P5) rfl ?_|refine aC ?_|refine aC9 ?_|fail
  refine aO.at dM (X:={L:Nat×Sr×List (List Int) // (L.2.1.p+8*L.1<=2950)∧(L.1+L.2.2.length=k1)∧ddF l 1 L.1 L.2.1 L.2.2=Q}) (λL=>[(4,.loc (.t 4 0) 0 L.1.2.2.length),(5,.v (.int .i64 (L.1.1:Nat)))]) (λL=>[(.b 0,sB l L.1.2.1),(.t 4 0,.arr 1 (E cC L.1.2.2) false)]) (λL=>L.1.1) ⟨(k1,y5,[]),by dsimp only;omega,by dsimp only;simp only[Ab];omega,hQ⟩ ?_ ?_
  .simp[Vs.LeL,Vs.look,aB,aP,aJ,Vs.hset,aK,Vs.E,sB]
  .rintro⟨⟨k,y,o⟩,ha,hk,hr⟩;dsimp only at ha hk hr;simp -dsimp only[go_sem,cC,sB];refine Br.mk (λJ=>?_) λJ=>?_
   .obtain⟨k,rfl⟩:∃j,k=j+1:=⟨k-1,by simp at J;omega⟩;have w:=aIi (k:=k) (by omega);have hf:=aDf l y U 1 (by omega) (by omega) (by omega);rw[show((1:Nat):Int)=1 from rfl] at hf;have hq:=(wI l 1 y []).2;rw[ddF] at hr;generalize hoF l 1 y []=H at *
    have Z:E cC o++[[.sl 1 (E cI H.1)]]=E cC (o++[H.1]):=by rw[aS];rfl
    repeat' first|simp -dsimp only[go_sem,w,Z,cC,sB]|apply Br.mk<;>intro h<;>try simp -dsimp only[h]|refine aA.bor (by first|exact hf) rfl ?_|refine aC ?_|refine aC9 ?_|fail
    all_goals first|omega|(refine⟨⟨(k,H.2,o++[H.1]),by dsimp only;omega,by dsimp only;rw[AC];simp only[Aa,Ab];omega,hr⟩,?_,by simp only;omega⟩;simp[Vs.LeL,Vs.look,aB,aP,aJ,Vs.hset,aK,Vs.E,sB,cC];done)
   .obtain rfl:k=0:=by simp at J;omega
    rw[ddF] at hr;subst hr;dsimp only at *
    simp -dsimp only[go_sem,hd,cC,sB]
    first|exact⟨⟨_,_,rfl,rfl⟩,λh=>absurd rfl h⟩|exact⟨⟨_,_,rfl,rfl⟩,λh=>h rfl⟩|exact⟨_,_,rfl,rfl⟩
 have e2:(r3==2)=false:=Ap.2 h2;refine⟨R.1,y3,hb,by omega,?_⟩;refine fn1 CdV.l02BentDeck_k [.b 0] [sB l y3] λX=>?_;unfold CdV.iV
 repeat' first|simp -dsimp only[go_sem,e0,e1,e2,I,V,cC,sB,w1]|apply Br.mk<;>intro h<;>try simp -dsimp only[h]|refine aA.bor (by first|exact P1|exact Y|exact P3) rfl ?_|refine aC ?_|refine aC9 ?_|fail
 all_goals first|omega|exact⟨_,_,rfl,rfl⟩|(exfalso;simp at h;done)
end
section
variable [Vs.Envs]
attribute [local irreducible] Vs.Fn nxV nxS pkV pkS ptN crd dW dtF lH hoF hoR
attribute [local go_sem] Int.reduceBEq Int.reduceBNe aH Ai Ah Al Aq Ad Af Ac Ae Aa Ab Ao Ar Ay Az Bo Bq Vs.Name.t.injEq Ak AB aW aX bG AA AO AP A7 Bi in
theorem aI0 (l:List Int) (y:Sr) (hl:byt l) (hp:y.p<=1500) (hq:pkV l (ddF l (1+pkV l y 4).toNat (pkV l (pkS l y 4) (7+1:Nat)).toNat (pkS l (pkS l y 4) (7+1:Nat)) []).2 16=1) (hg:(ddF l (1+pkV l y 4).toNat (pkV l (pkS l y 4) (7+1:Nat)).toNat (pkS l (pkS l y 4) (7+1:Nat)) []).1.length≠0):∃(d:List (List Int)) (z:Sr),bE d∧z.p<=y.p+700∧Vs.Fn Tryz.prog F.dL [sB l y] [.ptr (.b 0) 0 0] (.sl 1 (E cC d)) [some (sB l z)]:=by
 have P1:=pick l y hl 4 (by omega);have v1:=bC hl y (n:=4) (by omega);have q1:=aQ l y 4;generalize pkS l y 4=y1 at *
 obtain⟨V,hn⟩:∃n:Nat,1+pkV l y 4=n:=⟨(1+pkV l y 4).toNat,by omega⟩;have w1:IntKind.i64.wrap (1+pkV l y 4)=(V:Int):=by rw[aM (by omega) (by omega)];exact hn
 have h7:0<V:=by omega
 have qz:V<=4:=by omega
 rw[hn,Bw] at hq hg;generalize pkV l y 4=r0 at *
 have qe:=(mR l y1 hl V h7 (by omega) 7 (by omega) (by omega)).has;have DN:=@aCd _ l y1 hl V h7 (by omega) 7 (by omega) (by omega);have vk:=bC hl y1 (n:=(7+1:Nat)) (by omega);have qk:=aQ l y1 (7+1:Nat);obtain⟨k0,ql⟩:∃k:Nat,(pkV l y1 (7+1:Nat)).toNat=k:=⟨_,rfl⟩;have qm:k0<=7:=by omega
 obtain⟨g1,g2,g3⟩:=aDt l V k0 (pkS l y1 (7+1:Nat)) [] (λc hc=>by cases hc);simp only[Ab,BF] at g1;have qy:8*V*k0<=32*7:=Nat.mul_le_mul (by omega) qm;rw[ql] at DN hq hg;generalize ddF l V k0 (pkS l y1 (7+1:Nat)) []=R at *
 have P3:=pick l R.2 hl 16 (by omega);have q3:=aQ l R.2 16;rw[hq] at P3;generalize pkS l R.2 16=y3 at *
 have P5:=pick l y3 hl (R.1.length:Nat) (by omega);have v5:=bC hl y3 (n:=(R.1.length:Nat)) (by omega);have q5:=aQ l y3 (R.1.length:Nat);obtain⟨j,hj⟩:∃j:Nat,pkV l y3 (R.1.length:Nat)=j:=⟨(pkV l y3 (R.1.length:Nat)).toNat,by omega⟩;rw[hj] at P5 v5;generalize pkS l y3 (R.1.length:Nat)=y5 at *
 have hd:=(pR l y5 hl [] (by simp) (by omega));obtain⟨_,_,_,_,_,_,hd⟩:=hd;have hd:=(hd [] [] (by simp)).has;obtain⟨d',z,qw,qg,hz,SP⟩:=aJh l y5 hl R.1 (λc hc=>by have:=g3 c hc;omega) (by omega) j (by omega) (by omega);refine⟨d',z,⟨by omega,λc hc=>by have:=qg c hc;omega⟩,by omega,?_⟩;obtain⟨h1,h2,h3⟩:=Cd.s_l02BentDeck_k.o;obtain⟨qu,H,hc⟩:=Ca.1 h2;have qc:(Tryz.f132.body.map (zB Tryz.f132.ntmps (fK Tryz.prog)))=some true:=by kernel_rfl
 rw[H] at qc;have Y:=qA Tryz.mixed;refine Vs.Fn.of_atB (dr:=fK Tryz.prog) (ac:=Cd.dL) h1 H (by simpa using h3) hc (by simpa using qc) (by rw[Cd.s_l02BentDeck_k.n];exact Cq rfl) λS w qd qt a G=>?_;generalize hr:(⟨Tryz.f132.ntmps,w,S,sO qd [sB l y],λj=>qd (.b j),λj=>qt (.b j),λj=>[sB l y][j]?⟩:Ctx)=C0 at G;have ha:C0.nt=Tryz.f132.ntmps:=by rw[←hr]
 have hu:∀t,t<52->t<C0.nt:=λt ht=>by rw[ha,Cd.s_l02BentDeck_k.n];exact ht
 have qb:∀{σ:FSt}{a:Act}{w:World}{S:Nat->Prop}{ρ:Vs.Name->Option Nat}{κ:Vs.Name->Nat}{yy:Sr},OK C0 σ a w S ρ κ->σ.h (.b 0)=some (sB l yy)->∀b,C0.Mut b->ρ (.b 0)=some b:=by
  intro σ a w S ρ κ yy G h0 b hm;rw[←hr] at hm G;obtain⟨i,hi,qj⟩:=hm;have qi:i=0:=by simpa using hi
  subst qi;exact(G.keep 0 (sB l yy) h0).1.trans qj
 unfold Cd.dL;refine At.step ⟨[(0,.ptr (.b 0) 0 0)],[(.b 0,sB l y)]⟩ Y G ha ?_ λa wA S1 ρ1 κ1 G=>?_
 .simp -dsimp only[go_sem,cC,sB,w1]
  try simp[Vs.LeL,Vs.look,aB,sB]
 refine At.step ⟨[(0,.ptr (.b 0) 0 0),(3,.v (.int .i64 V))],[(.b 0,sB l y1)]⟩ Y G ha ?_ λa wB S2 ρ2 κ2 G=>?_
 .simp -dsimp only[go_sem,cC,sB,w1];refine And.intro rfl ?_;refine aA.bor (by exact P1) rfl ?_;simp -dsimp only[go_sem,cC,sB,w1]
  try simp[Vs.LeL,Vs.look,aB,sB]
 refine At.seq (At.rg (RgL.fwN (K:=fun σ'=>LeL σ' ⟨[(9,.ptr (.b 0) 0 0),(10,.v (.int .i64 V)),(0,.ptr (.b 0) 0 0),(3,.v (.int .i64 V))],[(.b 0,sB l y1)]⟩) (pre:=[⟨some 9,.mv (.tmp 0),none⟩,⟨some 10,.mv (.tmp 3),none⟩]) (post:=[⟨some 11,.call (.func F.dK) [(.tmp 9),(.tmp 10),(.const (.int .i64 (7)))] [0],none⟩,⟨some 4,.mv (.tmp 11),none⟩]) ha G ?_ fun σ' a w S ρ κ U G=>?_))
 .simp -dsimp only[go_sem,cC,sB,w1]
  try simp[Vs.LeL,Vs.look,aB,sB]
 replace G:=G.le U
 clear U;refine RgL.op rfl λop ops hf=>?_;refine aHw (C:=C0) (by rw[ha];exact hf) rfl G qe ?_;have q0:=G.size;refine(aB6 (X:=λv w' S' _ _=>∃I xs cs x0 c0,aMu w w' S' R.1 v I xs cs x0 c0) (d:=11) (xs:=[.ptr (.b 0) 0 0,.v (.int .i64 V),.v (.int .i64 7)]) (ys:=[.ptr (.b 0) 0 0,.v (.int .i64 V),.v (.int .i64 7)]) (B:=[.b 0]) (L1:=[]) (L2:=[]) (hin:=[sB l y1]) (r:=.junk) (hout:=[some (sB l R.2)]) (fz:=true) G (by simp) rfl rfl (λh=>by cases h) (λj h1 h2=>by simp at h1 h2;omega) rfl (λi hi=>?_) (λS1 ρ1 κ1 q1 q2 q3 q4 q5 q6=>(DN q1 q5 q6).mono ?_)).mono ?_
 .match i,hi with
  |0,_=>exact G.ev (.tmp 9)
  |1,_=>exact G.ev (.tmp 10)
  |2,_=>exact .clo (.v _)
 .rintro e w' ⟨v,S',ρ',κ',rfl,hpo,I,xs,cs,x0,c0,hD⟩;exact⟨v,S',ρ',κ',rfl,hpo,.junk _,I,xs,cs,x0,c0,hD⟩
 rintro e w' ⟨v,S2,ρ2,κ2,S',ρ',κ',rfl,hok2,_,hsub,_,I,xs,cs,x0,c0,hD⟩;refine⟨v,rfl,?_⟩;have qn:I.length=R.1.length:=by rw[←hD.rows.len];simp
 have hk:OK C0 (⟨[(11,.v v),(0,.ptr (.b 0) 0 0),(3,.v (.int .i64 V))],[(.b 0,sB l R.2)]⟩:St).f (a.put (some 11) v) w' S2 ρ2 κ2:=by
  refine(hok2.put (x:=.v v) (v:=v) (.clo (.v v)) (d:=some 11) (λd' h=>by cases h;exact hu 11 (by omega))).less (λt=>?_) λm b hm=>?_
  .simp only[St.f,Vs.look,upd];by_cases hw:t=11
   .subst hw;simp
   .by_cases h0:t=0
    .subst h0;simp
    .by_cases h3:t=3
     .subst h3;simp
     .simp[hw,h0,h3]
  .simp only[St.f,aB] at hm;split at hm
   .rename_i h;have Z:m=.b 0:=by first|exact h|exact h.symm
    subst Z;rw[←hm];simp[Vs.aft,Vs.kJ,sB,Vs.rnB,Vs.rnL,Vs.rn]
   .cases hm
 have hv:Own S2 w' x0 c0 1 (I.map λs=>[AV.v s]) v:=hD.root.mono (λb H hs=>hD.root.notS H (hsub b hs)) λ_ _=>rfl
 have qa:∀b,ρ2 (.b 0)=some b->b<w.heap.size:=λb he=>by
  have h1:=(hk.keep 0 (sB l R.2) rfl).1;have h2:=(G.keep 0 (sB l y1) rfl).1;exact G.hok.lt (n:=.b 0) (by rfl) ((h2.trans h1.symm).trans he)
 have J:=hk.adopt (n:=.t 11 0) rfl hv (λb H=>⟨λm hm he=>by
     have:b<w.heap.size:=by
       have Z:m=.b 0:=by
         obtain⟨bb,O⟩:=AQ.1 hm;simp only[St.f,aB] at O;split at O
         . rename_i h;first|exact h|exact h.symm
         . cases O
       subst Z;exact qa b he
     have:=(hD.new0 b H).1;omega,.inl (by have:=(hD.new0 b H).1;omega)⟩) (t:=11) (by simp[Act.put,G.nt,hu 11 (by omega)])
 rw[BC] at J
 replace J:=J.le (σ':=⟨[(11,.loc (.t 11 0) 0 I.length),(0,.ptr (.b 0) 0 0),(3,.v (.int .i64 V))],[(.t 11 0,.arr 1 (I.map λs=>[AV.v s]) false),(.b 0,sB l R.2)]⟩) (by simp[Vs.LeL,Vs.look,aB,sB])
 obtain⟨ρ4,κ4,qs,qr,J⟩:∃ρ4 κ4,ρ4 (.t 11 0)=x0∧ρ4 (.b 0)=ρ2 (.b 0)∧OK C0 (⟨[(11,.loc (.t 11 0) 0 I.length),(0,.ptr (.b 0) 0 0),(3,.v (.int .i64 V))],[(.t 11 0,.arr 1 (I.map λs=>[AV.v s]) false),(.b 0,sB l R.2)]⟩:St).f (a.put (some 11) v) w' S2 ρ4 κ4:=⟨_,_,AY rfl,AJ (by decide),J⟩
 have hh:=J.hid (D:=λb=>∃i,i<I.length∧xs i=some b) (λb ⟨i,hi,H⟩=>(hD.new i b hi H).2) (λb ⟨i,hi,H⟩ hs=>(hD.rows.row i hi).notS H (hsub b hs)) (λb ⟨i,hi,H⟩ m hm he=>by
     obtain⟨bb,O⟩:=AQ.1 hm;simp only[St.f,aB] at O;split at O
     . rename_i h
       have Z:m=.t 11 0:=by first|exact h|exact h.symm
       subst Z;rw[qs] at he;exact(hD.new0 b he).2.2 i hi H
     . split at O
       . rename_i h
         have Z:m=.b 0:=by first|exact h|exact h.symm
         subst Z;rw[qr] at he;have h1:=qa b he;have h2:=(hD.new i b hi H).1;omega
       . cases O)
 have h6:=J.later;have ho:=J.anew;have qo:=hD.rows.mono (S':=S2) (w':=w') (λi b hi H hs=>(hD.rows.row i hi).notS H (hsub b hs)) (λ_ _ _ _=>rfl);have qh:∀i b,i<I.length->xs i=some b->C0.w0.heap.size<=b:=λi b hi H=>by have:=(hD.new i b hi H).1;omega
 rw[←qn] at P5;have h5:decide ((I.length:Int)>0)=true:=AR (by omega);have qx:j<I.length:=by omega
 have qv:(j:Int)<I.length:=by omega
 generalize h4:C0.anew w' S2 _ ρ4=C1 at ho hh h6;have qp:C1.w0=w':=by rw[←h4];rfl
 have L:C1.nt=Tryz.f132.ntmps:=by rw[←h4];exact ha
 refine RgL.fwN (C:=C1) (K:=fun σ'=>LeL σ' ⟨[(0,.ptr (.b 0) 0 0),(4,.loc (.t 11 0) 0 I.length)],[(.t 11 0,.arr 1 (I.map λs=>[AV.v s]) false),(.b 0,sB l R.2)]⟩) (pre:=[⟨some 4,.mv (.tmp 11),none⟩]) (post:=[]) L ho ?_ fun σ' a w S ρ κ U G=>?_
 .simp -dsimp only[go_sem,cC,sB,w1]
  try simp[Vs.LeL,Vs.look,aB,sB]
 replace G:=G.le U
 clear U;refine RgL.nil ?_;show At Tryz.prog _ _ (.seq _ _) _ a w
 refine At.seq (At.step ⟨[(0,.ptr (.b 0) 0 0),(4,.loc (.t 11 0) 0 I.length),(13,.v (.int .i64 1))],[(.t 11 0,.arr 1 (I.map λs=>[AV.v s]) false),(.b 0,sB l y3)]⟩ Y G L ?_ λa w S ρ κ G=>?_)
 .simp -dsimp only[go_sem,cC,sB,w1];refine And.intro rfl ?_;refine aA.bor (by exact P3) rfl ?_;simp -dsimp only[go_sem,cC,sB,w1]
  try simp[Vs.LeL,Vs.look,aB,sB]
 refine At.block (At.step ⟨[(0,.ptr (.b 0) 0 0),(4,.loc (.t 11 0) 0 I.length),(13,.v (.int .i64 1)),(14,.v (.bool false))],[(.t 11 0,.arr 1 (I.map λs=>[AV.v s]) false),(.b 0,sB l y3)]⟩ Y G L ?_ λa w S ρ κ G=>?_)
 .simp -dsimp only[go_sem,cC,sB,w1]
  try simp[Vs.LeL,Vs.look,aB,sB]
 refine At.cond (t:=false) (dD (G.ev (.tmp 14))) (λh=>by cases h) λ_=>?_;refine At.step ⟨[(0,.ptr (.b 0) 0 0),(4,.loc (.t 11 0) 0 I.length),(23,.v (.bool true))],[(.t 11 0,.arr 1 (I.map λs=>[AV.v s]) false),(.b 0,sB l y3)]⟩ Y G L ?_ λa w S ρ κ G=>?_
 .simp -dsimp only[go_sem,cC,sB,w1]
  try simp[Vs.LeL,Vs.look,aB,sB]
 refine At.cond (t:=true) (dD (G.ev (.tmp 23))) (λ_=>?_) λh=>by cases h
 refine At.step ⟨[(0,.ptr (.b 0) 0 0),(4,.loc (.t 11 0) 0 I.length),(27,.v (.bool true))],[(.t 11 0,.arr 1 (I.map λs=>[AV.v s]) false),(.b 0,sB l y3)]⟩ Y G L ?_ λa w S ρ κ G=>?_
 .simp -dsimp only[go_sem,cC,sB,w1]
  first|(simp[Vs.LeL,Vs.look,aB,sB,h5];done)|(simp[Vs.LeL,Vs.look,aB,sB,h5];omega)
 refine At.cond (t:=true) (dD (G.ev (.tmp 27))) (λ_=>?_) λh=>by cases h
 refine At.rg (RgL.fwN (C:=C1) (K:=fun σ'=>LeL σ' ⟨[(28,.ptr (.b 0) 0 0),(34,.ptr (.t 11 0) j 0),(4,.loc (.t 11 0) 0 I.length)],[(.t 11 0,.arr 1 (I.map λs=>[AV.v s]) false),(.b 0,sB l y5)]⟩) (pre:=[⟨some 28,.mv (.tmp 0),none⟩,⟨some 29,.mv (.tmp 4),none⟩,⟨some 30,.mv (.tmp 0),none⟩,⟨some 31,.mv (.tmp 4),none⟩,⟨some 32,.len (.tmp 31),none⟩,⟨some 33,.call (.func F.aD) [(.tmp 30),(.tmp 32)] [0],none⟩,⟨some 34,.idxSl 1 (.tmp 29) (.tmp 33),none⟩]) (post:=[⟨some 35,.call (.func F.rJ) [(.tmp 28),(.tmp 34)] [0,1],none⟩]) L G ?_ fun σ' a w S ρ κ U G=>?_)
 .simp -dsimp only[go_sem,cC,sB,w1];refine And.intro rfl ?_;refine aA.bor (by exact P5) rfl ?_;simp -dsimp only[go_sem,cC,sB,w1]
  first|exact⟨⟨by omega,by omega⟩,by simp[Vs.LeL,Vs.look,aB,sB]⟩
 replace G:=G.le U
 clear U;refine RgL.op rfl λop ops hf=>aHw (C:=C1) (by rw[L];exact hf) rfl G hd ?_;have M:=G.back h6
 have qf:∀b,ρ (.t 11 0)=some b->C0.w0.heap.size<=b:=λb H=>(M.mine (.t 11 0) b (by rfl) H).elim id λhm=>by
  have h1:=qb M rfl b hm;have:=M.hok.inj (.t 11 0) (.b 0) b (by rfl) (by rfl) H h1;cases this
 refine(SP M rfl rfl (qo.mono (S':=S) (w':=w) (λi b hi H=>(hh.same G).2.2.1 b ⟨i,hi,H⟩) (λi b hi H=>by have:=(hh.same G).1 b ⟨i,hi,H⟩;rw[qp] at this;exact this)) (λi b hi H=>⟨qh i b hi H,(hh.same G).2.1 b ⟨i,hi,H⟩,(hh.same G).2.2.2 b ⟨i,hi,H⟩⟩) qf (M.slots 4) (M.ev (.tmp 28)) (M.ev (.tmp 34))).mono ?_;rintro e w' ⟨u,S',rfl,hok6⟩;refine⟨u,rfl,RgL.nil ?_⟩;simp only[Exit.inBlock,Exit.then]
 have h8:OK C0 (⟨[(4,.sl 1 (E cC d'))],[(.b 0,sB l z)]⟩:St).f (a.put (some 35) u) w' S' ρ κ:=by
  refine(hok6.put (x:=.junk) (v:=u) (.junk u) (d:=some 35) (λd' h=>by cases h;exact hu 35 (by omega))).less (λt=>?_) λ_ _ h=>h;by_cases hy:t=35
  .subst hy;exact .inr (by simp[St.f,Vs.look])
  .exact .inl (by simp[upd,hy])
 refine At.step ⟨[(2,.sl 1 (E cC d'))],[(.b 0,sB l z)]⟩ Y h8 ha ?_ λa w S ρ κ G=>?_
 .simp -dsimp only[go_sem,cC,sB,w1]
  try simp[Vs.LeL,Vs.look,aB,sB]
 refine At.ret ⟨.inl rfl,G.defers,?_⟩
 obtain ⟨x,v,hx,qq,h9⟩:=aCm G (fn:=Tryz.f132) (K:=λx=>x=.sl 1 (E cC d')) (by
   show aCN Tryz.prog _ _ [_]
   simp[aCN,aIo,Vs.look,aCX])
 subst hx;rw[←hr] at G
 exact ⟨v,S,ρ,κ,h9,OK.post (hout:=[sB l z]) G (λn b H=>by
   obtain⟨rfl,rfl⟩:=aDH H;exact⟨rfl,aCL l z⟩),.clo (qq.closed rfl)⟩
theorem iV (l:List Int) (y:Sr) (H:byt l) (I:y.p<=1500):∃(d:List (List Int)) (z:Sr),bE d∧z.p<=y.p+700∧Vs.Fn Tryz.prog F.dL [sB l y] [.ptr (.b 0) 0 0] (.sl 1 (E cC d)) [some (sB l z)]:=by
 by_cases G:pkV l (ddF l (1+pkV l y 4).toNat (pkV l (pkS l y 4) (7+1:Nat)).toNat (pkS l (pkS l y 4) (7+1:Nat)) []).2 16=1
 .by_cases u:(ddF l (1+pkV l y 4).toNat (pkV l (pkS l y 4) (7+1:Nat)).toNat (pkS l (pkS l y 4) (7+1:Nat)) []).1.length=0
  .exact aEr l y H I λ_=>u
  .exact aI0 l y H I G u
 .exact aEr l y H I λh=>absurd h G
end
section
variable [Vs.Tab 1 Vs.powP]
attribute [local irreducible] Vs.Fn dW wO stC run iU bR alg chOK areCh chTo chAt l03 chB rk cd3 chI stp stpTo
theorem aKO {l:List (Int×Int×Int)}:∀r,r∈E cCt l->nV r=true:=λr u=>by
 obtain⟨x,_,rfl⟩:=BG.1 u;rfl
theorem aMr {o:Off}{F:List Stp}{fr to:Int}:∀y,y∈([.agg (cO o),.sl 9 (E cS F),.agg (cFd fr to)]:List AV)->mV y=true:=by
 intro y u;simp only[Ay,Az,Bo] at u;rcases u with rfl|rfl|rfl<;>rfl
theorem aDO (fr to:Int) (o:Off) (w:Nat) (I:okO w o) (H:kX fr to w=true) (u:List Stp) (J:∀x,x∈u->x.text.size<=1048576) (G:u.length<=1048576):Fz F.dH [.agg (cO o),.sl 9 (E cS u),.agg (cFd fr to)] (.tup [caW (alg fr to o u),.v (.bool (alg fr to o u).2)]):=by
 cases h2:(alg fr to o u).2
 .rw[yJ h2];exact yG fr to o w I H u J G h2
 .have h:=yF fr to o w I H u J G h2;rw[show(alg fr to o u).1.length=(E cCt (alg fr to o u).1).length from(aH _).symm] at h;rw[show caW (alg fr to o u)=.sl 3 (E cCt (alg fr to o u).1) by unfold caW;rw[h2];rfl];exact Vs.Fn.shut2 h aKO aMr
def caL (fr to:Int) (o:Off) (fl:List Stp):AV:=if caC fr to o fl=0 then .sl 3 (E cCt (alg fr to o fl).1) else .v (.slice none 0 0)
theorem zZ (fr to:Int) (o:Off) (I:fC o) (u:List Stp) (J:∀x,x∈u->x.text.size<=1048576) (H:u.length<=1048576):Fz F.dU [.agg (cO o),.sl 9 (E cS u),.agg (cFd fr to)] (.tup [caL fr to o u,.v (.int .i64 (caC fr to o u))]):=by
 unfold caL;by_cases G:caC fr to o u=0
 .have h:=z8 fr to o I u J H G;rw[show(alg fr to o u).1.length=(E cCt (alg fr to o u).1).length from(aH _).symm] at h;rw[AY G,G];exact Vs.Fn.shut2 h aKO aMr
 .rw[AJ G];exact aAa fr to o I u J H G
theorem zW (fr to:Int) (o:Off) (I:fC o) (u:List Stp) (J:∀x,x∈u->x.text.size<=1048576) (H:u.length<=1048576):Fz F.dA [.agg (cO o),.sl 9 (E cS u),.agg (cFd fr to)] (.tup [caL fr to o u,.v (.int .i64 (caC fr to o u))]):=by
 unfold caL;by_cases G:caC fr to o u=0
 .rw[AY G,G];exact zY fr to o I u J H G
 .rw[AJ G];exact qI fr to o I u J H G
end
section
variable [Vs.Tab 1 Vs.powP]
attribute [local irreducible] Vs.Fn dW wO stC run iU bR chOK areCh chTo chAt l03 chB rk cd3 chI stp stpTo
def fbE (fr to:Int) (o:Off) (fl:List Stp) (told:List (Int×Int×Int)):Int:=if fbC fr to o fl.length=0 then(if told.length=fl.length then(if(alg fr to o fl).2 then 0 else 8) else 2) else fbC fr to o fl.length
def fbN (fr to:Int) (o:Off) (fl:List Stp) (told:List (Int×Int×Int)):Int:=if fbE fr to o fl told=0 then fbI (alg fr to o fl).1 told 0 else 0
theorem aFX:∀(l:List (Int×Int×Int)) (i:Nat),fbI l l i=-1
 | [],_=>by simp[fbI]
 |a::r,i=>by rw[fbI,AY rfl];exact aFX r (i+1)
theorem aLR (l:List (Int×Int×Int)) (i:Nat):fbI l [] i=-1:=by cases l<;>rfl
theorem aKp {l t:List (Int×Int×Int)}{i:Nat} (u:i<l.length) (h2:i<t.length) (h:l[i]≠t[i]):fbI (l.drop i) (t.drop i) i=i:=by
 rw[Bn u,Bn h2,fbI,AJ h]
theorem aKq {l t:List (Int×Int×Int)}{i:Nat} (u:i<l.length) (h2:i<t.length) (h:l[i]=t[i]):fbI (l.drop i) (t.drop i) i=fbI (l.drop (i+1)) (t.drop (i+1)) (i+1):=by
 rw[Bn u,Bn h2,fbI,AY h]
theorem aEi {l t:List (Int×Int×Int)}{i:Nat} (u:l.length<=i) (h2:i<t.length):fbI (l.drop i) (t.drop i) i=i:=by
 rw[List.drop_eq_nil_of_le u,Bn h2,fbI]
theorem aHQ {l t:List (Int×Int×Int)}{i:Nat} (h:t.length<=i):fbI (l.drop i) (t.drop i) i=-1:=by
 rw[List.drop_eq_nil_of_le h,aLR]
theorem aMo {x y:Int×Int×Int} (h:x≠y):(x.1==y.1&&(x.2.1==y.2.1&&x.2.2==y.2.2))=false:=by
 apply Bool.eq_false_iff.2;intro u;simp only[Au,Bj] at u;exact h (Prod.ext u.1 (Prod.ext u.2.1 u.2.2))
theorem E_ct {l:List (Int×Int×Int)}{i:Nat} (h:i<l.length):(E cCt l).getD i []=[.v (.int .i64 l[i].1),.v (.int .i64 l[i].2.1),.v (.int .i64 l[i].2.2)]:=aR h
attribute [local go_sem] Int.reduceBEq Int.reduceBNe cC aH Ai Ah Al Aq Ad Af Ac Ae Aa Ab Ao Ar Ay Az Bo Bq Vs.Name.t.injEq Ak AB Vs.Name.b.injEq A7 Bi in
theorem wU (fr to:Int) (o:Off) (ho:fC o) (H:List Stp) (hz:∀x,x∈H->x.text.size<=1048576) (hl:H.length<=1048576) (u:List (Int×Int×Int)) (ht:u.length<=1048576):Fz F.lC [.agg (cO o),.sl 9 (E cS H),.agg (cFd fr to),.sl 3 (E cCt u)] (.tup [.v (.int .i64 (fbN fr to o H u)),.v (.int .i64 (fbE fr to o H u))]):=by
 have OC:=aAl fr to o ho H;unfold fbN fbE;by_cases Z:fbC fr to o H.length=0
 rotate_left
 .rw[AJ Z];simp only[Z,Bg];have e1:(fbC fr to o H.length != 0)=true:=by simp[Z]
  refine fn0 Cd.i_FirstBreak_k λX=>?_
  repeat' first|simp -dsimp only[go_sem,e1,cO,cS,cFd,cCt]|apply Br.mk<;>intro h<;>try simp -dsimp only[h]|refine aA.c (by first|exact OC) ?_|refine aC ?_|refine aC9 ?_|fail
  all_goals first|omega|exact⟨_,_,rfl,rfl⟩|exact⟨⟨_,_,rfl,rfl⟩,λh=>h rfl⟩|(refine aU ?_;simp;done)|(simp at h;done)|(simp at h;omega)
 obtain⟨hj,hf,hn⟩:=aDo Z;have hk:=aAm hj ho;rw[Z] at OC;simp only[Z,Bt];by_cases h3:u.length=H.length
 rotate_left
 .have J:((u.length:Int) != (H.length:Int))=true:=by simp;omega
  simp only[h3,Bg];refine fn0 Cd.i_FirstBreak_k λX=>?_
  repeat' first|simp -dsimp only[go_sem,J,cO,cS,cFd,cCt]|apply Br.mk<;>intro h<;>try simp -dsimp only[h]|refine aA.c (by first|exact OC) ?_|refine aC ?_|refine aC9 ?_|fail
  all_goals first|omega|exact⟨_,_,rfl,rfl⟩|exact⟨⟨_,_,rfl,rfl⟩,λh=>h rfl⟩|(refine aU ?_;simp;done)|(simp at h;done)|(simp at h;omega)
 have J:((u.length:Int) != (H.length:Int))=false:=by simp;omega
 have CA:=aDO fr to o (wO o.trays) hk hf H hz hl;have hd:=aBh fr to H o;simp only[h3,Bt];generalize alg fr to o H=R at *
 cases hb:R.2
 .rw[yJ hb,hb] at CA;simp only[A8,Bg];refine fn0 Cd.i_FirstBreak_k λX=>?_
  repeat' first|simp -dsimp only[go_sem,J,cO,cS,cFd,cCt]|apply Br.mk<;>intro h<;>try simp -dsimp only[h]|refine aA.c (by first|exact OC|exact CA) ?_|refine aC ?_|refine aC9 ?_|fail
  all_goals first|omega|exact⟨_,_,rfl,rfl⟩|exact⟨⟨_,_,rfl,rfl⟩,λh=>h rfl⟩|(refine aU ?_;simp;done)|(simp at h;done)|(simp at h;omega)
 obtain⟨L,q⟩:=R;dsimp only at hb hd⊢;subst hb;rw[yI] at CA;simp only[Bt];refine fn0 Cd.i_FirstBreak_k λX=>?_
 repeat' first|simp -dsimp only[go_sem,J,cO,cS,cFd,cCt]|apply Br.mk<;>intro h<;>try simp -dsimp only[h]|refine aA.c (by first|exact OC|exact CA) ?_|refine aC ?_|refine aC9 ?_|fail
 refine aO.at dM (X:={O:Nat×(Unit) // O.1<=u.length∧fbI L u 0=fbI (L.drop O.1) (u.drop O.1) O.1}) (λO=>[(40,.v (.int .i64 O.1.1))]) (λO=>[]) (λO=>u.length-O.1.1) ⟨(0,()),by omega,by simp⟩ ?_ ?_
 .exact le0
 .rintro⟨⟨i,_⟩,hi,U⟩;dsimp only at hi U;have Y:(E cCt L).length=L.length:=aH _;have hm:(E cCt u).length=u.length:=aH _;simp -dsimp only[go_sem,J,cO,cS,cFd,cCt];refine Br.mk (λhc=>?_) λhc=>?_
  .have M:i<u.length:=Dq;have hw:IntKind.i64.wrap ((i:Int)+1)=((i+1:Nat):Int):=by rw[aM (by omega) (by omega)];omega
   have gt:=E_ct M;by_cases V:i<L.length
   .have e4:decide ((i:Int)≥(L.length:Int))=false:=AX (by omega);have gl:=E_ct V;by_cases he:L[i]=u[i]
    .have ha:=U.trans (aKq V M he);rw[he] at gl;have e5:(u[i].1==u[i].1&&(u[i].2.1==u[i].2.1&&u[i].2.2==u[i].2.2))=true:=by simp
     repeat' first|simp -dsimp only[go_sem,hw,gt,gl,e4,e5,Y,J,cO,cS,cFd,cCt]|apply Br.mk<;>intro h<;>try simp -dsimp only[h]|refine aC ?_|refine aC9 ?_|fail
     all_goals first|omega|(exact nx (i+1,()) ha)
    .have I:=aKp V M he;have e5:=aMo he
     repeat' first|simp -dsimp only[go_sem,hw,gt,gl,e4,e5,Y,J,cO,cS,cFd,cCt]|apply Br.mk<;>intro h<;>try simp -dsimp only[h]|refine aC ?_|refine aC9 ?_|fail
     all_goals first|omega|(refine aU ?_;rw[U,I];done)|(rw[U,I];exact⟨_,_,rfl,rfl⟩)
   .have e4:decide ((i:Int)≥(L.length:Int))=true:=AR (by omega);have I:=aEi (l:=L) (t:=u) (by omega:L.length<=i) M
    repeat' first|simp -dsimp only[go_sem,hw,gt,e4,Y,J,cO,cS,cFd,cCt]|apply Br.mk<;>intro h<;>try simp -dsimp only[h]|refine aC ?_|refine aC9 ?_|fail
    all_goals first|omega|(refine aU ?_;rw[U,I];done)|(rw[U,I];exact⟨_,_,rfl,rfl⟩)
  .have hp:i=u.length:=by
    have:¬i<u.length:=Dq;omega
   have I:=U.trans (aHQ (l:=L) (t:=u) (i:=i) (by omega))
   repeat' first|simp -dsimp only[go_sem,J,cO,cS,cFd,cCt]|apply Br.mk<;>intro h<;>try simp -dsimp only[h]|refine And.intro ?_ (λh=>absurd rfl h)|refine aC ?_|refine aC9 ?_|fail
   all_goals first|omega|(rw[I];exact⟨_,_,rfl,rfl⟩)|(rw[I];exact⟨⟨_,_,rfl,rfl⟩,λh=>h rfl⟩)|(rw[I];exact λ_=>⟨⟨_,_,rfl,rfl⟩,λh=>h rfl⟩)|(simp[I];done)
attribute [local go_sem] Int.reduceBEq Int.reduceBNe cC aH Ai Ah Al Aq Ad Af Ac Ae Aa Ab Ao Ar Ay Az Bo Bq Vs.Name.t.injEq Ak AB Vs.Name.b.injEq A7 Bi in
theorem aCb (fr to:Int) (o:Off) (ho:fC o) (H:List Stp) (hz:∀x,x∈H->x.text.size<=1048576) (hl:H.length<=1048576) (G:List (Int×Int×Int)) (ht:G.length<=1048576):Fz F.nI [.agg (cO o),.sl 9 (E cS H),.agg (cFd fr to),.sl 3 (E cCt G)] (.tup [.v (.int .i64 (fbN fr to o H G)),.v (.int .i64 (fbE fr to o H G))]):=by
 have V:=aCs fr to o ho;unfold fbN fbE;by_cases Y:fbC fr to o H.length=0
 rotate_left
 .rw[AJ Y];simp only[Y,Bg];by_cases J:exC fr to o=0
  .have hc:=aKr (n:=H.length) J;have hd:¬H.length<=20:=by intro h;rw[AY h] at hc;exact Y hc
   rw[AJ hd] at hc;rw[hc];rw[J] at V;have e2:decide ((H.length:Int)>20)=true:=AR (by omega);refine fn0 Cd.s_FirstBreak_k λX=>?_
   repeat' first|simp -dsimp only[go_sem,e2,cO,cS,cFd,cCt]|apply Br.mk<;>intro h<;>try simp -dsimp only[h]|refine aA.c (by first|exact V) ?_|refine aC ?_|refine aC9 ?_|fail
   all_goals first|omega|exact⟨_,_,rfl,rfl⟩|exact⟨⟨_,_,rfl,rfl⟩,λh=>h rfl⟩|(refine aU ?_;simp;done)|(simp at h;done)|(simp at h;omega)
  .rw[aEX J];have e1:(exC fr to o==0)=false:=Ap.2 J;have e2:(exC fr to o != 0)=true:=by simp[J]
   refine fn0 Cd.s_FirstBreak_k λX=>?_
   repeat' first|simp -dsimp only[go_sem,e1,e2,cO,cS,cFd,cCt]|apply Br.mk<;>intro h<;>try simp -dsimp only[h]|refine aA.c (by first|exact V) ?_|refine aC ?_|refine aC9 ?_|fail
   all_goals first|omega|exact⟨_,_,rfl,rfl⟩|exact⟨⟨_,_,rfl,rfl⟩,λh=>h rfl⟩|(refine aU ?_;simp;done)|(simp at h;done)|(simp at h;omega)
 obtain⟨hn,hm,hd⟩:=aDo Y;have hp:=aAm hn ho
 have J:exC fr to o=0:=by
  rcases Decidable.em (exC fr to o=0) with h|h
  .exact h
  .rw[aEX h] at Y;exact absurd Y h
 rw[J] at V;have I:decide ((H.length:Int)>20)=false:=AX (by omega);simp only[Y,Bt];by_cases h3:G.length=H.length
 rotate_left
 .have O:((G.length:Int) != (H.length:Int))=true:=by simp;omega
  simp only[h3,Bg];refine fn0 Cd.s_FirstBreak_k λX=>?_
  repeat' first|simp -dsimp only[go_sem,I,O,cO,cS,cFd,cCt]|apply Br.mk<;>intro h<;>try simp -dsimp only[h]|refine aA.c (by first|exact V) ?_|refine aC ?_|refine aC9 ?_|fail
  all_goals first|omega|exact⟨_,_,rfl,rfl⟩|exact⟨⟨_,_,rfl,rfl⟩,λh=>h rfl⟩|(refine aU ?_;simp;done)|(simp at h;done)|(simp at h;omega)
 have O:((G.length:Int) != (H.length:Int))=false:=by simp;omega
 have CA:=aDa fr to o (wO o.trays) hp hm H hz hl;have hk:=aBh fr to H o;simp only[h3,Bt];generalize alg fr to o H=R at *
 cases hb:R.2
 .rw[yJ hb,show cdW R=8 by unfold cdW;rw[hb];rfl] at CA;simp only[A8,Bg];refine fn0 Cd.s_FirstBreak_k λX=>?_
  repeat' first|simp -dsimp only[go_sem,I,O,cO,cS,cFd,cCt]|apply Br.mk<;>intro h<;>try simp -dsimp only[h]|refine aA.c (by first|exact V|exact CA) ?_|refine aC ?_|refine aC9 ?_|fail
  all_goals first|omega|exact⟨_,_,rfl,rfl⟩|exact⟨⟨_,_,rfl,rfl⟩,λh=>h rfl⟩|(refine aU ?_;simp;done)|(simp at h;done)|(simp at h;omega)
 obtain⟨L,q⟩:=R;dsimp only at hb hk⊢;subst hb;rw[yI,show cdW (L,true)=0 from rfl] at CA;simp only[Bt];refine fn0 Cd.s_FirstBreak_k λX=>?_
 repeat' first|simp -dsimp only[go_sem,I,O,cO,cS,cFd,cCt]|apply Br.mk<;>intro h<;>try simp -dsimp only[h]|refine aA.c (by first|exact V|exact CA) ?_|refine aC ?_|refine aC9 ?_|fail
 refine aO.at dM (X:={U:Nat×(Unit) // U.1<=L.length∧fbI L G 0=fbI (L.drop U.1) (G.drop U.1) U.1}) (λU=>[(13,.v (.int .i64 U.1.1))]) (λU=>[]) (λU=>L.length-U.1.1) ⟨(0,()),by omega,by simp⟩ ?_ ?_
 .exact le0
 .rintro⟨⟨i,_⟩,hi,hg⟩;dsimp only at hi hg;have hs:(E cCt L).length=L.length:=aH _;have hr:(E cCt G).length=G.length:=aH _;simp -dsimp only[go_sem,I,O,cO,cS,cFd,cCt];refine Br.mk (λhc=>?_) λhc=>?_
  .have ha:i<L.length:=Dq;have hw:IntKind.i64.wrap ((i:Int)+1)=((i+1:Nat):Int):=by rw[aM (by omega) (by omega)];omega
   have Z:i<G.length:=by omega
   have gl:=E_ct ha;have gt:=E_ct Z;by_cases he:L[i]=G[i]
   .have hf:=hg.trans (aKq ha Z he);rw[he] at gl;have e5:(G[i].1==G[i].1&&(G[i].2.1==G[i].2.1&&G[i].2.2==G[i].2.2))=true:=by simp
    repeat' first|simp -dsimp only[go_sem,hw,gt,gl,e5,I,O,cO,cS,cFd,cCt]|apply Br.mk<;>intro h<;>try simp -dsimp only[h]|refine aC ?_|refine aC9 ?_|fail
    all_goals first|omega|(exact nx (i+1,()) hf)
   .have M:=aKp ha Z he;have e5:=aMo he
    repeat' first|simp -dsimp only[go_sem,hw,gt,gl,e5,I,O,cO,cS,cFd,cCt]|apply Br.mk<;>intro h<;>try simp -dsimp only[h]|refine aC ?_|refine aC9 ?_|fail
    all_goals first|omega|(refine aU ?_;rw[hg,M];done)|(rw[hg,M];exact⟨_,_,rfl,rfl⟩)
  .have hj:i=L.length:=by
    have:¬i<L.length:=Dq;omega
   by_cases hu:L.length<H.length
   .have M:=hg.trans (aEi (l:=L) (t:=G) (i:=i) (by omega) (by omega));rw[hj] at M;have e6:decide ((L.length:Int)<(H.length:Int))=true:=AR (by omega)
    repeat' first|simp -dsimp only[go_sem,e6,I,O,cO,cS,cFd,cCt]|apply Br.mk<;>intro h<;>try simp -dsimp only[h]|refine And.intro ?_ (λh=>absurd rfl h)|refine aC ?_|refine aC9 ?_|fail
    all_goals first|omega|(rw[M];exact⟨_,_,rfl,rfl⟩)|(rw[M];exact⟨⟨_,_,rfl,rfl⟩,λh=>h rfl⟩)|(rw[M];exact λ_=>⟨⟨_,_,rfl,rfl⟩,λh=>h rfl⟩)|(simp[M];done)
   .have M:=hg.trans (aHQ (l:=L) (t:=G) (i:=i) (by omega));have e6:decide ((L.length:Int)<(H.length:Int))=false:=AX (by omega)
    repeat' first|simp -dsimp only[go_sem,e6,I,O,cO,cS,cFd,cCt]|apply Br.mk<;>intro h<;>try simp -dsimp only[h]|refine And.intro ?_ (λh=>absurd rfl h)|refine aC ?_|refine aC9 ?_|fail
    all_goals first|omega|(rw[M];exact⟨_,_,rfl,rfl⟩)|(rw[M];exact⟨⟨_,_,rfl,rfl⟩,λh=>h rfl⟩)|(rw[M];exact λ_=>⟨⟨_,_,rfl,rfl⟩,λh=>h rfl⟩)|(simp[M];done)
end
end Go.Proofs.YtmiiohemehacjaaGreatDoor
