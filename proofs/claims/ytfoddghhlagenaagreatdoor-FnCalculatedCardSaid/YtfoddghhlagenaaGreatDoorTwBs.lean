/- A deck that is drawn bent, a card of which is spoilt. -/
import Derived.Test.YtfoddghhlagenaaGreatDoorTwBp
import Derived.Test.YtfoddghhlagenaaGreatDoorVuZ
import Derived.Test.YtfoddghhlagenaaGreatDoorTwC
import Derived.Test.YtfoddghhlagenaaGreatDoorTwBq
set_option linter.all false
set_option maxHeartbeats 8000000
namespace Go.Proofs.YtfoddghhlagenaaGreatDoor
open Go.Vs
section
variable [Vs.Envs]
attribute [local irreducible] Vs.Fn nxV nxS pkV pkS ptN dtF kQ hoF hoR
open Go.Vs.Q in
def CdV.eO:aD:=s [mn 2] [0]<|s [m 6 0,o 7 (.call (.func F.aF) [6,(k 4)] [0]),o 8 (.bin .add (k 1) 7),m 3 8] [0,3]<|.seq (.naming 4 (.region [m 9 0,m 10 3,o 11 (.call (.func F.gZ) [9,10,(k 7)] [0]),m 4 11] [0,3,4] []))<|.seq (s [m 12 0,o 13 (.call (.func F.aF) [12,(k
 16)] [0])] [0,3,4,13]<|.block 0 (s [en 15 13 0,m 14 15] [0,3,4,13,14]<|.cond 14 (.naming 4 (.region [m 16 4,m 17 0,m 18 3,ad 19 18 1,o 20 (.call (.func F.dC) [17,19] [0]),o 21 (.bslice 1 1 [.v (.slice none 0 0)] [(0,20)]),o 22 (.append 1 24 16 21),m 4 22] [4] [])) (s [en 24 13 1,m 23 24]
 [0,4,13,23]<|.cond 23 (s [m 25 4,ln 26 25,o 27 (.bin .gtr 26 (k 0))] [0,4,27]<|.cond 27 (.region [m 28 0,m 29 4,m 30 0,m 31 4,ln 32 31,o 33 (.call (.func F.aF) [30,32] [0]),ix 34 1 29 33,o 35 (.call (.func F.jQ) [28,34] [0,1])] [4] []) .skip) (s [en 37 13 2,m 36 37]
 [0,4,36]<|.cond 36 (.seq (.naming 4 (.region [o 38 (.bslice 1 0 [.v (.slice none 0 0)] []),m 4 38] [0,4] []))<|s [m 39 0,o 40 (.call (.func F.aF) [39,(k 2)] [0]),o 41 (.bin .add (k 40) 40),m 5 41] [0,4,5]<|.block 1 (.loop (.seq (s [m 42 5,o 43 (.bin .gtr 42 (k 0))] [0,4,5,43]<|.cond
 43 .skip (.exit 1))<|.seq (.block 2 (.naming 4 (.region [m 46 4,m 47 0,o 48 (.call (.func F.dC) [47,(k 1)] [0]),o 49 (.bslice 1 1 [.v (.slice none 0 0)] [(0,48)]),o 50 (.append 1 24 46 49),m 4 50] [0,4,5] [])))<|.region [m 44 5,o 45 (.bin .sub 44 (k 1)),m 5 45] [0,4,5] []))) .skip))))<|s [m
 51 4,m 2 51] [2]<|.ret
theorem CdV.l02BentDeck_k:CK 75 Tryz.f75 CdV.eO 52 [.tmp 2]:=ck Tryz.func75
attribute [go_sem] CdV.eO
attribute [local go_sem] Int.reduceBEq Int.reduceBNe aJ List.replicate_succ List.replicate_zero List.flatten_cons List.flatten_nil List.cons_append List.nil_append List.set_cons_zero List.set_cons_succ List.length_cons List.length_nil List.length_set List.mem_singleton List.mem_cons List.not_mem_nil or_false false_or Vs.Name.t.injEq List.getD_cons_zero List.getD_cons_succ bW bX eF List.append_nil List.flatMap_cons List.flatMap_nil in
theorem zN (l:List Int) (y:Sr) (hl:byt l) (hp:y.p<=1500) (hno:pkV l (ddF l (1+pkV l y 4).toNat (pkV l (pkS l y 4) (7+1:Nat)).toNat (pkS l (pkS l y 4) (7+1:Nat)) []).2 16=1->(ddF l (1+pkV l y 4).toNat (pkV l (pkS l y 4) (7+1:Nat)).toNat (pkS l (pkS l y 4) (7+1:Nat)) []).1.length=0):∃(d:List (List Int)) (z:Sr),jK d∧z.p<=y.p+700∧Vs.Fn Tryz.prog F.jW [sB l y] [.ptr (.b 0) 0 0] (.sl 1 (E cC d)) [some (sB l z)]:=by
 rw[show(1+pkV l y 4).toNat=(1+pkV l y 4).toNat from rfl] at hno
 have hno0:=hno
 have P1:=pick l y hl 4 (by omega)
 have v1:=bC hl y (n:=4) (by omega)
 have q1:=aR l y 4
 generalize pkS l y 4=y1 at *
 obtain⟨nn,hn⟩:∃n:Nat,1+pkV l y 4=n:=⟨(1+pkV l y 4).toNat,by omega⟩
 have w1:IntKind.i64.wrap (1+pkV l y 4)=(nn:Int):=by rw[aG (by omega) (by omega)];exact hn
 have hn1:0<nn:=by omega
 have hn4:nn<=4:=by omega
 rw[hn,Int.toNat_natCast] at hno
 generalize pkV l y 4=r0 at *
 have DD:=iV l y1 hl nn hn1 (by omega) 7 (by omega) (by omega)
 rw[show((7:Nat):Int)=7 from rfl] at DD
 have vk:=bC hl y1 (n:=(7+1:Nat)) (by omega)
 have qk:=aR l y1 (7+1:Nat)
 obtain⟨k0,hk0⟩:∃k:Nat,(pkV l y1 (7+1:Nat)).toNat=k:=⟨_,rfl⟩
 have hk8:k0<=7:=by omega
 obtain⟨g1,g2,g3⟩:=xV l nn k0 (pkS l y1 (7+1:Nat)) [] (λc hc=>by cases hc)
 simp only[List.length_nil,Nat.zero_add] at g1
 have hm2:8*nn*k0<=32*7:=Nat.mul_le_mul (by omega) hk8
 rw[hk0] at DD hno
 generalize ddF l nn k0 (pkS l y1 (7+1:Nat)) []=R at *
 have hRl:(E cC R.1).length=R.1.length:=aJ _
 have hRt:(E cC R.1).take R.1.length=E cC R.1:=List.take_of_length_le (by rw[hRl];exact Nat.le_refl _)
 have hsm:jK R.1:=⟨by omega,λc hc=>by have:=g3 c hc;omega⟩
 have P3:=pick l R.2 hl 16 (by omega)
 have v3:=bC hl R.2 (n:=16) (by omega)
 have q3:=aR l R.2 16
 generalize pkV l R.2 16=r3 at *
 generalize pkS l R.2 16=y3 at *
 by_cases h0:r3=0
 .have e0:(r3==0)=true:=beq_iff_eq.2 h0
  have w2:IntKind.i64.wrap ((nn:Int)+1)=((nn+1:Nat):Int):=by rw[aG (by omega) (by omega)];omega
  have LD:=xK l y3 hl (nn+1) (by omega) (by omega) (by omega)
  have hq:=nI l (nn+1) y3 []
  generalize hoF l (nn+1) y3 []=H at *
  simp only[List.length_nil,Nat.zero_add] at hq
  have hap:E cC R.1++[[.sl 1 (E cI H.1)]]=E cC (R.1++[H.1]):=by rw[bR];rfl
  have hat:(E cC (R.1++[H.1])).take (R.1.length+1)=E cC (R.1++[H.1]):=List.take_of_length_le (by rw[aJ];simp)
  refine⟨R.1++[H.1],H.2,⟨by rw[List.length_append];simp;omega,λc hc=>?_⟩,by omega,?_⟩
  .rcases List.mem_append.1 hc with h|h
   .exact hsm.2 c h
   .rw[List.mem_singleton.1 h];omega
  refine fn1 CdV.l02BentDeck_k [.b 0] [sB l H.2] λX=>?_
  unfold CdV.eO
  repeat' first|simp -dsimp only[go_sem,e0,w2,hap,hat,hRl,cC,sB,w1]|apply Br.mk<;>intro h<;>try simp -dsimp only[h]|refine aB.bor (by first|exact P1|exact DD|exact P3|exact LD) rfl ?_|refine aC ?_|refine aC9 ?_|fail
  all_goals first|omega|exact⟨_,_,rfl,rfl⟩|(exfalso;simp at h;done)
 have e0:(r3==0)=false:=beq_eq_false_iff_ne.2 h0
 by_cases h1:r3=1
 .have e1:(r3==1)=true:=beq_iff_eq.2 h1
  have hl0:R.1.length=0:=hno h1
  have hR0:R.1=[]:=List.eq_nil_of_length_eq_zero hl0
  rw[hR0] at DD hRl hRt
  simp only[List.length_nil] at DD hRl hRt
  refine⟨[],y3,⟨by simp,λc hc=>by cases hc⟩,by omega,?_⟩
  refine fn1 CdV.l02BentDeck_k [.b 0] [sB l y3] λX=>?_
  unfold CdV.eO
  repeat' first|simp -dsimp only[go_sem,e0,e1,hRl,hRt,cC,sB,w1]|apply Br.mk<;>intro h<;>try simp -dsimp only[h]|refine aB.bor (by first|exact P1|exact DD|exact P3) rfl ?_|refine aC ?_|refine aC9 ?_|fail
  all_goals first|omega|exact⟨_,_,rfl,rfl⟩|(exfalso;simp at h;done)
 have e1:(r3==1)=false:=beq_eq_false_iff_ne.2 h1
 by_cases h2:r3=2
 .have e2:(r3==2)=true:=beq_iff_eq.2 h2
  have P5:=pick l y3 hl 2 (by omega)
  have v5:=bC hl y3 (n:=2) (by omega)
  have q5:=aR l y3 2
  obtain⟨k1,hk1⟩:∃k:Nat,40+pkV l y3 2=k:=⟨(40+pkV l y3 2).toNat,by omega⟩
  have w5:IntKind.i64.wrap (40+pkV l y3 2)=(k1:Int):=by rw[aG (by omega) (by omega)];exact hk1
  generalize pkV l y3 2=r5 at *
  generalize pkS l y3 2=y5 at *
  obtain⟨f1,f2,f3⟩:=xV l 1 k1 y5 [] (λc hc=>by cases hc)
  simp only[List.length_nil,Nat.zero_add,Nat.mul_one] at f1 f2
  generalize hQ:ddF l 1 k1 y5 []=Q at *
  have hQt:(E cC Q.1).take Q.1.length=E cC Q.1:=List.take_of_length_le (by rw[aJ];exact Nat.le_refl _)
  refine⟨Q.1,Q.2,⟨by omega,λc hc=>by have:=f3 c hc;omega⟩,by omega,?_⟩
  refine fn1 CdV.l02BentDeck_k [.b 0] [sB l Q.2] λX=>?_
  unfold CdV.eO
  repeat' first|simp -dsimp only[go_sem,e0,e1,e2,w5,hRl,cC,sB,w1]|apply Br.mk<;>intro h<;>try simp -dsimp only[h]|refine aB.bor (by first|exact P1|exact DD|exact P3|exact P5) rfl ?_|refine aC ?_|refine aC9 ?_|fail
  refine bA.at dM (X:={zz:Nat×Sr×List (List Int) // (zz.2.1.p+8*zz.1<=2950)∧(zz.1+zz.2.2.length=k1)∧ddF l 1 zz.1 zz.2.1 zz.2.2=Q}) (λzz=>[(4,.loc (.t 4 0) 0 zz.1.2.2.length),(5,.v (.int .i64 (zz.1.1:Nat)))]) (λzz=>[(.b 0,sB l zz.1.2.1),(.t 4 0,.arr 1 (E cC zz.1.2.2) false)]) (λzz=>zz.1.1) ⟨(k1,y5,[]),by dsimp only;omega,by dsimp only;simp only[List.length_nil];omega,hQ⟩ ?_ ?_
  .simp[Vs.LeL,Vs.look,Vs.aA,Vs.bL,Vs.aO,Vs.hset,Vs.aP,Vs.E,sB]
  .rintro⟨⟨k,y,o⟩,hk1,hk2,hr⟩
   dsimp only at hk1 hk2 hr
   simp -dsimp only[go_sem,cC,sB]
   refine Br.mk (λhc=>?_) λhc=>?_
   .obtain⟨k,rfl⟩:∃j,k=j+1:=⟨k-1,by simp at hc;omega⟩
    have w:=aCA (k:=k) (by omega)
    have hf:=xK l y hl 1 (by omega) (by omega) (by omega)
    rw[show((1:Nat):Int)=1 from rfl] at hf
    have hq:=(nI l 1 y []).2
    rw[ddF] at hr
    generalize hoF l 1 y []=H at *
    have hap:E cC o++[[.sl 1 (E cI H.1)]]=E cC (o++[H.1]):=by rw[bR];rfl
    repeat' first|simp -dsimp only[go_sem,w,hap,cC,sB]|apply Br.mk<;>intro h<;>try simp -dsimp only[h]|refine aB.bor (by first|exact hf) rfl ?_|refine aC ?_|refine aC9 ?_|fail
    all_goals first|omega|(refine⟨⟨(k,H.2,o++[H.1]),by dsimp only;omega,by dsimp only;rw[List.length_append];simp only[List.length_cons,List.length_nil];omega,hr⟩,?_,by simp only;omega⟩;simp[Vs.LeL,Vs.look,Vs.aA,Vs.bL,Vs.aO,Vs.hset,Vs.aP,Vs.E,sB,cC];done)
   .obtain rfl:k=0:=by simp at hc;omega
    rw[ddF] at hr
    subst hr
    dsimp only at *
    simp -dsimp only[go_sem,hQt,cC,sB]
    first|exact⟨⟨_,_,rfl,rfl⟩,λh=>absurd rfl h⟩|exact⟨⟨_,_,rfl,rfl⟩,λh=>h rfl⟩|exact⟨_,_,rfl,rfl⟩
 have e2:(r3==2)=false:=beq_eq_false_iff_ne.2 h2
 refine⟨R.1,y3,hsm,by omega,?_⟩
 refine fn1 CdV.l02BentDeck_k [.b 0] [sB l y3] λX=>?_
 unfold CdV.eO
 repeat' first|simp -dsimp only[go_sem,e0,e1,e2,hRl,hRt,cC,sB,w1]|apply Br.mk<;>intro h<;>try simp -dsimp only[h]|refine aB.bor (by first|exact P1|exact DD|exact P3) rfl ?_|refine aC ?_|refine aC9 ?_|fail
 all_goals first|omega|exact⟨_,_,rfl,rfl⟩|(exfalso;simp at h;done)
end
section
variable [Vs.Envs]
attribute [local irreducible] Vs.Fn nxV nxS pkV pkS ptN dtF kQ hoF hoR
open Go.Vs.Q in
def CdV.l02BentDeckN:aD:=s [mn 2] [0]<|s [m 6 0,o 7 (.call (.func F.aF) [6,(k 4)] [0]),o 8 (.bin .add (k 1) 7),m 3 8] [0,3]<|.seq ((.region [m 9 0,m 10 3,o 11 (.call (.func F.gZ) [9,10,(k 7)] [0]),m 4 11] [0,3,4] []))<|.seq (s [m 12 0,o 13 (.call (.func F.aF) [12,(k 16)] [0])]
 [0,3,4,13]<|.block 0 (s [en 15 13 0,m 14 15] [0,3,4,13,14]<|.cond 14 ((.region [m 16 4,m 17 0,m 18 3,ad 19 18 1,o 20 (.call (.func F.dC) [17,19] [0]),o 21 (.bslice 1 1 [.v (.slice none 0 0)] [(0,20)]),o 22 (.append 1 24 16 21),m 4 22] [4] [])) (s [en 24 13 1,m 23 24] [0,4,13,23]<|.cond 23
 (s [m 25 4,ln 26 25,o 27 (.bin .gtr 26 (k 0))] [0,4,27]<|.cond 27 (.region [m 28 0,m 29 4,m 30 0,m 31 4,ln 32 31,o 33 (.call (.func F.aF) [30,32] [0]),ix 34 1 29 33,o 35 (.call (.func F.jQ) [28,34] [0,1])] [4] []) .skip) (s [en 37 13 2,m 36 37] [0,4,36]<|.cond 36 (.seq
 ((.region [o 38 (.bslice 1 0 [.v (.slice none 0 0)] []),m 4 38] [0,4] []))<|s [m 39 0,o 40 (.call (.func F.aF) [39,(k 2)] [0]),o 41 (.bin .add (k 40) 40),m 5 41] [0,4,5]<|.block 1 (.loop (.seq (s [m 42 5,o 43 (.bin .gtr 42 (k 0))] [0,4,5,43]<|.cond 43 .skip (.exit 1))<|.seq (.block 2
 ((.region [m 46 4,m 47 0,o 48 (.call (.func F.dC) [47,(k 1)] [0]),o 49 (.bslice 1 1 [.v (.slice none 0 0)] [(0,48)]),o 50 (.append 1 24 46 49),m 4 50] [0,4,5] [])))<|.region [m 44 5,o 45 (.bin .sub 44 (k 1)),m 5 45] [0,4,5] []))) .skip))))<|s [m 51 4,m 2 51] [2]<|.ret
theorem CdV.l02BentDeckN_k:CK 75 Tryz.f75 CdV.l02BentDeckN 52 [.tmp 2]:=ck Tryz.func75
attribute [go_sem] CdV.l02BentDeckN
attribute [local go_sem] Int.reduceBEq Int.reduceBNe aJ List.replicate_succ List.replicate_zero List.flatten_cons List.flatten_nil List.cons_append List.nil_append List.set_cons_zero List.set_cons_succ List.length_cons List.length_nil List.length_set List.mem_singleton List.mem_cons List.not_mem_nil or_false false_or Vs.Name.t.injEq List.getD_cons_zero List.getD_cons_succ bW bX eF List.append_nil List.flatMap_cons List.flatMap_nil List.getElem?_cons_zero List.getElem?_cons_succ in
theorem aDa (l:List Int) (y:Sr) (hl:byt l) (hp:y.p<=1500) (h16:pkV l (ddF l (1+pkV l y 4).toNat (pkV l (pkS l y 4) (7+1:Nat)).toNat (pkS l (pkS l y 4) (7+1:Nat)) []).2 16=1) (hlen:(ddF l (1+pkV l y 4).toNat (pkV l (pkS l y 4) (7+1:Nat)).toNat (pkS l (pkS l y 4) (7+1:Nat)) []).1.length≠0):∃(d:List (List Int)) (z:Sr),jK d∧z.p<=y.p+700∧Vs.Fn Tryz.prog F.jW [sB l y] [.ptr (.b 0) 0 0] (.sl 1 (E cC d)) [some (sB l z)]:=by
 have P1:=pick l y hl 4 (by omega)
 have v1:=bC hl y (n:=4) (by omega)
 have q1:=aR l y 4
 generalize pkS l y 4=y1 at *
 obtain⟨nn,hn⟩:∃n:Nat,1+pkV l y 4=n:=⟨(1+pkV l y 4).toNat,by omega⟩
 have w1:IntKind.i64.wrap (1+pkV l y 4)=(nn:Int):=by rw[aG (by omega) (by omega)];exact hn
 have hn1:0<nn:=by omega
 have hn4:nn<=4:=by omega
 rw[hn,Int.toNat_natCast] at h16 hlen
 generalize pkV l y 4=r0 at *
 have HBd:=(iV l y1 hl nn hn1 (by omega) 7 (by omega) (by omega)).has
 have DN:=@wD _ l y1 hl nn hn1 (by omega) 7 (by omega) (by omega)
 have vk:=bC hl y1 (n:=(7+1:Nat)) (by omega)
 have qk:=aR l y1 (7+1:Nat)
 obtain⟨k0,hk0⟩:∃k:Nat,(pkV l y1 (7+1:Nat)).toNat=k:=⟨_,rfl⟩
 have hk8:k0<=7:=by omega
 obtain⟨g1,g2,g3⟩:=xV l nn k0 (pkS l y1 (7+1:Nat)) [] (λc hc=>by cases hc)
 simp only[List.length_nil,Nat.zero_add] at g1
 have hm2:8*nn*k0<=32*7:=Nat.mul_le_mul (by omega) hk8
 rw[hk0] at DN h16 hlen
 generalize ddF l nn k0 (pkS l y1 (7+1:Nat)) []=R at *
 have P3:=pick l R.2 hl 16 (by omega)
 have q3:=aR l R.2 16
 rw[h16] at P3
 generalize pkS l R.2 16=y3 at *
 have P5:=pick l y3 hl (R.1.length:Nat) (by omega)
 have v5:=bC hl y3 (n:=(R.1.length:Nat)) (by omega)
 have q5:=aR l y3 (R.1.length:Nat)
 obtain⟨j,hj⟩:∃j:Nat,pkV l y3 (R.1.length:Nat)=j:=⟨(pkV l y3 (R.1.length:Nat)).toNat,by omega⟩
 rw[hj] at P5 v5
 generalize pkS l y3 (R.1.length:Nat)=y5 at *
 have HBs:=(jD l y5 hl [] (by simp) (by omega))
 obtain⟨_,_,_,_,_,_,HBs⟩:=HBs
 have HBs:=(HBs [] [] (by simp)).has
 obtain⟨d',z,hd1,hd2,hz,SP⟩:=aDj l y5 hl R.1 (λc hc=>by have:=g3 c hc;omega) (by omega) j (by omega) (by omega)
 refine⟨d',z,⟨by omega,λc hc=>by have:=hd2 c hc;omega⟩,by omega,?_⟩
 obtain⟨h1,h2,h3⟩:=CdV.l02BentDeckN_k.o
 obtain⟨body,hb,hc⟩:=Option.bind_eq_some_iff.1 h2
 have hzz:(Tryz.f75.body.map (zB Tryz.f75.ntmps (bV Tryz.prog)))=some true:=by kernel_rfl
 rw[hb] at hzz
 have hdr:=jH Tryz.mixed
 refine Vs.Fn.of_atB (dr:=bV Tryz.prog) (ac:=CdV.l02BentDeckN) h1 hb (by simpa using h3) hc (by simpa using hzz) (by rw[CdV.l02BentDeckN_k.n];exact Nat.le_of_ble_eq_true rfl) λS w ρ0_ κ0_ a hok=>?_
 generalize hC0:(⟨Tryz.f75.ntmps,w,S,nD ρ0_ [sB l y],λj=>ρ0_ (.b j),λj=>κ0_ (.b j),λj=>[sB l y][j]?⟩:Ctx)=C0 at hok
 have hnt:C0.nt=Tryz.f75.ntmps:=by rw[←hC0]
 have hlt:∀t,t<52->t<C0.nt:=λt ht=>by rw[hnt,CdV.l02BentDeckN_k.n];exact ht
 have hsrc:∀{σ:FSt}{a:Act}{w:World}{S:Nat->Prop}{ρ:Vs.Name->Option Nat}{κ:Vs.Name->Nat}{yy:Sr},OK C0 σ a w S ρ κ->σ.h (.b 0)=some (sB l yy)->∀b,C0.Mut b->ρ (.b 0)=some b:=by
  intro σ a w S ρ κ yy hok h0 b hm
  rw[←hC0] at hm hok
  obtain⟨i,hi,hix⟩:=hm
  have hi0:i=0:=by simpa using hi
  subst hi0
  exact(hok.keep 0 (sB l yy) h0).1.trans hix
 unfold CdV.l02BentDeckN
 refine At.step ⟨[(0,.ptr (.b 0) 0 0)],[(.b 0,sB l y)]⟩ hdr hok hnt ?_ λa wA S1 ρ1 κ1 hok=>?_
 .simp -dsimp only[go_sem,cC,sB,w1]
  try simp[Vs.LeL,Vs.look,Vs.aA,sB]
 refine At.step ⟨[(0,.ptr (.b 0) 0 0),(3,.v (.int .i64 nn))],[(.b 0,sB l y1)]⟩ hdr hok hnt ?_ λa wB S2 ρ2 κ2 hok=>?_
 .simp -dsimp only[go_sem,cC,sB,w1]
  refine And.intro rfl ?_
  refine aB.bor (by exact P1) rfl ?_
  simp -dsimp only[go_sem,cC,sB,w1]
  try simp[Vs.LeL,Vs.look,Vs.aA,sB]
 refine At.seq (At.rg (RgL.fwN (K:=fun σ'=>LeL σ' ⟨[(9,.ptr (.b 0) 0 0),(10,.v (.int .i64 nn)),(0,.ptr (.b 0) 0 0),(3,.v (.int .i64 nn))],[(.b 0,sB l y1)]⟩) (pre:=[⟨some 9,.mv (.tmp 0),none⟩,⟨some 10,.mv (.tmp 3),none⟩]) (post:=[⟨some 11,.call (.func F.gZ) [(.tmp 9),(.tmp 10),(.const (.int .i64 (7)))] [0],none⟩,⟨some 4,.mv (.tmp 11),none⟩]) hnt hok ?_ fun σ' a w S ρ κ hle hok=>?_))
 .simp -dsimp only[go_sem,cC,sB,w1]
  try simp[Vs.LeL,Vs.look,Vs.aA,sB]
 replace hok:=hok.le hle
 clear hle
 refine RgL.op rfl λop ops hcop=>?_
 refine zS (C:=C0) (by rw[hnt];exact hcop) rfl hok HBd ?_
 have hwC:=hok.size
 refine(vX (X:=λv w' S' _ _=>∃ss xs cs x0 c0,aFP w w' S' R.1 v ss xs cs x0 c0) (d:=11) (xs:=[.ptr (.b 0) 0 0,.v (.int .i64 nn),.v (.int .i64 7)]) (ys:=[.ptr (.b 0) 0 0,.v (.int .i64 nn),.v (.int .i64 7)]) (B:=[.b 0]) (L1:=[]) (L2:=[]) (hin:=[sB l y1]) (r:=.junk) (hout:=[some (sB l R.2)]) (fz:=true) hok (by simp) rfl rfl (λh=>by cases h) (λj h1 h2=>by simp at h1 h2;omega) rfl (λi hi=>?_) (λS1 ρ1 κ1 q1 q2 q3 q4 q5 q6=>(DN q1 q5 q6).mono ?_)).mono ?_
 .match i,hi with
  |0,_=>exact hok.ev (.tmp 9)
  |1,_=>exact hok.ev (.tmp 10)
  |2,_=>exact .clo (.v _)
 .rintro e w' ⟨v,S',ρ',κ',rfl,hpo,ss,xs,cs,x0,c0,hD⟩
  exact⟨v,S',ρ',κ',rfl,hpo,.junk _,ss,xs,cs,x0,c0,hD⟩
 rintro e w' ⟨v,S2,ρ2,κ2,S',ρ',κ',rfl,hok2,_,hsub,_,ss,xs,cs,x0,c0,hD⟩
 refine⟨v,rfl,?_⟩
 have hlS:ss.length=R.1.length:=by rw[←hD.rows.len];simp
 have hok3:OK C0 (⟨[(11,.v v),(0,.ptr (.b 0) 0 0),(3,.v (.int .i64 nn))],[(.b 0,sB l R.2)]⟩:St).f (a.put (some 11) v) w' S2 ρ2 κ2:=by
  refine(hok2.put (x:=.v v) (v:=v) (.clo (.v v)) (d:=some 11) (λd' h=>by cases h;exact hlt 11 (by omega))).less (λt=>?_) λm b hm=>?_
  .simp only[St.f,Vs.look,upd]
   by_cases h11:t=11
   .subst h11;simp
   .by_cases h0:t=0
    .subst h0;simp
    .by_cases h3:t=3
     .subst h3;simp
     .simp[h11,h0,h3]
  .simp only[St.f,aA] at hm
   split at hm
   .rename_i h
    have hm0:m=.b 0:=by first|exact h|exact h.symm
    subst hm0
    rw[←hm]
    simp[Vs.aft,Vs.gB,sB,Vs.rnB,Vs.rnL,Vs.rn]
   .cases hm
 have hrow0:Own S2 w' x0 c0 1 (ss.map λs=>[AV.v s]) v:=hD.root.mono (λb hb hs=>hD.root.notS hb (hsub b hs)) λ_ _=>rfl
 have hsm:∀b,ρ2 (.b 0)=some b->b<w.heap.size:=λb he=>by
  have h1:=(hok3.keep 0 (sB l R.2) rfl).1
  have h2:=(hok.keep 0 (sB l y1) rfl).1
  exact hok.hok.lt (n:=.b 0) (by rfl) ((h2.trans h1.symm).trans he)
 have hok4:=hok3.adopt (n:=.t 11 0) rfl hrow0 (λb hb=>⟨λm hm he=>by
     have:b<w.heap.size:=by
       have hm0:m=.b 0:=by
         obtain⟨bb,hbb⟩:=Option.isSome_iff_exists.1 hm
         simp only[St.f,aA] at hbb
         split at hbb
         . rename_i h;first|exact h|exact h.symm
         . cases hbb
       subst hm0
       exact hsm b he
     have:=(hD.new0 b hb).1
     omega,.inl (by have:=(hD.new0 b hb).1;omega)⟩) (t:=11) (by simp[Act.put,hok.nt,hlt 11 (by omega)])
 rw[List.length_map] at hok4
 replace hok4:=hok4.le (σ':=⟨[(11,.loc (.t 11 0) 0 ss.length),(0,.ptr (.b 0) 0 0),(3,.v (.int .i64 nn))],[(.t 11 0,.arr 1 (ss.map λs=>[AV.v s]) false),(.b 0,sB l R.2)]⟩) (by simp[Vs.LeL,Vs.look,Vs.aA,sB])
 obtain⟨ρ4,κ4,hρ4,hρ0,hok4⟩:∃ρ4 κ4,ρ4 (.t 11 0)=x0∧ρ4 (.b 0)=ρ2 (.b 0)∧OK C0 (⟨[(11,.loc (.t 11 0) 0 ss.length),(0,.ptr (.b 0) 0 0),(3,.v (.int .i64 nn))],[(.t 11 0,.arr 1 (ss.map λs=>[AV.v s]) false),(.b 0,sB l R.2)]⟩:St).f (a.put (some 11) v) w' S2 ρ4 κ4:=⟨_,_,if_pos rfl,if_neg (by decide),hok4⟩
 have hh:=hok4.hid (D:=λb=>∃i,i<ss.length∧xs i=some b) (λb ⟨i,hi,hb⟩=>(hD.new i b hi hb).2) (λb ⟨i,hi,hb⟩ hs=>(hD.rows.row i hi).notS hb (hsub b hs)) (λb ⟨i,hi,hb⟩ m hm he=>by
     obtain⟨bb,hbb⟩:=Option.isSome_iff_exists.1 hm
     simp only[St.f,aA] at hbb
     split at hbb
     . rename_i h
       have hm0:m=.t 11 0:=by first|exact h|exact h.symm
       subst hm0
       rw[hρ4] at he
       exact(hD.new0 b he).2.2 i hi hb
     . split at hbb
       . rename_i h
         have hm0:m=.b 0:=by first|exact h|exact h.symm
         subst hm0
         rw[hρ0] at he
         have h1:=hsm b he
         have h2:=(hD.new i b hi hb).1
         omega
       . cases hbb)
 have hl1:=hok4.later
 have hok5:=hok4.anew
 have how:=hD.rows.mono (S':=S2) (w':=w') (λi b hi hb hs=>(hD.rows.row i hi).notS hb (hsub b hs)) (λ_ _ _ _=>rfl)
 have hge:∀i b,i<ss.length->xs i=some b->C0.w0.heap.size<=b:=λi b hi hb=>by have:=(hD.new i b hi hb).1;omega
 rw[←hlS] at P5
 have hgt:decide ((ss.length:Int)>0)=true:=decide_eq_true (by omega)
 have hjs:j<ss.length:=by omega
 have hjs2:(j:Int)<ss.length:=by omega
 generalize hC1:C0.anew w' S2 _ ρ4=C1 at hok5 hh hl1
 have hw1:C1.w0=w':=by rw[←hC1];rfl
 have hnt1:C1.nt=Tryz.f75.ntmps:=by rw[←hC1];exact hnt
 refine RgL.fwN (C:=C1) (K:=fun σ'=>LeL σ' ⟨[(0,.ptr (.b 0) 0 0),(4,.loc (.t 11 0) 0 ss.length)],[(.t 11 0,.arr 1 (ss.map λs=>[AV.v s]) false),(.b 0,sB l R.2)]⟩) (pre:=[⟨some 4,.mv (.tmp 11),none⟩]) (post:=[]) hnt1 hok5 ?_ fun σ' a w S ρ κ hle hok=>?_
 .simp -dsimp only[go_sem,cC,sB,w1]
  try simp[Vs.LeL,Vs.look,Vs.aA,sB]
 replace hok:=hok.le hle
 clear hle
 refine RgL.nil ?_
 show At Tryz.prog _ _ (.seq _ _) _ a w
 refine At.seq (At.step ⟨[(0,.ptr (.b 0) 0 0),(4,.loc (.t 11 0) 0 ss.length),(13,.v (.int .i64 1))],[(.t 11 0,.arr 1 (ss.map λs=>[AV.v s]) false),(.b 0,sB l y3)]⟩ hdr hok hnt1 ?_ λa w S ρ κ hok=>?_)
 .simp -dsimp only[go_sem,cC,sB,w1]
  refine And.intro rfl ?_
  refine aB.bor (by exact P3) rfl ?_
  simp -dsimp only[go_sem,cC,sB,w1]
  try simp[Vs.LeL,Vs.look,Vs.aA,sB]
 refine At.block (At.step ⟨[(0,.ptr (.b 0) 0 0),(4,.loc (.t 11 0) 0 ss.length),(13,.v (.int .i64 1)),(14,.v (.bool false))],[(.t 11 0,.arr 1 (ss.map λs=>[AV.v s]) false),(.b 0,sB l y3)]⟩ hdr hok hnt1 ?_ λa w S ρ κ hok=>?_)
 .simp -dsimp only[go_sem,cC,sB,w1]
  try simp[Vs.LeL,Vs.look,Vs.aA,sB]
 refine At.cond (t:=false) (aZ (hok.ev (.tmp 14))) (λh=>by cases h) λ_=>?_
 refine At.step ⟨[(0,.ptr (.b 0) 0 0),(4,.loc (.t 11 0) 0 ss.length),(23,.v (.bool true))],[(.t 11 0,.arr 1 (ss.map λs=>[AV.v s]) false),(.b 0,sB l y3)]⟩ hdr hok hnt1 ?_ λa w S ρ κ hok=>?_
 .simp -dsimp only[go_sem,cC,sB,w1]
  try simp[Vs.LeL,Vs.look,Vs.aA,sB]
 refine At.cond (t:=true) (aZ (hok.ev (.tmp 23))) (λ_=>?_) λh=>by cases h
 refine At.step ⟨[(0,.ptr (.b 0) 0 0),(4,.loc (.t 11 0) 0 ss.length),(27,.v (.bool true))],[(.t 11 0,.arr 1 (ss.map λs=>[AV.v s]) false),(.b 0,sB l y3)]⟩ hdr hok hnt1 ?_ λa w S ρ κ hok=>?_
 .simp -dsimp only[go_sem,cC,sB,w1]
  first|(simp[Vs.LeL,Vs.look,Vs.aA,sB,hgt];done)|(simp[Vs.LeL,Vs.look,Vs.aA,sB,hgt];omega)
 refine At.cond (t:=true) (aZ (hok.ev (.tmp 27))) (λ_=>?_) λh=>by cases h
 refine At.rg (RgL.fwN (C:=C1) (K:=fun σ'=>LeL σ' ⟨[(28,.ptr (.b 0) 0 0),(34,.ptr (.t 11 0) j 0),(4,.loc (.t 11 0) 0 ss.length)],[(.t 11 0,.arr 1 (ss.map λs=>[AV.v s]) false),(.b 0,sB l y5)]⟩) (pre:=[⟨some 28,.mv (.tmp 0),none⟩,⟨some 29,.mv (.tmp 4),none⟩,⟨some 30,.mv (.tmp 0),none⟩,⟨some 31,.mv (.tmp 4),none⟩,⟨some 32,.len (.tmp 31),none⟩,⟨some 33,.call (.func F.aF) [(.tmp 30),(.tmp 32)] [0],none⟩,⟨some 34,.idxSl 1 (.tmp 29) (.tmp 33),none⟩]) (post:=[⟨some 35,.call (.func F.jQ) [(.tmp 28),(.tmp 34)] [0,1],none⟩]) hnt1 hok ?_ fun σ' a w S ρ κ hle hok=>?_)
 .simp -dsimp only[go_sem,cC,sB,w1]
  refine And.intro rfl ?_
  refine aB.bor (by exact P5) rfl ?_
  simp -dsimp only[go_sem,cC,sB,w1]
  first|exact⟨⟨by omega,by omega⟩,by simp[Vs.LeL,Vs.look,Vs.aA,sB]⟩
 replace hok:=hok.le hle
 clear hle
 refine RgL.op rfl λop ops hcop=>zS (C:=C1) (by rw[hnt1];exact hcop) rfl hok HBs ?_
 have hokB:=hok.back hl1
 have hRn:∀b,ρ (.t 11 0)=some b->C0.w0.heap.size<=b:=λb hb=>(hokB.mine (.t 11 0) b (by rfl) hb).elim id λhm=>by
  have h1:=hsrc hokB rfl b hm
  have:=hokB.hok.inj (.t 11 0) (.b 0) b (by rfl) (by rfl) hb h1
  cases this
 refine(SP hokB rfl rfl (how.mono (S':=S) (w':=w) (λi b hi hb=>(hh.same hok).2.2.1 b ⟨i,hi,hb⟩) (λi b hi hb=>by have:=(hh.same hok).1 b ⟨i,hi,hb⟩;rw[hw1] at this;exact this)) (λi b hi hb=>⟨hge i b hi hb,(hh.same hok).2.1 b ⟨i,hi,hb⟩,(hh.same hok).2.2.2 b ⟨i,hi,hb⟩⟩) hRn (hokB.slots 4) (hokB.ev (.tmp 28)) (hokB.ev (.tmp 34))).mono ?_
 rintro e w' ⟨u,S',rfl,hok6⟩
 refine⟨u,rfl,RgL.nil ?_⟩
 simp only[Exit.inBlock,Exit.then]
 have hok7:OK C0 (⟨[(4,.sl 1 (E cC d'))],[(.b 0,sB l z)]⟩:St).f (a.put (some 35) u) w' S' ρ κ:=by
  refine(hok6.put (x:=.junk) (v:=u) (.junk u) (d:=some 35) (λd' h=>by cases h;exact hlt 35 (by omega))).less (λt=>?_) λ_ _ h=>h
  by_cases h35:t=35
  .subst h35
   exact .inr (by simp[St.f,Vs.look])
  .exact .inl (by simp[upd,h35])
 refine At.step ⟨[(2,.sl 1 (E cC d'))],[(.b 0,sB l z)]⟩ hdr hok7 hnt ?_ λa w S ρ κ hok=>?_
 .simp -dsimp only[go_sem,cC,sB,w1]
  try simp[Vs.LeL,Vs.look,Vs.aA,sB]
 refine At.ret ⟨.inl rfl,hok.defers,?_⟩
 obtain ⟨x,v,hx,hxv,hrun⟩:=Vs.wH hok (fn:=Tryz.f75) (K:=λx=>x=.sl 1 (E cC d')) (by
   show Vs.tL Tryz.prog _ _ [_]
   simp[Vs.tL,Vs.aBl,Vs.look,Vs.tT])
 subst hx
 rw[←hC0] at hok
 exact ⟨v,S,ρ,κ,hrun,OK.post (hout:=[sB l z]) hok (λn b hb=>by
   obtain⟨rfl,rfl⟩:=yM hb
   exact⟨rfl,wU l z⟩),.clo (hxv.closed rfl)⟩
theorem eO (l:List Int) (y:Sr) (hl:byt l) (hp:y.p<=1500):∃(d:List (List Int)) (z:Sr),jK d∧z.p<=y.p+700∧Vs.Fn Tryz.prog F.jW [sB l y] [.ptr (.b 0) 0 0] (.sl 1 (E cC d)) [some (sB l z)]:=by
 by_cases h16:pkV l (ddF l (1+pkV l y 4).toNat (pkV l (pkS l y 4) (7+1:Nat)).toNat (pkS l (pkS l y 4) (7+1:Nat)) []).2 16=1
 .by_cases hlen:(ddF l (1+pkV l y 4).toNat (pkV l (pkS l y 4) (7+1:Nat)).toNat (pkS l (pkS l y 4) (7+1:Nat)) []).1.length=0
  .exact zN l y hl hp λ_=>hlen
  .exact aDa l y hl hp h16 hlen
 .exact zN l y hl hp λh=>absurd h h16
end
end Go.Proofs.YtfoddghhlagenaaGreatDoor
