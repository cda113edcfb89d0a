/- A flow run by the reference: its trays handed over. -/
import Derived.Test.YtklmdppgonhflaaGreatDoorXwBb
import Derived.Test.YtklmdppgonhflaaGreatDoorXwJa
set_option linter.all false
set_option maxHeartbeats 8000000
namespace Go.Proofs.YtklmdppgonhflaaGreatDoor
open Go.Vs
section
variable [Vs.Envs]
attribute [local irreducible] Vs.Fn nxV nxS pkV pkS pt crd gG dtF jD
open Go.Vs.Q in
def CdV.l15DrawFlow:aD:=s [mn 2] [0]<|.seq (.naming 3 (.region [o 8 (.bslice 9 0 [.v (.int .i64 (0)),.v (.int .i64 (0)),.v (.int .i64 (0)),.v (.int .i64 (0)),.v (.int .i64 (0)),.v (.int .i64 (0)),.v (.int .i64 (0)),.v (.int .i64 (0)),.v (.string ⟨#[]⟩)] []),m 3 8] [0,3] []))<|.seq (s [m 9 0,o 10 (.call (.func
 F.bA) [9,(k 2)] [0])] [0,3,10]<|.cond 10 (s [m 11 0,o 12 (.call (.func F.aF) [11,(k 3)] [0]),m 4 12] [0,3,4]<|.naming 3 (.region [m 13 3,o 14 (.build [.v (.int .i64 (0)),.v (.int .i64 (0))] [(1,1,(k 1))]),m 15 4,o 16 (.build [.v (.int .i64 (0)),.v (.int .i64 (0)),.v
 (.int .i64 (0)),.v (.int .i64 (0)),.v (.int .i64 (0)),.v (.int .i64 (0)),.v (.int .i64 (0)),.v (.int .i64 (0)),.v (.string ⟨#[]⟩)] [(0,1,(k 1)),(4,2,14),(3,1,15)]),o 17 (.bslice 9 1 [.v (.int .i64 (0)),.v (.int .i64 (0)),.v (.int .i64 (0)),.v (.int .i64 (0)),.v (.int .i64 (0)),.v (.int .i64 (0)),.v
 (.int .i64 (0)),.v (.int .i64 (0)),.v (.string ⟨#[]⟩)] [(0,16)]),o 18 (.append 9 80 13 17),m 3 18] [0,3] [])) .skip)<|.seq (s [m 19 0,o 20 (.call (.func F.aF) [19,(k 6)] [0]),m 5 20] [0,3,5]<|.block 0 (.loop (.seq (s [m 21 5,o 22 (.bin .gtr 21 (k 0))] [0,3,5,22]<|.cond 22 .skip
 (.exit 0))<|.seq (.block 1 (.naming 3 (.region [m 25 3,m 26 0,o 27 (.call (.func F.fV) [26] [0]),o 28 (.bslice 9 1 [.v (.int .i64 (0)),.v (.int .i64 (0)),.v (.int .i64 (0)),.v (.int .i64 (0)),.v (.int .i64 (0)),.v (.int .i64 (0)),.v (.int .i64 (0)),.v (.int .i64 (0)),.v (.string ⟨#[]⟩)]
 [(0,27)]),o 29 (.append 9 80 25 28),m 3 29] [0,3,5] [])))<|.region [m 23 5,o 24 (.bin .sub 23 (k 1)),m 5 24] [0,3,5] [])))<|s [m 30 3,ln 31 30,m 6 31] [0,3,6]<|.seq (s [m 32 6,o 33 (.bin .gtr 32 (k 0)),m 34 33,mg 35 0 34 true,⟨some 36,.call (.func F.bA) [35,(k 10)] [0],some
 (34,true)⟩,pf 37 34 36] [0,3,6,37]<|.cond 37 (.region [m 38 0,m 39 3,m 40 0,m 41 6,o 42 (.call (.func F.aF) [40,41] [0]),ix 43 9 39 42,o 44 (.call (.func F.lD) [38,43] [0,1])] [0,3] []) .skip)<|.seq (s [m 45 0,o 46 (.call (.func F.bA) [45,(k 24)] [0])]
 [0,3,46]<|.cond 46 (.seq (.naming 3 (.region [o 47 (.bslice 9 0 [.v (.int .i64 (0)),.v (.int .i64 (0)),.v (.int .i64 (0)),.v (.int .i64 (0)),.v (.int .i64 (0)),.v (.int .i64 (0)),.v (.int .i64 (0)),.v (.int .i64 (0)),.v (.string ⟨#[]⟩)] []),m 3 47] [0,3] []))<|s [m 48 0,o 49 (.call (.func
 F.aF) [48,(k 2)] [0]),o 50 (.bin .add (k 20) 49),m 7 50] [3,7]<|.block 2 (.loop (.seq (s [m 51 7,o 52 (.bin .gtr 51 (k 0))] [3,7,52]<|.cond 52 .skip (.exit 2))<|.seq (.block 3 (.naming 3 (.region [m 55 3,o 56 (.build [.v (.int .i64 (0)),.v (.int .i64 (0))] [(1,1,(k 1))]),o 57 (.build
 [.v (.int .i64 (0)),.v (.int .i64 (0))] [(0,1,(k 1)),(1,1,(k 3))]),o 58 (.build [.v (.int .i64 (0)),.v (.int .i64 (0)),.v (.int .i64 (0)),.v (.int .i64 (0)),.v (.int .i64 (0)),.v (.int .i64 (0)),.v (.int .i64 (0)),.v (.int .i64 (0)),.v (.string ⟨#[]⟩)] [(0,1,(k 7)),(4,2,56),(6,2,57)]),o 59 (.bslice 9
 1 [.v (.int .i64 (0)),.v (.int .i64 (0)),.v (.int .i64 (0)),.v (.int .i64 (0)),.v (.int .i64 (0)),.v (.int .i64 (0)),.v (.int .i64 (0)),.v (.int .i64 (0)),.v (.string ⟨#[]⟩)] [(0,58)]),o 60 (.append 9 80 55 59),m 3 60] [3,7] [])))<|.region [m 53 7,o 54 (.bin .sub 53 (k 1)),m 7 54] [3,7] [])))
 .skip)<|s [m 61 3,m 2 61] [2]<|.ret
theorem CdV.l15DrawFlow_k:CK 107 Tryz.f107 CdV.l15DrawFlow 62 [.tmp 2]:=ck Tryz.func107
attribute [go_sem] CdV.l15DrawFlow
def okZ (o:List Stp):Prop:=∀s,s∈o->s.text.size<=2
theorem aMQ {o:List Stp}{s:Stp} (h:okZ o) (G:s.text.size<=2):okZ (o++[s]):=by
 intro t F;rcases Bg.1 F with F|F
 .exact h t F
 .rw[Av.1 F];exact G
theorem aIo {o:List Stp}{s:Stp}{i:Nat} (h:okZ o) (G:s.text.size<=2):okZ (o.set i s):=by
 intro t F;rcases List.mem_or_eq_of_mem_set F with F|rfl
 .exact h t F
 .exact G
def stU (l:List Int):Nat->Sr->List Stp->List Stp->Sr->Prop
 |0,x,o,o',x'=>o'=o∧x'=x
 |k+1,x,o,o',x'=>∃s x1,s.text.size<=2∧x1.p<=x.p+30∧Vs.Fn Tryz.prog F.fV [sB l x] [.ptr (.b 0) 0 0] (.agg (cS s)) [some (sB l x1)]∧stU l k x1 (o++[s]) o' x'
theorem aG8 {l:List Int} (I:byt l):∀(k:Nat) (x:Sr) (o:List Stp),x.p+30*k<=2900->okZ o->∃F G,(G.p<=x.p+30*k∧F.length=o.length+k∧okZ F)∧stU l k x o F G
 |0,x,o,_,h=>⟨o,x,⟨by omega,by omega,h⟩,rfl,rfl⟩
 | k+1,x,o,h,ho=>by
  obtain⟨s,M,J,H,V⟩:=aGC l x I (by omega);obtain⟨F,G,⟨Y,h2,O⟩,U⟩:=aG8 I k M (o++[s]) (by omega) (aMQ ho J);exact⟨F,G,⟨by omega,by rw[h2,AX,Cf];omega,O⟩,s,M,J,H,V,U⟩
abbrev O1 (l:List Int) (y:Sr) (n:Int) (b:Bool) (z:Sr):Prop:=Vs.Fn Tryz.prog F.bA [sB l y] [.ptr (.b 0) 0 0,.v (.int .i64 n)] (.v (.bool b)) [some (sB l z)]
abbrev PK (l:List Int) (y:Sr) (n v:Int) (z:Sr):Prop:=Vs.Fn Tryz.prog F.aF [sB l y] [.ptr (.b 0) 0 0,.v (.int .i64 n)] (.v (.int .i64 v)) [some (sB l z)]
def aE5 (t:Int):Stp:=⟨1,0,0,t,0,1,0,0,⟨#[]⟩⟩
def totS:Stp:=⟨7,0,0,0,0,1,1,3,⟨#[]⟩⟩
def sM (n:Nat):List Stp:=List.replicate n totS
theorem sK (n:Nat):(sM n).length=n:=List.length_replicate ..
theorem aAf (n:Nat):okZ (sM n):=by
 intro t F;unfold sM at F;rw[(List.mem_replicate.1 F).2];exact Nat.zero_le _
theorem aKN (n:Nat):E cS (sM n)++[[.v (.int .i64 7),.v (.int .i64 0),.v (.int .i64 0),.v (.int .i64 0),.v (.int .i64 0),.v (.int .i64 1),.v (.int .i64 1),.v (.int .i64 3),.v (.string ⟨#[]⟩)]]=E cS (sM (n+1)):=by
 unfold sM;rw[List.replicate_succ',aV];rfl
theorem aJe:E cS (sM 0)=[]:=rfl
section
attribute [local go_sem] Int.reduceBEq Int.reduceBNe cC aH Af Ag Ao Aq Ae Aj Ad Al Ac Ai Ap Av Am Ak AR BQ Vs.Name.t.injEq Ar AY aT aU bF sB Be BF BG cS aH Bf BA Cj Ce Vs.Name.b.injEq Nat.one_ne_zero Nat.zero_ne_one and_true and_false Ck false_and
set_option maxRecDepth 20000 in
theorem dfW {p:Prop} (h:p:=by
  first
    |refine fn1 CdV.l15DrawFlow_k [.b 0] [sB l y9] λX=>?_
    |refine fn1 CdV.l15DrawFlow_k [.b 0] [sB l y8] λX=>?_
  unfold CdV.l15DrawFlow
  repeat' first|simp -dsimp only[go_sem,e0,w20]|apply Br.mk<;>intro h<;>try simp -dsimp only[h]|refine aA.bor (by first|exact P2|exact P6|exact PT) rfl ?_|refine aC ?_|refine aC9 ?_|fail
  refine aP.at dM (X:={F:Nat×Sr×List Stp // (F.2.1.p+30*F.1<=2700)∧(F.1+F.2.2.length<=6)∧stU l F.1 F.2.1 F.2.2 o1 y4}) (λF=>[(3,.loc (.t 3 0) 0 F.1.2.2.length),(5,.v (.int .i64 (F.1.1:Nat)))]) (λF=>[(.b 0,sB l F.1.2.1),(.t 3 0,.arr 9 (E cS F.1.2.2) false)]) (λF=>F.1.1) (by first|exact⟨(k0,y3,[]),by dsimp only;omega,by dsimp only;simp only[Ai,Ac];omega,hT⟩|exact⟨(k0,y3,[aE5 to]),by dsimp only;omega,by dsimp only;simp only[Ai,Ac];omega,hT⟩) ?_ ?_
  . simp[Vs.LeL,Vs.look,aB,aQ,aK,Vs.hset,aL,Vs.E,sB,cS,aE5]
  . rintro⟨⟨k,y,o⟩,U,V,M⟩
    dsimp only at U V M;simp -dsimp only[go_sem];refine Br.mk (λI=>?_) λI=>?_
    . obtain⟨k,rfl⟩:∃j,k=j+1:=⟨k-1,by simp at I;omega⟩
      have w:=aJj (k:=k) (by omega);obtain⟨s,Z,hs,ha,hf,M⟩:=M;have H:E cS o++[[.v (.int .i64 s.kind),.v (.int .i64 s.a),.v (.int .i64 s.b),.v (.int .i64 s.to),.v (.int .i64 s.f0),.v (.int .i64 s.f1),.v (.int .i64 s.s0),.v (.int .i64 s.s1),.v (.string s.text)]]=E cS (o++[s]):=by rw[aV];rfl
      repeat' first|simp -dsimp only[go_sem,w,H]|apply Br.mk<;>intro h<;>try simp -dsimp only[h]|refine aA.bor (by first|exact hf) rfl ?_|refine aC ?_|refine aC9 ?_|fail

      all_goals first|omega|(refine⟨⟨(k,Z,o++[s]),by dsimp only;omega,by dsimp only;rw[AX];simp only[Ac,Ai];omega,M⟩,?_,by simp only;omega⟩;simp[Vs.LeL,Vs.look,aB,aQ,aK,Vs.hset,aL,Vs.E,sB,cS];done)
    . obtain rfl:k=0:=by simp at I;omega
      obtain⟨rfl,rfl⟩:=M;have J:(E cS o1).take o1.length=E cS o1:=Ah (by rw[aH];exact Au _)
      try have O:(E cS (o1.set i9 s9)).take o1.length=E cS (o1.set i9 s9):=Ah (by rw[aH,Ap];exact Au _)
      repeat' first|simp -dsimp only[go_sem,e0,w20]|apply Br.mk<;>intro h<;>try simp -dsimp only[h]|refine aA.borG (by first|exact SP) rfl ?_|refine aA.bor (by first|exact P24|exact P10|exact PN|exact P2b) rfl ?_|refine And.intro ?_ (λh=>absurd rfl h)|refine aC ?_|refine aC9 ?_|fail

      all_goals first|omega|exact⟨_,_,rfl,rfl⟩|exact⟨⟨_,_,rfl,rfl⟩,λh=>absurd rfl h⟩|(refine⟨?_,λh=>absurd rfl h⟩;exact⟨_,_,rfl,rfl⟩)|(rw[J];exact⟨_,_,rfl,rfl⟩)|(rw[O];exact⟨_,_,rfl,rfl⟩)|skip
      all_goals
        refine aP.at dM (X:={F:Nat×Nat // F.1+F.2=20+e9}) (λF=>[(3,.loc (.t 3 0) 0 F.1.2),(7,.v (.int .i64 (F.1.1:Nat)))]) (λF=>[(.t 3 0,.arr 9 (E cS (sM F.1.2)) false)]) (λF=>F.1.1) ⟨(20+e9,0),rfl⟩ ?_ ?_
        . simp[Vs.LeL,Vs.look,aB,aQ,aK,Vs.hset,aL,aJe,sB]
        . rintro⟨⟨k,j⟩,Y⟩
          dsimp only at Y;have G:(E cS (sM j)).length=j:=by rw[aH,sK]
          simp -dsimp only[go_sem,G];refine Br.mk (λI=>?_) λI=>?_
          . obtain⟨k,rfl⟩:∃i,k=i+1:=⟨k-1,by simp at I;omega⟩
            have w:=aJj (k:=k) (by omega);have H:=aKN j
            repeat' first|simp -dsimp only[go_sem,G,w,H]|apply Br.mk<;>intro h<;>try simp -dsimp only[h]|refine aC ?_|refine aC9 ?_|fail

            all_goals first|omega|(refine⟨⟨(k,j+1),by dsimp only;omega⟩,?_,by simp only;omega⟩;simp[Vs.LeL,Vs.look,aB,aQ,aK,Vs.hset,aL];done)
          . obtain rfl:k=0:=by simp at I;omega
            obtain rfl:j=20+e9:=by omega
            have J:(E cS (sM (20+e9))).take (20+e9)=E cS (sM (20+e9)):=Ah (by rw[G];exact Au _)
            try simp -dsimp only[go_sem,G]
            all_goals first|exact⟨⟨_,_,rfl,rfl⟩,λh=>absurd rfl h⟩|(rw[J];exact⟨⟨_,_,rfl,rfl⟩,λh=>absurd rfl h⟩)):p:=h
set_option maxRecDepth 20000 in
theorem df000 (l:List Int) (x:Sr) (hl:byt l) (y1:Sr) (y3:Sr) (y4:Sr) (y8:Sr) (k0:Nat) (o1:List Stp) (P2:O1 l x 2 false y1) (P6:PK l y1 6 (k0:Nat) y3) (hk0:k0<=5) (hy3:y3.p<=2000) (hT:stU l k0 y3 [] o1 y4) (ho1:o1.length<=6) (e0:decide ((o1.length:Int)>0)=false) (P24:O1 l y4 24 false y8) (e9:Nat) (he9:e9<=1) (w20:IntKind.i64.wrap (20+(e9:Int))=((20+e9:Nat):Int)):Vs.Fn Tryz.prog F.bR [sB l x] [.ptr (.b 0) 0 0] (.sl 9 (E cS o1)) [some (sB l y8)]:=dfW
set_option maxRecDepth 20000 in
theorem df001 (l:List Int) (x:Sr) (hl:byt l) (y1:Sr) (y3:Sr) (y4:Sr) (y8:Sr) (k0:Nat) (o1:List Stp) (P2:O1 l x 2 false y1) (P6:PK l y1 6 (k0:Nat) y3) (hk0:k0<=5) (hy3:y3.p<=2000) (hT:stU l k0 y3 [] o1 y4) (ho1:o1.length<=6) (e0:decide ((o1.length:Int)>0)=false) (P24:O1 l y4 24 true y8) (e9:Nat) (he9:e9<=1) (w20:IntKind.i64.wrap (20+(e9:Int))=((20+e9:Nat):Int)) (y9:Sr) (P2b:PK l y8 2 (e9:Nat) y9):Vs.Fn Tryz.prog F.bR [sB l x] [.ptr (.b 0) 0 0] (.sl 9 (E cS (sM (20+e9)))) [some (sB l y9)]:=dfW
set_option maxRecDepth 20000 in
theorem df010 (l:List Int) (x:Sr) (hl:byt l) (y1:Sr) (y3:Sr) (y4:Sr) (y8:Sr) (k0:Nat) (o1:List Stp) (P2:O1 l x 2 false y1) (P6:PK l y1 6 (k0:Nat) y3) (hk0:k0<=5) (hy3:y3.p<=2000) (hT:stU l k0 y3 [] o1 y4) (ho1:o1.length<=6) (e0:decide ((o1.length:Int)>0)=true) (y5:Sr) (P10:O1 l y4 10 false y5) (P24:O1 l y5 24 false y8) (e9:Nat) (he9:e9<=1) (w20:IntKind.i64.wrap (20+(e9:Int))=((20+e9:Nat):Int)):Vs.Fn Tryz.prog F.bR [sB l x] [.ptr (.b 0) 0 0] (.sl 9 (E cS o1)) [some (sB l y8)]:=dfW
set_option maxRecDepth 20000 in
theorem df011 (l:List Int) (x:Sr) (hl:byt l) (y1:Sr) (y3:Sr) (y4:Sr) (y8:Sr) (k0:Nat) (o1:List Stp) (P2:O1 l x 2 false y1) (P6:PK l y1 6 (k0:Nat) y3) (hk0:k0<=5) (hy3:y3.p<=2000) (hT:stU l k0 y3 [] o1 y4) (ho1:o1.length<=6) (e0:decide ((o1.length:Int)>0)=true) (y5:Sr) (P10:O1 l y4 10 false y5) (P24:O1 l y5 24 true y8) (e9:Nat) (he9:e9<=1) (w20:IntKind.i64.wrap (20+(e9:Int))=((20+e9:Nat):Int)) (y9:Sr) (P2b:PK l y8 2 (e9:Nat) y9):Vs.Fn Tryz.prog F.bR [sB l x] [.ptr (.b 0) 0 0] (.sl 9 (E cS (sM (20+e9)))) [some (sB l y9)]:=dfW
set_option maxRecDepth 20000 in
theorem df020 (l:List Int) (x:Sr) (hl:byt l) (y1:Sr) (y3:Sr) (y4:Sr) (y8:Sr) (k0:Nat) (o1:List Stp) (P2:O1 l x 2 false y1) (P6:PK l y1 6 (k0:Nat) y3) (hk0:k0<=5) (hy3:y3.p<=2000) (hT:stU l k0 y3 [] o1 y4) (ho1:o1.length<=6) (e0:decide ((o1.length:Int)>0)=true) (y5:Sr) (P10:O1 l y4 10 true y5) (y6:Sr) (y7:Sr) (i9:Nat) (hi9:i9<o1.length) (s9:Stp) (PN:PK l y5 (o1.length:Nat) (i9:Nat) y6) (SP:Vs.Fn Tryz.prog F.lD [sB l y6,.arr 9 (E cS o1) false] [.ptr (.b 0) 0 0,.ptr (.b 1) i9 0] (.tup []) [some (sB l y7),some (.arr 9 (E cS (o1.set i9 s9)) false)]) (P24:O1 l y7 24 false y8) (e9:Nat) (he9:e9<=1) (w20:IntKind.i64.wrap (20+(e9:Int))=((20+e9:Nat):Int)):Vs.Fn Tryz.prog F.bR [sB l x] [.ptr (.b 0) 0 0] (.sl 9 (E cS (o1.set i9 s9))) [some (sB l y8)]:=dfW
set_option maxRecDepth 20000 in
theorem df021 (l:List Int) (x:Sr) (hl:byt l) (y1:Sr) (y3:Sr) (y4:Sr) (y8:Sr) (k0:Nat) (o1:List Stp) (P2:O1 l x 2 false y1) (P6:PK l y1 6 (k0:Nat) y3) (hk0:k0<=5) (hy3:y3.p<=2000) (hT:stU l k0 y3 [] o1 y4) (ho1:o1.length<=6) (e0:decide ((o1.length:Int)>0)=true) (y5:Sr) (P10:O1 l y4 10 true y5) (y6:Sr) (y7:Sr) (i9:Nat) (hi9:i9<o1.length) (s9:Stp) (PN:PK l y5 (o1.length:Nat) (i9:Nat) y6) (SP:Vs.Fn Tryz.prog F.lD [sB l y6,.arr 9 (E cS o1) false] [.ptr (.b 0) 0 0,.ptr (.b 1) i9 0] (.tup []) [some (sB l y7),some (.arr 9 (E cS (o1.set i9 s9)) false)]) (P24:O1 l y7 24 true y8) (e9:Nat) (he9:e9<=1) (w20:IntKind.i64.wrap (20+(e9:Int))=((20+e9:Nat):Int)) (y9:Sr) (P2b:PK l y8 2 (e9:Nat) y9):Vs.Fn Tryz.prog F.bR [sB l x] [.ptr (.b 0) 0 0] (.sl 9 (E cS (sM (20+e9)))) [some (sB l y9)]:=dfW
set_option maxRecDepth 20000 in
theorem df100 (l:List Int) (x:Sr) (hl:byt l) (y1:Sr) (y3:Sr) (y4:Sr) (y8:Sr) (k0:Nat) (o1:List Stp) (P2:O1 l x 2 true y1) (y2:Sr) (to:Int) (PT:PK l y1 3 to y2) (P6:PK l y2 6 (k0:Nat) y3) (hk0:k0<=5) (hy3:y3.p<=2000) (hT:stU l k0 y3 [aE5 to] o1 y4) (ho1:o1.length<=6) (e0:decide ((o1.length:Int)>0)=false) (P24:O1 l y4 24 false y8) (e9:Nat) (he9:e9<=1) (w20:IntKind.i64.wrap (20+(e9:Int))=((20+e9:Nat):Int)):Vs.Fn Tryz.prog F.bR [sB l x] [.ptr (.b 0) 0 0] (.sl 9 (E cS o1)) [some (sB l y8)]:=dfW
set_option maxRecDepth 20000 in
theorem df101 (l:List Int) (x:Sr) (hl:byt l) (y1:Sr) (y3:Sr) (y4:Sr) (y8:Sr) (k0:Nat) (o1:List Stp) (P2:O1 l x 2 true y1) (y2:Sr) (to:Int) (PT:PK l y1 3 to y2) (P6:PK l y2 6 (k0:Nat) y3) (hk0:k0<=5) (hy3:y3.p<=2000) (hT:stU l k0 y3 [aE5 to] o1 y4) (ho1:o1.length<=6) (e0:decide ((o1.length:Int)>0)=false) (P24:O1 l y4 24 true y8) (e9:Nat) (he9:e9<=1) (w20:IntKind.i64.wrap (20+(e9:Int))=((20+e9:Nat):Int)) (y9:Sr) (P2b:PK l y8 2 (e9:Nat) y9):Vs.Fn Tryz.prog F.bR [sB l x] [.ptr (.b 0) 0 0] (.sl 9 (E cS (sM (20+e9)))) [some (sB l y9)]:=dfW
set_option maxRecDepth 20000 in
theorem df110 (l:List Int) (x:Sr) (hl:byt l) (y1:Sr) (y3:Sr) (y4:Sr) (y8:Sr) (k0:Nat) (o1:List Stp) (P2:O1 l x 2 true y1) (y2:Sr) (to:Int) (PT:PK l y1 3 to y2) (P6:PK l y2 6 (k0:Nat) y3) (hk0:k0<=5) (hy3:y3.p<=2000) (hT:stU l k0 y3 [aE5 to] o1 y4) (ho1:o1.length<=6) (e0:decide ((o1.length:Int)>0)=true) (y5:Sr) (P10:O1 l y4 10 false y5) (P24:O1 l y5 24 false y8) (e9:Nat) (he9:e9<=1) (w20:IntKind.i64.wrap (20+(e9:Int))=((20+e9:Nat):Int)):Vs.Fn Tryz.prog F.bR [sB l x] [.ptr (.b 0) 0 0] (.sl 9 (E cS o1)) [some (sB l y8)]:=dfW
set_option maxRecDepth 20000 in
theorem df111 (l:List Int) (x:Sr) (hl:byt l) (y1:Sr) (y3:Sr) (y4:Sr) (y8:Sr) (k0:Nat) (o1:List Stp) (P2:O1 l x 2 true y1) (y2:Sr) (to:Int) (PT:PK l y1 3 to y2) (P6:PK l y2 6 (k0:Nat) y3) (hk0:k0<=5) (hy3:y3.p<=2000) (hT:stU l k0 y3 [aE5 to] o1 y4) (ho1:o1.length<=6) (e0:decide ((o1.length:Int)>0)=true) (y5:Sr) (P10:O1 l y4 10 false y5) (P24:O1 l y5 24 true y8) (e9:Nat) (he9:e9<=1) (w20:IntKind.i64.wrap (20+(e9:Int))=((20+e9:Nat):Int)) (y9:Sr) (P2b:PK l y8 2 (e9:Nat) y9):Vs.Fn Tryz.prog F.bR [sB l x] [.ptr (.b 0) 0 0] (.sl 9 (E cS (sM (20+e9)))) [some (sB l y9)]:=dfW
set_option maxRecDepth 20000 in
theorem df120 (l:List Int) (x:Sr) (hl:byt l) (y1:Sr) (y3:Sr) (y4:Sr) (y8:Sr) (k0:Nat) (o1:List Stp) (P2:O1 l x 2 true y1) (y2:Sr) (to:Int) (PT:PK l y1 3 to y2) (P6:PK l y2 6 (k0:Nat) y3) (hk0:k0<=5) (hy3:y3.p<=2000) (hT:stU l k0 y3 [aE5 to] o1 y4) (ho1:o1.length<=6) (e0:decide ((o1.length:Int)>0)=true) (y5:Sr) (P10:O1 l y4 10 true y5) (y6:Sr) (y7:Sr) (i9:Nat) (hi9:i9<o1.length) (s9:Stp) (PN:PK l y5 (o1.length:Nat) (i9:Nat) y6) (SP:Vs.Fn Tryz.prog F.lD [sB l y6,.arr 9 (E cS o1) false] [.ptr (.b 0) 0 0,.ptr (.b 1) i9 0] (.tup []) [some (sB l y7),some (.arr 9 (E cS (o1.set i9 s9)) false)]) (P24:O1 l y7 24 false y8) (e9:Nat) (he9:e9<=1) (w20:IntKind.i64.wrap (20+(e9:Int))=((20+e9:Nat):Int)):Vs.Fn Tryz.prog F.bR [sB l x] [.ptr (.b 0) 0 0] (.sl 9 (E cS (o1.set i9 s9))) [some (sB l y8)]:=dfW
set_option maxRecDepth 20000 in
theorem df121 (l:List Int) (x:Sr) (hl:byt l) (y1:Sr) (y3:Sr) (y4:Sr) (y8:Sr) (k0:Nat) (o1:List Stp) (P2:O1 l x 2 true y1) (y2:Sr) (to:Int) (PT:PK l y1 3 to y2) (P6:PK l y2 6 (k0:Nat) y3) (hk0:k0<=5) (hy3:y3.p<=2000) (hT:stU l k0 y3 [aE5 to] o1 y4) (ho1:o1.length<=6) (e0:decide ((o1.length:Int)>0)=true) (y5:Sr) (P10:O1 l y4 10 true y5) (y6:Sr) (y7:Sr) (i9:Nat) (hi9:i9<o1.length) (s9:Stp) (PN:PK l y5 (o1.length:Nat) (i9:Nat) y6) (SP:Vs.Fn Tryz.prog F.lD [sB l y6,.arr 9 (E cS o1) false] [.ptr (.b 0) 0 0,.ptr (.b 1) i9 0] (.tup []) [some (sB l y7),some (.arr 9 (E cS (o1.set i9 s9)) false)]) (P24:O1 l y7 24 true y8) (e9:Nat) (he9:e9<=1) (w20:IntKind.i64.wrap (20+(e9:Int))=((20+e9:Nat):Int)) (y9:Sr) (P2b:PK l y8 2 (e9:Nat) y9):Vs.Fn Tryz.prog F.bR [sB l x] [.ptr (.b 0) 0 0] (.sl 9 (E cS (sM (20+e9)))) [some (sB l y9)]:=dfW
end
set_option maxRecDepth 20000 in
theorem aLS (l:List Int) (x:Sr) (H:byt l) (hp:x.p<=1900):∃fs z,okZ fs∧fs.length<=21∧z.p<=x.p+400∧Vs.Fn Tryz.prog F.bR [sB l x] [.ptr (.b 0) 0 0] (.sl 9 (E cS fs)) [some (sB l z)]:=by
 have hq:∀y:Stp,cS y=[.v (.int .i64 y.kind),.v (.int .i64 y.a),.v (.int .i64 y.b),.v (.int .i64 y.to),.v (.int .i64 y.f0),.v (.int .i64 y.f1),.v (.int .i64 y.s0),.v (.int .i64 y.s1),.v (.string y.text)]:=λ_=>rfl;clear hq;have P2:=one l x H 2 (by omega);have q2:=aO l x 2;obtain⟨b2,ho⟩:∃b,(pkV l x 2==0)=b:=⟨_,rfl⟩;rw[ho] at P2;generalize pkS l x 2=y1 at *
 cases b2
 .have P6:=pick l y1 H 6 (by omega);have q6:=aO l y1 6;have v6:=aZ H y1 (n:=6) (by omega);obtain⟨k0,hk⟩:∃k:Nat,pkV l y1 6=k:=⟨(pkV l y1 6).toNat,by omega⟩;rw[hk] at P6 v6;generalize pkS l y1 6=y3 at *
  obtain⟨I,U,⟨hr,hm,hc⟩,hT⟩:=aG8 H k0 y3 [] (by omega) (λs hs=>by cases hs);simp only[Ai] at hm;by_cases h0:I.length=0
  .have e0:decide ((I.length:Int)>0)=false:=AQ (by omega);have G:=one l U H 24 (by omega);have he:=aO l U 24;obtain⟨Y,M⟩:∃b,(pkV l U 24==0)=b:=⟨_,rfl⟩;rw[M] at G;generalize pkS l U 24=y8 at *
   cases Y
   .refine⟨I,y8,hc,by(try simp only[Ap]);omega,by omega,?_⟩;exact df000 l x H y1 y3 U y8 k0 I P2 P6 (by omega) (by omega) hT (by omega) e0 G 0 (by omega) rfl
   .have J:=pick l y8 H 2 (by omega);have hf:=aO l y8 2;have ha:=aZ H y8 (n:=2) (by omega);obtain⟨O,Z⟩:∃k:Nat,pkV l y8 2=k:=⟨(pkV l y8 2).toNat,by omega⟩;rw[Z] at J ha;generalize pkS l y8 2=y9 at *
    have hb:IntKind.i64.wrap (20+(O:Int))=((20+O:Nat):Int):=by rw[aI (by omega) (by omega)];omega
    refine⟨sM (20+O),y9,aAf _,by rw[sK];omega,by omega,?_⟩;exact df001 l x H y1 y3 U y8 k0 I P2 P6 (by omega) (by omega) hT (by omega) e0 G O (by omega) hb y9 J
  .have e0:decide ((I.length:Int)>0)=true:=A9 (by omega);have V:=one l U H 10 (by omega);have hu:=aO l U 10;obtain⟨hg,hd⟩:∃b,(pkV l U 10==0)=b:=⟨_,rfl⟩;rw[hd] at V;generalize pkS l U 10=y5 at *
   cases hg
   .have G:=one l y5 H 24 (by omega);have he:=aO l y5 24;obtain⟨Y,M⟩:∃b,(pkV l y5 24==0)=b:=⟨_,rfl⟩;rw[M] at G;generalize pkS l y5 24=y8 at *
    cases Y
    .refine⟨I,y8,hc,by(try simp only[Ap]);omega,by omega,?_⟩;exact df010 l x H y1 y3 U y8 k0 I P2 P6 (by omega) (by omega) hT (by omega) e0 y5 V G 0 (by omega) rfl
    .have J:=pick l y8 H 2 (by omega);have hf:=aO l y8 2;have ha:=aZ H y8 (n:=2) (by omega);obtain⟨O,Z⟩:∃k:Nat,pkV l y8 2=k:=⟨(pkV l y8 2).toNat,by omega⟩;rw[Z] at J ha;generalize pkS l y8 2=y9 at *
     have hb:IntKind.i64.wrap (20+(O:Int))=((20+O:Nat):Int):=by rw[aI (by omega) (by omega)];omega
     refine⟨sM (20+O),y9,aAf _,by rw[sK];omega,by omega,?_⟩;exact df011 l x H y1 y3 U y8 k0 I P2 P6 (by omega) (by omega) hT (by omega) e0 y5 V G O (by omega) hb y9 J
   .have PN:=pick l y5 H (I.length:Nat) (by omega);have qn:=aO l y5 (I.length:Nat);have vn:=aZ H y5 (n:=(I.length:Nat)) (by omega);obtain⟨i9,hj⟩:∃k:Nat,pkV l y5 (I.length:Nat)=k:=⟨(pkV l y5 (I.length:Nat)).toNat,by omega⟩;rw[hj] at PN vn;generalize pkS l y5 (I.length:Nat)=y6 at *
    obtain⟨s9,y7,ht,hn,SP⟩:=aNE l y6 H (by omega) I i9 (by omega) (by omega) (hc _ (Aa _));have G:=one l y7 H 24 (by omega);have he:=aO l y7 24;obtain⟨Y,M⟩:∃b,(pkV l y7 24==0)=b:=⟨_,rfl⟩;rw[M] at G;generalize pkS l y7 24=y8 at *
    cases Y
    .refine⟨(I.set i9 s9),y8,aIo hc hn,by(try simp only[Ap]);omega,by omega,?_⟩;exact df020 l x H y1 y3 U y8 k0 I P2 P6 (by omega) (by omega) hT (by omega) e0 y5 V y6 y7 i9 (by omega) s9 PN SP G 0 (by omega) rfl
    .have J:=pick l y8 H 2 (by omega);have hf:=aO l y8 2;have ha:=aZ H y8 (n:=2) (by omega);obtain⟨O,Z⟩:∃k:Nat,pkV l y8 2=k:=⟨(pkV l y8 2).toNat,by omega⟩;rw[Z] at J ha;generalize pkS l y8 2=y9 at *
     have hb:IntKind.i64.wrap (20+(O:Int))=((20+O:Nat):Int):=by rw[aI (by omega) (by omega)];omega
     refine⟨sM (20+O),y9,aAf _,by rw[sK];omega,by omega,?_⟩;exact df021 l x H y1 y3 U y8 k0 I P2 P6 (by omega) (by omega) hT (by omega) e0 y5 V y6 y7 i9 (by omega) s9 PN SP G O (by omega) hb y9 J
 .have PT:=pick l y1 H 3 (by omega);have qt:=aO l y1 3;generalize pkV l y1 3=to at *
  generalize pkS l y1 3=y2 at *
  have P6:=pick l y2 H 6 (by omega);have q6:=aO l y2 6;have v6:=aZ H y2 (n:=6) (by omega);obtain⟨k0,hk⟩:∃k:Nat,pkV l y2 6=k:=⟨(pkV l y2 6).toNat,by omega⟩;rw[hk] at P6 v6;generalize pkS l y2 6=y3 at *
  obtain⟨I,U,⟨hr,hm,hc⟩,hT⟩:=aG8 H k0 y3 [aE5 to] (by omega) (λs hs=>by rw[Av.1 hs];exact Nat.zero_le _);simp only[Ac,Ai] at hm;by_cases h0:I.length=0
  .have e0:decide ((I.length:Int)>0)=false:=AQ (by omega);have G:=one l U H 24 (by omega);have he:=aO l U 24;obtain⟨Y,M⟩:∃b,(pkV l U 24==0)=b:=⟨_,rfl⟩;rw[M] at G;generalize pkS l U 24=y8 at *
   cases Y
   .refine⟨I,y8,hc,by(try simp only[Ap]);omega,by omega,?_⟩;exact df100 l x H y1 y3 U y8 k0 I P2 y2 to PT P6 (by omega) (by omega) hT (by omega) e0 G 0 (by omega) rfl
   .have J:=pick l y8 H 2 (by omega);have hf:=aO l y8 2;have ha:=aZ H y8 (n:=2) (by omega);obtain⟨O,Z⟩:∃k:Nat,pkV l y8 2=k:=⟨(pkV l y8 2).toNat,by omega⟩;rw[Z] at J ha;generalize pkS l y8 2=y9 at *
    have hb:IntKind.i64.wrap (20+(O:Int))=((20+O:Nat):Int):=by rw[aI (by omega) (by omega)];omega
    refine⟨sM (20+O),y9,aAf _,by rw[sK];omega,by omega,?_⟩;exact df101 l x H y1 y3 U y8 k0 I P2 y2 to PT P6 (by omega) (by omega) hT (by omega) e0 G O (by omega) hb y9 J
  .have e0:decide ((I.length:Int)>0)=true:=A9 (by omega);have V:=one l U H 10 (by omega);have hu:=aO l U 10;obtain⟨hg,hd⟩:∃b,(pkV l U 10==0)=b:=⟨_,rfl⟩;rw[hd] at V;generalize pkS l U 10=y5 at *
   cases hg
   .have G:=one l y5 H 24 (by omega);have he:=aO l y5 24;obtain⟨Y,M⟩:∃b,(pkV l y5 24==0)=b:=⟨_,rfl⟩;rw[M] at G;generalize pkS l y5 24=y8 at *
    cases Y
    .refine⟨I,y8,hc,by(try simp only[Ap]);omega,by omega,?_⟩;exact df110 l x H y1 y3 U y8 k0 I P2 y2 to PT P6 (by omega) (by omega) hT (by omega) e0 y5 V G 0 (by omega) rfl
    .have J:=pick l y8 H 2 (by omega);have hf:=aO l y8 2;have ha:=aZ H y8 (n:=2) (by omega);obtain⟨O,Z⟩:∃k:Nat,pkV l y8 2=k:=⟨(pkV l y8 2).toNat,by omega⟩;rw[Z] at J ha;generalize pkS l y8 2=y9 at *
     have hb:IntKind.i64.wrap (20+(O:Int))=((20+O:Nat):Int):=by rw[aI (by omega) (by omega)];omega
     refine⟨sM (20+O),y9,aAf _,by rw[sK];omega,by omega,?_⟩;exact df111 l x H y1 y3 U y8 k0 I P2 y2 to PT P6 (by omega) (by omega) hT (by omega) e0 y5 V G O (by omega) hb y9 J
   .have PN:=pick l y5 H (I.length:Nat) (by omega);have qn:=aO l y5 (I.length:Nat);have vn:=aZ H y5 (n:=(I.length:Nat)) (by omega);obtain⟨i9,hj⟩:∃k:Nat,pkV l y5 (I.length:Nat)=k:=⟨(pkV l y5 (I.length:Nat)).toNat,by omega⟩;rw[hj] at PN vn;generalize pkS l y5 (I.length:Nat)=y6 at *
    obtain⟨s9,y7,ht,hn,SP⟩:=aNE l y6 H (by omega) I i9 (by omega) (by omega) (hc _ (Aa _));have G:=one l y7 H 24 (by omega);have he:=aO l y7 24;obtain⟨Y,M⟩:∃b,(pkV l y7 24==0)=b:=⟨_,rfl⟩;rw[M] at G;generalize pkS l y7 24=y8 at *
    cases Y
    .refine⟨(I.set i9 s9),y8,aIo hc hn,by(try simp only[Ap]);omega,by omega,?_⟩;exact df120 l x H y1 y3 U y8 k0 I P2 y2 to PT P6 (by omega) (by omega) hT (by omega) e0 y5 V y6 y7 i9 (by omega) s9 PN SP G 0 (by omega) rfl
    .have J:=pick l y8 H 2 (by omega);have hf:=aO l y8 2;have ha:=aZ H y8 (n:=2) (by omega);obtain⟨O,Z⟩:∃k:Nat,pkV l y8 2=k:=⟨(pkV l y8 2).toNat,by omega⟩;rw[Z] at J ha;generalize pkS l y8 2=y9 at *
     have hb:IntKind.i64.wrap (20+(O:Int))=((20+O:Nat):Int):=by rw[aI (by omega) (by omega)];omega
     refine⟨sM (20+O),y9,aAf _,by rw[sK];omega,by omega,?_⟩;exact df121 l x H y1 y3 U y8 k0 I P2 y2 to PT P6 (by omega) (by omega) hT (by omega) e0 y5 V y6 y7 i9 (by omega) s9 PN SP G O (by omega) hb y9 J
end
section
variable [Vs.Envs]
attribute [local irreducible] Vs.Fn gG wO stC dJ bB dK dL l03 chB rk cd3 chI stp bD
def roT (o:Off):AV:=if o.totals.length=0 then .v (.slice none 0 0) else .sl 1 (E cTs o.totals)
def roV (o:Off):List AV:=[.sl 1 (E cD o.trays),roT o]
def gT (o:Off):AV:=if o.totals.length=0 then .v (.slice none 0 0) else .loc (.t 9 1) 0 o.totals.length
def gHT (o:Off):List (Vs.Name×Blk):=if o.totals.length=0 then[] else[(.t 9 1,.arr 1 (E cTs o.totals) false)]
theorem gT_e {o:Off} (h:o.totals.length=0):gT o=.v (.slice none 0 0):=AP h
theorem gT_l {o:Off} (h:o.totals.length≠0):gT o=.loc (.t 9 1) 0 o.totals.length:=AC h
theorem gH_e {o:Off} (h:o.totals.length=0):gHT o=[]:=AP h
theorem gH_l {o:Off} (h:o.totals.length≠0):gHT o=[(.t 9 1,.arr 1 (E cTs o.totals) false)]:=AC h
theorem aCi {o:Off} (h:o.totals.length=0):roT o=.v (.slice none 0 0):=AP h
theorem aCh {o:Off} (h:o.totals.length≠0):roT o=.sl 1 (E cTs o.totals):=AC h
theorem roE {o:Off} (h:o.totals.length=0) {S:Nat->Prop}{w:World}{v:Value}{ρ:Vs.Name->Option Nat}{κ:Vs.Name->Nat}{hh:Vs.Name->Option Blk} (F:RV S w ρ κ hh (.ro [.sl 1 (E cD o.trays),.v (.slice none 0 0)]) v):RV S w ρ κ hh (.ro (cO o)) v:=by
 unfold cO;rw[Bv h];exact aN5 F
theorem aJG (o:Off) (H:kP o) (h:o.totals.length=0):Fz F.jI [.ro [.sl 1 (E cD o.trays),.v (.slice none 0 0)]] (.v (.int .i64 (wO o.trays))):=by
 refine aIJ (args':=[.ro (cO o)]) rfl (λS w j v G ρ κ hh I=>?_) (gQ o H)
 match j,G with
 |0,_=>exact roE h I
theorem aKt (x:Stp) (o:Off):(stO x o).trays.length=o.trays.length:=by unfold stO;split<;>simp
theorem aH9 {x:Stp}{o:Off} (F:x.kind≠7):(stO x o).totals=o.totals∧(stO x o).trays=o.trays.set x.to.toNat (dkL x (tr o.trays x.a) (tr o.trays x.b)):=by rw[aKs F];exact⟨rfl,rfl⟩
theorem aFM {x:Stp}{o:Off} (F:x.kind=7):(stO x o).totals=o.totals++[qI x.f0 x.f1 x.s0 x.s1 (tr o.trays x.a)]∧(stO x o).trays=o.trays:=by rw[aKr F];exact⟨rfl,rfl⟩
end
section
variable [Vs.Envs]
attribute [local irreducible] Vs.Fn nxV nxS pkV pkS pt crd gG dtF jD run wO
theorem aOA (a b:Int):Fz F.yJ [.v (.int .i64 a),.v (.int .i64 b)] (.v (.int .i64 (if a<b then a else b))):=by
 refine fn0 Cd.s_l00Min_k λX=>?_
 repeat' first|simp -dsimp only[go_sem]|apply Br.mk<;>intro h<;>try simp -dsimp only[h]|refine aC ?_|refine aC9 ?_|fail
 all_goals(first|(refine aR ?_;simp_all;done)|(simp_all;done)|(simp_all;omega))
theorem aOd {o:Off}{S:Nat->Prop}{w:World}{v:Value}{ρ:Vs.Name->Option Nat}{κ:Vs.Name->Nat}{hh:Vs.Name->Option Blk} (h:RV S w ρ κ hh (.agg (roV o)) v):RV S w ρ κ hh (.agg (cO o)) v:=by
 unfold roV roT at h;by_cases F:o.totals.length=0
 .rw[AP F] at h;unfold cO;rw[Bv F];exact aNx h
 .rw[AC F] at h;exact h
end
section
variable [Vs.Envs]
attribute [local irreducible] Vs.Fn gG wO stC dJ bB dK dL l03 chB rk cd3 chI stp bD
attribute [local go_sem] Int.reduceBEq Int.reduceBNe cC cO cFd aH Af Ag Ao Aq Ae Aj Ad Al Ac Ai Ap Av Am Ak AR BQ Vs.Name.t.injEq Ar AY Vs.Name.b.injEq AJ Bp in
theorem aM4 (o:Off) (w:Nat) (ho:okO w o) (he:o.totals.length=0) (H:List Stp) (hz:∀x,x∈H->x.text.size<=1048576) (hl:H.length<=1048576):Vs.Fn Tryz.prog F.vF [] [.ro [.sl 1 (E cD o.trays),.v (.slice none 0 0)],.sl 9 (E cS H)] (.tup [.agg [.loc (.b 0) 0 (run o H).1.trays.length,roT (run o H).1],.v (.int .i64 ((run o H).2:Nat))]) [some (.arr 1 (E cD (run o H).1.trays) false)]:=by
 have OW:Vs.Fn Tryz.prog F.sO [] [.ro [.sl 1 (E cD o.trays),.v (.slice none 0 0)]] (.agg [.loc (.b 0) 0 o.trays.length,.v (.slice none 0 0)]) [some (.arr 1 (E cD o.trays) false)]:=by
  refine aIJ (args':=[.ro (cO o)]) rfl (λS w j v hj ρ κ hh Y=>?_) (aM5 o (iC ho) (by rw[ho.2.1];omega) he)
  match j,hj with
  |0,_=>exact roE he Y
 have hs:=aJn o H;generalize hR:run o H=R;refine fn1 Cd.s_l15Run_k [.t 9 0] [.arr 1 (E cD R.1.trays) false] λX=>?_;unfold Cd.vF
 repeat' first|simp -dsimp only[go_sem,cS]|apply Br.mk<;>intro h<;>try simp -dsimp only[h]|refine aA.own (by first|exact OW) rfl ?_|refine aC ?_|refine aC9 ?_|fail
 refine aP.atR dM (X:={p:Nat×Off // p.1<=H.length∧okO w p.2∧aE9 o H p.1 p.2}) (λp=>[(7,.v (.int .i64 (p.1.1:Nat)))]) (λp=>(.t 6 0,.var [.loc (.t 9 0) 0 p.1.2.trays.length,gT p.1.2] false)::(.t 9 0,.arr 1 (E cD p.1.2.trays) false)::gHT p.1.2) (λp=>H.length-p.1.1) ⟨(0,o),by simp,ho,hs⟩ ?_ ?_
 .simp[Vs.LeL,Vs.look,aB,aQ,aK,Vs.hset,aL,gT_e he,gH_e he]
 .rintro⟨⟨i,I⟩,hi,U,M⟩;dsimp only at hi U M⊢;have hr:=iC U;have hx:=U.2.1;have hu:=U.2.2.2.1;have hf:(E cD I.trays).take I.trays.length=E cD I.trays:=Ah (by rw[aH];exact Au _);have hg:(E cTs I.totals).take I.totals.length=E cTs I.totals:=Ah (by rw[aH];exact Au _);by_cases J:I.totals.length=0
  .rw[gT_e J,gH_e J];have WD:=aJG I hr J
   try simp -dsimp only[go_sem,cS]
   refine Br.mk (λhc=>?_) λhc=>?_
   .have O:i<H.length:=Dq;have hw:=aJ O (by omega);have gx:(E cS H).getD i []=cS H[i]:=aW O;have Z:=hz _ (Aa O);have LS:=qG H[i] (wO I.trays:Int) Z;cases Y:gG H[i] (wO I.trays)
    .rw[Y] at LS;have G:=aAa O M (by unfold dsC;rw[Y];simp);rw[hR] at G;subst G
     repeat' first|simp -dsimp only[go_sem,gx,hf,hg,roV,aCi J,cS]|apply Br.mk<;>intro h<;>try simp -dsimp only[h]|refine aA.c (by first|exact WD|exact LS) ?_|refine aC ?_|refine aC9 ?_|fail
     all_goals first|omega|exact⟨_,_,rfl,rfl⟩|exact⟨⟨_,_,rfl,rfl⟩,λh=>h rfl⟩
    .rw[Y] at LS;by_cases h0:stC H[i] I=0
     .have hd:dsC H[i] I=0:=by unfold dsC;rw[Y];exact h0
      have V:=aEp O M hd;have hp:=aIO U hd;have ht:=aKt H[i] I;by_cases h7:H[i].kind=7
      .have DO:=aHt H[i] Z I w U Y J h7 h0;obtain⟨q1,q2⟩:=aFM (o:=I) h7;have hm:(stO H[i] I).totals.length=I.totals.length+1:=by rw[q1,AX];rfl
       have hn:(stO H[i] I).totals.length≠0:=by omega
       have hb:=gT_l hn;have ha:=gH_l hn;generalize stO H[i] I=o2 at *
       repeat' first|simp -dsimp only[go_sem,gx,hw,cS]|apply Br.mk<;>intro h<;>try simp -dsimp only[h]|refine aA.borG (B:=[.t 6 0,.t 9 0]) (by first|exact DO) rfl ?_|refine aA.c (by first|exact WD|exact LS) ?_|refine aC ?_|refine aC9 ?_|fail
       all_goals first|omega|(refine⟨⟨(i+1,o2),by simp only;omega,hp,V⟩,.inr ⟨.t 26 2,.t 9 1,by decide,rfl,?_⟩,by simp only;omega⟩;simp[uS,Vs.nmF,Vs.rn,Vs.rnL,Vs.rnB,Vs.LeL,Vs.look,aB,aQ,aK,Vs.hset,aL,hb,ha,q1,q2];done)
      .have DO:=aJK H[i] Z I w U Y J h7 h0;obtain⟨q1,q2⟩:=aH9 (o:=I) h7;have hk:(stO H[i] I).totals.length=0:=by rw[q1];exact J
       have hb:=gT_e hk;have ha:=gH_e hk;generalize stO H[i] I=o2 at *
       repeat' first|simp -dsimp only[go_sem,gx,hw,cS]|apply Br.mk<;>intro h<;>try simp -dsimp only[h]|refine aA.borG (B:=[.t 6 0,.t 9 0]) (by first|exact DO) rfl ?_|refine aA.c (by first|exact WD|exact LS) ?_|refine aC ?_|refine aC9 ?_|fail
       all_goals first|omega|(refine⟨⟨(i+1,o2),by simp only;omega,hp,V⟩,.inl ?_,by simp only;omega⟩;simp[Vs.LeL,Vs.look,aB,aQ,aK,Vs.hset,aL,hb,ha,q1,q2];done)
     .have DO:=aJJ H[i] Z I w U Y J h0;have e0:(stC H[i] I != 0)=true:=by simp[h0]
      have G:=aAa O M (by unfold dsC;rw[Y];exact h0);rw[hR] at G;subst G;generalize stC H[i] I=c at *
      repeat' first|simp -dsimp only[go_sem,gx,e0,hf,hg,roV,aCi J,cS]|apply Br.mk<;>intro h<;>try simp -dsimp only[h]|refine aA.borG (B:=[.t 6 0,.t 9 0]) (by first|exact DO) rfl ?_|refine aA.c (by first|exact WD|exact LS) ?_|refine aC ?_|refine aC9 ?_|fail
      all_goals first|omega|exact⟨_,_,rfl,rfl⟩|exact⟨⟨_,_,rfl,rfl⟩,λh=>h rfl⟩
   .have hq:i=H.length:=by
     have:¬i<H.length:=Dq;omega
    subst hq;have G:=aFU M;rw[hR] at G;subst G
    repeat' first|simp -dsimp only[go_sem,hf,hg,roV,aCi J,cS]|apply Br.mk<;>intro h<;>try simp -dsimp only[h]|refine And.intro ?_ (λh=>absurd rfl h)|refine aC ?_|refine aC9 ?_|fail
    all_goals first|omega|exact⟨_,_,rfl,rfl⟩|exact⟨⟨_,_,rfl,rfl⟩,λh=>h rfl⟩
  .rw[gT_l J,gH_l J];have WD:=gQ I hr
   try simp -dsimp only[go_sem,cS]
   refine Br.mk (λhc=>?_) λhc=>?_
   .have O:i<H.length:=Dq;have hw:=aJ O (by omega);have gx:(E cS H).getD i []=cS H[i]:=aW O;have Z:=hz _ (Aa O);have LS:=qG H[i] (wO I.trays:Int) Z;cases Y:gG H[i] (wO I.trays)
    .rw[Y] at LS;have G:=aAa O M (by unfold dsC;rw[Y];simp);rw[hR] at G;subst G
     repeat' first|simp -dsimp only[go_sem,gx,hf,hg,roV,aCh J,cS]|apply Br.mk<;>intro h<;>try simp -dsimp only[h]|refine aA.c (by first|exact WD|exact LS) ?_|refine aC ?_|refine aC9 ?_|fail
     all_goals first|omega|exact⟨_,_,rfl,rfl⟩|exact⟨⟨_,_,rfl,rfl⟩,λh=>h rfl⟩
    .rw[Y] at LS;by_cases h0:stC H[i] I=0
     .have hd:dsC H[i] I=0:=by unfold dsC;rw[Y];exact h0
      have V:=aEp O M hd;have hp:=aIO U hd;have ht:=aKt H[i] I;by_cases h7:H[i].kind=7
      .have DO:=aHs H[i] Z I w U Y h7 h0;obtain⟨q1,q2⟩:=aFM (o:=I) h7;have hm:(stO H[i] I).totals.length=I.totals.length+1:=by rw[q1,AX];rfl
       have hn:(stO H[i] I).totals.length≠0:=by omega
       have hb:=gT_l hn;have ha:=gH_l hn;generalize stO H[i] I=o2 at *
       repeat' first|simp -dsimp only[go_sem,gx,hw,cS]|apply Br.mk<;>intro h<;>try simp -dsimp only[h]|refine aA.borG (B:=[.t 6 0,.t 9 0,.t 9 1]) (by first|exact DO) rfl ?_|refine aA.c (by first|exact WD|exact LS) ?_|refine aC ?_|refine aC9 ?_|fail
       all_goals first|omega|(refine⟨⟨(i+1,o2),by simp only;omega,hp,V⟩,.inr ⟨.t 26 3,.t 9 1,by decide,rfl,?_⟩,by simp only;omega⟩;simp[uS,Vs.nmF,Vs.rn,Vs.rnL,Vs.rnB,Vs.LeL,Vs.look,aB,aQ,aK,Vs.hset,aL,hb,ha,q1,q2];done)
      .have DO:=aJI H[i] Z I w U Y h7 h0;obtain⟨q1,q2⟩:=aH9 (o:=I) h7;have hk:(stO H[i] I).totals.length≠0:=by rw[q1];exact J
       have hb:=gT_l hk;have ha:=gH_l hk;generalize stO H[i] I=o2 at *
       repeat' first|simp -dsimp only[go_sem,gx,hw,cS]|apply Br.mk<;>intro h<;>try simp -dsimp only[h]|refine aA.borG (B:=[.t 6 0,.t 9 0,.t 9 1]) (by first|exact DO) rfl ?_|refine aA.c (by first|exact WD|exact LS) ?_|refine aC ?_|refine aC9 ?_|fail
       all_goals first|omega|(refine⟨⟨(i+1,o2),by simp only;omega,hp,V⟩,.inl ?_,by simp only;omega⟩;simp[Vs.LeL,Vs.look,aB,aQ,aK,Vs.hset,aL,hb,ha,q1,q2];done)
     .have DO:=aJH H[i] Z I w U Y h0;have e0:(stC H[i] I != 0)=true:=by simp[h0]
      have G:=aAa O M (by unfold dsC;rw[Y];exact h0);rw[hR] at G;subst G;generalize stC H[i] I=c at *
      repeat' first|simp -dsimp only[go_sem,gx,e0,hf,hg,roV,aCh J,cS]|apply Br.mk<;>intro h<;>try simp -dsimp only[h]|refine aA.borG (B:=[.t 6 0,.t 9 0,.t 9 1]) (by first|exact DO) rfl ?_|refine aA.c (by first|exact WD|exact LS) ?_|refine aC ?_|refine aC9 ?_|fail
      all_goals first|omega|exact⟨_,_,rfl,rfl⟩|exact⟨⟨_,_,rfl,rfl⟩,λh=>h rfl⟩
   .have hq:i=H.length:=by
     have:¬i<H.length:=Dq;omega
    subst hq;have G:=aFU M;rw[hR] at G;subst G
    repeat' first|simp -dsimp only[go_sem,hf,hg,roV,aCh J,cS]|apply Br.mk<;>intro h<;>try simp -dsimp only[h]|refine And.intro ?_ (λh=>absurd rfl h)|refine aC ?_|refine aC9 ?_|fail
    all_goals first|omega|exact⟨_,_,rfl,rfl⟩|exact⟨⟨_,_,rfl,rfl⟩,λh=>h rfl⟩
end
end Go.Proofs.YtklmdppgonhflaaGreatDoor
