/- Cards of a text are selected: the reference's way. -/
import Derived.Test.YtklmdppgonhflaaGreatDoorXwVf
import Derived.Test.YtklmdppgonhflaaGreatDoorXwSh
import Derived.Test.YtklmdppgonhflaaGreatDoorVtR
import Derived.Test.YtklmdppgonhflaaGreatDoorXwSm
import Derived.Test.YtklmdppgonhflaaGreatDoorXwQd
set_option linter.all false
set_option maxHeartbeats 8000000
namespace Go.Proofs.YtklmdppgonhflaaGreatDoor
open Go.Vs
section
variable [Vs.Envs]
attribute [local irreducible] Vs.Fn dJ bB dK dL l03 chB rk cd3 chI stp bD stb qU mgF jC stF bL kZ jH bK
def zO (a b:List (List Int)):Bool:=decide ((a.length:Int)>0)&&(decide ((b.length:Int)>0)&&(bK a != bK b))
def mgC (fr to:Int) (a b:List (List Int)):Int:=if kZ fr to [a,b]=0 then(if zO a b then 9 else if jC fr to a&&jC fr to b then(if(a.length:Int)+(b.length:Int)>40 then 5 else 0) else 6) else kZ fr to [a,b]
def mgV (fr to:Int) (a b:List (List Int)):AV:=if mgC fr to a b=0 then .sl 1 (E cC (jH fr to (a++b))) else .v (.slice none 0 0)
theorem aAO {l:List (List Int)} (h:0<l.length):bK l=((l.getD 0 []).length:Int):=by unfold bK;rw[AC (by omega)]
theorem wrap_add {a b:Nat} (h:a<=1048576) (h2:b<=1048576):IntKind.i64.wrap ((a:Int)+(b:Int))=(a:Int)+(b:Int):=aI (by omega) (by omega)
attribute [local go_sem] Int.reduceBEq Int.reduceBNe cD aH Af Ag Ao Aq Ae Aj Ad Al Ac Ai Ap Av Am Ak AR BQ Vs.Name.t.injEq BF BG aU bF aT Ar Be in
theorem aCA (a b:List (List Int)) (fr to:Int) (U:bO a) (hb:bO b):Fz F.oV [.sl 1 (E cC a),.sl 1 (E cC b),.agg (cFd fr to)] (.tup [mgV fr to a b,.v (.int .i64 (mgC fr to a b))]):=by
 have Y:=wrap_add U.1 hb.1;by_cases M:kZ fr to [a,b]=0
 rotate_left
 .have e0:(kZ fr to [a,b] != 0)=true:=by simp[M]
  have G:mgC fr to a b=kZ fr to [a,b]:=by simp[mgC,M]
  rw[show mgV fr to a b=.v (.slice none 0 0) by simp[mgV,G,M],G];have CC:=wR fr to [a,b] (aAU U hb);refine fn0 Cd.i_MergeDecks_k λX=>?_
  repeat' first|simp -dsimp only[go_sem,cC,cFd,e0]|apply Br.mk<;>intro h<;>try simp -dsimp only[h]|refine aA.c (by first|exact CC) ?_|refine aC ?_|refine aC9 ?_|fail
  all_goals first|exact⟨_,_,rfl,rfl⟩
 obtain⟨⟨da,db⟩,⟨fa,fb⟩,ca,cb⟩:=aC1 M;have oa:=eG da fa;have ob:=eG db fb;have CC:=wR fr to [a,b] (aAU U hb);rw[M] at CC;have DA:=jG a;have DB:=jG b;by_cases hA:0<a.length
 .have O:decide ((a.length:Int)>0)=true:=A9 (by omega);have wA:=aAO hA;have gA:=aEQ hA;by_cases hB:0<b.length
  .have eB:decide ((b.length:Int)>0)=true:=A9 (by omega);have wB:=aAO hB;have gB:=aEQ hB;cases eW:(bK a != bK b)
   .have V:=eW;rw[wA,wB] at V;have I:zO a b=false:=by simp only[zO,O,eB,eW];rfl
    cases h1:jC fr to a
    .have H:=aY a fr to oa U.1;have J:=aY b fr to ob hb.1;rw[h1] at H;have G:mgC fr to a b=6:=by simp[mgC,M,I,h1]
     rw[show mgV fr to a b=.v (.slice none 0 0) by simp[mgV,G],G];refine fn0 Cd.i_MergeDecks_k λX=>?_
     repeat' first|simp -dsimp only[go_sem,cC,cFd,O,eB,eW,V,gA,gB]|apply Br.mk<;>intro h<;>try simp -dsimp only[h]|refine aA.c (by first|exact CC|exact DA|exact DB|exact H|exact J) ?_|refine aC ?_|refine aC9 ?_|fail
     all_goals first|exact⟨_,_,rfl,rfl⟩
    cases h2:jC fr to b
    .have H:=aY a fr to oa U.1;have J:=aY b fr to ob hb.1;rw[h1] at H;rw[h2] at J;have G:mgC fr to a b=6:=by simp[mgC,M,I,h1,h2]
     rw[show mgV fr to a b=.v (.slice none 0 0) by simp[mgV,G],G];refine fn0 Cd.i_MergeDecks_k λX=>?_
     repeat' first|simp -dsimp only[go_sem,cC,cFd,O,eB,eW,V,gA,gB]|apply Br.mk<;>intro h<;>try simp -dsimp only[h]|refine aA.c (by first|exact CC|exact DA|exact DB|exact H|exact J) ?_|refine aC ?_|refine aC9 ?_|fail
     all_goals first|exact⟨_,_,rfl,rfl⟩
    by_cases hs:(a.length:Int)+(b.length:Int)>40
    .have e5:decide ((a.length:Int)+(b.length:Int)>40)=true:=A9 hs;have H:=aY a fr to oa U.1;have J:=aY b fr to ob hb.1;rw[h1] at H;rw[h2] at J;have G:mgC fr to a b=5:=by simp[mgC,M,I,h1,h2,hs]
     rw[show mgV fr to a b=.v (.slice none 0 0) by simp[mgV,G],G];refine fn0 Cd.i_MergeDecks_k λX=>?_
     repeat' first|simp -dsimp only[go_sem,cC,cFd,O,eB,eW,V,gA,gB,Y,e5]|apply Br.mk<;>intro h<;>try simp -dsimp only[h]|refine aA.c (by first|exact CC|exact DA|exact DB|exact H|exact J) ?_|refine aC ?_|refine aC9 ?_|fail
     all_goals first|exact⟨_,_,rfl,rfl⟩
    .have e5:decide ((a.length:Int)+(b.length:Int)>40)=false:=AQ hs;have H:=aY a fr to oa U.1;have J:=aY b fr to ob hb.1;rw[h1] at H;rw[h2] at J;have G:mgC fr to a b=0:=by simp[mgC,M,I,h1,h2,hs]
     rw[show mgV fr to a b=.sl 1 (E cC (jH fr to (a++b))) by simp[mgV,G],G]
     have he:∀c,c∈a++b->okF fr to c:=λc M=>by
      rcases Bg.1 M with h|h
      .exact oa c h
      .exact ob c h
     have SB:=aAT (a++b) fr to he (by simp;omega);have hd:E cC a++E cC b=E cC (a++b):=by rw[aV]
     have Z:(E cC (a++b)).take (a.length+b.length)=E cC (a++b):=Ah (by rw[aH];simp);refine fn0 Cd.i_MergeDecks_k λX=>?_
     repeat' first|simp -dsimp only[go_sem,cC,cFd,O,eB,eW,V,gA,gB,Y,e5,hd,Z]|apply Br.mk<;>intro h<;>try simp -dsimp only[h]|refine aA.c (by first|exact CC|exact DA|exact DB|exact H|exact J) ?_|refine aC ?_|refine aC9 ?_|fail
     refine aA.own (aBa a U.2 U.1) rfl ?_
     repeat' first|simp -dsimp only[go_sem,cC,cFd,O,eB,eW,V,gA,gB,Y,e5,hd,Z]|apply Br.mk<;>intro h<;>try simp -dsimp only[h]|refine aA.c (by first|exact SB) ?_|refine aC ?_|refine aC9 ?_|fail
     all_goals first|omega|exact⟨_,_,rfl,rfl⟩
   .have V:=eW;rw[wA,wB] at V;have I:zO a b=true:=by simp only[zO,O,eB,eW];rfl
    have G:mgC fr to a b=9:=by simp[mgC,M,I]
    rw[show mgV fr to a b=.v (.slice none 0 0) by simp[mgV,G],G];refine fn0 Cd.i_MergeDecks_k λX=>?_
    repeat' first|simp -dsimp only[go_sem,cC,cFd,O,eB,eW,V,gA,gB]|apply Br.mk<;>intro h<;>try simp -dsimp only[h]|refine aA.c (by first|exact CC|exact DA|exact DB) ?_|refine aC ?_|refine aC9 ?_|fail
    all_goals first|exact⟨_,_,rfl,rfl⟩
  .have eB:decide ((b.length:Int)>0)=false:=AQ (by omega);have I:zO a b=false:=by simp only[zO,O,eB];rfl
   cases h1:jC fr to a
   .have H:=aY a fr to oa U.1;have J:=aY b fr to ob hb.1;rw[h1] at H;have G:mgC fr to a b=6:=by simp[mgC,M,I,h1]
    rw[show mgV fr to a b=.v (.slice none 0 0) by simp[mgV,G],G];refine fn0 Cd.i_MergeDecks_k λX=>?_
    repeat' first|simp -dsimp only[go_sem,cC,cFd,O,eB]|apply Br.mk<;>intro h<;>try simp -dsimp only[h]|refine aA.c (by first|exact CC|exact DA|exact DB|exact H|exact J) ?_|refine aC ?_|refine aC9 ?_|fail
    all_goals first|exact⟨_,_,rfl,rfl⟩
   cases h2:jC fr to b
   .have H:=aY a fr to oa U.1;have J:=aY b fr to ob hb.1;rw[h1] at H;rw[h2] at J;have G:mgC fr to a b=6:=by simp[mgC,M,I,h1,h2]
    rw[show mgV fr to a b=.v (.slice none 0 0) by simp[mgV,G],G];refine fn0 Cd.i_MergeDecks_k λX=>?_
    repeat' first|simp -dsimp only[go_sem,cC,cFd,O,eB]|apply Br.mk<;>intro h<;>try simp -dsimp only[h]|refine aA.c (by first|exact CC|exact DA|exact DB|exact H|exact J) ?_|refine aC ?_|refine aC9 ?_|fail
    all_goals first|exact⟨_,_,rfl,rfl⟩
   by_cases hs:(a.length:Int)+(b.length:Int)>40
   .have e5:decide ((a.length:Int)+(b.length:Int)>40)=true:=A9 hs;have H:=aY a fr to oa U.1;have J:=aY b fr to ob hb.1;rw[h1] at H;rw[h2] at J;have G:mgC fr to a b=5:=by simp[mgC,M,I,h1,h2,hs]
    rw[show mgV fr to a b=.v (.slice none 0 0) by simp[mgV,G],G];refine fn0 Cd.i_MergeDecks_k λX=>?_
    repeat' first|simp -dsimp only[go_sem,cC,cFd,O,eB,Y,e5]|apply Br.mk<;>intro h<;>try simp -dsimp only[h]|refine aA.c (by first|exact CC|exact DA|exact DB|exact H|exact J) ?_|refine aC ?_|refine aC9 ?_|fail
    all_goals first|exact⟨_,_,rfl,rfl⟩
   .have e5:decide ((a.length:Int)+(b.length:Int)>40)=false:=AQ hs;have H:=aY a fr to oa U.1;have J:=aY b fr to ob hb.1;rw[h1] at H;rw[h2] at J;have G:mgC fr to a b=0:=by simp[mgC,M,I,h1,h2,hs]
    rw[show mgV fr to a b=.sl 1 (E cC (jH fr to (a++b))) by simp[mgV,G],G]
    have he:∀c,c∈a++b->okF fr to c:=λc M=>by
     rcases Bg.1 M with h|h
     .exact oa c h
     .exact ob c h
    have SB:=aAT (a++b) fr to he (by simp;omega);have hd:E cC a++E cC b=E cC (a++b):=by rw[aV]
    have Z:(E cC (a++b)).take (a.length+b.length)=E cC (a++b):=Ah (by rw[aH];simp);refine fn0 Cd.i_MergeDecks_k λX=>?_
    repeat' first|simp -dsimp only[go_sem,cC,cFd,O,eB,Y,e5,hd,Z]|apply Br.mk<;>intro h<;>try simp -dsimp only[h]|refine aA.c (by first|exact CC|exact DA|exact DB|exact H|exact J) ?_|refine aC ?_|refine aC9 ?_|fail
    refine aA.own (aBa a U.2 U.1) rfl ?_
    repeat' first|simp -dsimp only[go_sem,cC,cFd,O,eB,Y,e5,hd,Z]|apply Br.mk<;>intro h<;>try simp -dsimp only[h]|refine aA.c (by first|exact SB) ?_|refine aC ?_|refine aC9 ?_|fail
    all_goals first|omega|exact⟨_,_,rfl,rfl⟩
 .have O:decide ((a.length:Int)>0)=false:=AQ (by omega);have I:zO a b=false:=by simp only[zO,O];rfl
  cases h1:jC fr to a
  .have H:=aY a fr to oa U.1;have J:=aY b fr to ob hb.1;rw[h1] at H;have G:mgC fr to a b=6:=by simp[mgC,M,I,h1]
   rw[show mgV fr to a b=.v (.slice none 0 0) by simp[mgV,G],G];refine fn0 Cd.i_MergeDecks_k λX=>?_
   repeat' first|simp -dsimp only[go_sem,cC,cFd,O]|apply Br.mk<;>intro h<;>try simp -dsimp only[h]|refine aA.c (by first|exact CC|exact DA|exact DB|exact H|exact J) ?_|refine aC ?_|refine aC9 ?_|fail
   all_goals first|exact⟨_,_,rfl,rfl⟩
  cases h2:jC fr to b
  .have H:=aY a fr to oa U.1;have J:=aY b fr to ob hb.1;rw[h1] at H;rw[h2] at J;have G:mgC fr to a b=6:=by simp[mgC,M,I,h1,h2]
   rw[show mgV fr to a b=.v (.slice none 0 0) by simp[mgV,G],G];refine fn0 Cd.i_MergeDecks_k λX=>?_
   repeat' first|simp -dsimp only[go_sem,cC,cFd,O]|apply Br.mk<;>intro h<;>try simp -dsimp only[h]|refine aA.c (by first|exact CC|exact DA|exact DB|exact H|exact J) ?_|refine aC ?_|refine aC9 ?_|fail
   all_goals first|exact⟨_,_,rfl,rfl⟩
  by_cases hs:(a.length:Int)+(b.length:Int)>40
  .have e5:decide ((a.length:Int)+(b.length:Int)>40)=true:=A9 hs;have H:=aY a fr to oa U.1;have J:=aY b fr to ob hb.1;rw[h1] at H;rw[h2] at J;have G:mgC fr to a b=5:=by simp[mgC,M,I,h1,h2,hs]
   rw[show mgV fr to a b=.v (.slice none 0 0) by simp[mgV,G],G];refine fn0 Cd.i_MergeDecks_k λX=>?_
   repeat' first|simp -dsimp only[go_sem,cC,cFd,O,Y,e5]|apply Br.mk<;>intro h<;>try simp -dsimp only[h]|refine aA.c (by first|exact CC|exact DA|exact DB|exact H|exact J) ?_|refine aC ?_|refine aC9 ?_|fail
   all_goals first|exact⟨_,_,rfl,rfl⟩
  .have e5:decide ((a.length:Int)+(b.length:Int)>40)=false:=AQ hs;have H:=aY a fr to oa U.1;have J:=aY b fr to ob hb.1;rw[h1] at H;rw[h2] at J;have G:mgC fr to a b=0:=by simp[mgC,M,I,h1,h2,hs]
   rw[show mgV fr to a b=.sl 1 (E cC (jH fr to (a++b))) by simp[mgV,G],G]
   have he:∀c,c∈a++b->okF fr to c:=λc M=>by
    rcases Bg.1 M with h|h
    .exact oa c h
    .exact ob c h
   have SB:=aAT (a++b) fr to he (by simp;omega);have hd:E cC a++E cC b=E cC (a++b):=by rw[aV]
   have Z:(E cC (a++b)).take (a.length+b.length)=E cC (a++b):=Ah (by rw[aH];simp);refine fn0 Cd.i_MergeDecks_k λX=>?_
   repeat' first|simp -dsimp only[go_sem,cC,cFd,O,Y,e5,hd,Z]|apply Br.mk<;>intro h<;>try simp -dsimp only[h]|refine aA.c (by first|exact CC|exact DA|exact DB|exact H|exact J) ?_|refine aC ?_|refine aC9 ?_|fail
   refine aA.own (aBa a U.2 U.1) rfl ?_
   repeat' first|simp -dsimp only[go_sem,cC,cFd,O,Y,e5,hd,Z]|apply Br.mk<;>intro h<;>try simp -dsimp only[h]|refine aA.c (by first|exact SB) ?_|refine aC ?_|refine aC9 ?_|fail
   all_goals first|omega|exact⟨_,_,rfl,rfl⟩
end
section
variable [Vs.Envs]
attribute [local irreducible] Vs.Fn dJ bB dK dL l03 chB rk cd3 chI stp bD stb mgF jC stF bL kZ bK
attribute [local go_sem] Int.reduceBEq Int.reduceBNe cD aH Af Ag Ao Aq Ae Aj Ad Al Ac Ai Ap Av Am Ak AR BQ Vs.Name.t.injEq BF BG aU bF aT Ar Be in
theorem aCw (a b:List (List Int)) (fr to:Int) (Y:bO a) (Z:bO b):Fz F.oF [.sl 1 (E cC a),.sl 1 (E cC b),.agg (cFd fr to)] (.tup [mgV fr to a b,.v (.int .i64 (mgC fr to a b))]):=by
 have hf:=wrap_add Y.1 Z.1;by_cases J:kZ fr to [a,b]=0
 rotate_left
 .have e0:(kZ fr to [a,b] != 0)=true:=by simp[J]
  have G:mgC fr to a b=kZ fr to [a,b]:=by simp[mgC,J]
  rw[show mgV fr to a b=.v (.slice none 0 0) by simp[mgV,G,J],G];have CC:=aFn a b fr to Y Z;rw[show twV fr to a b a=.v (.slice none 0 0) by simp[twV,J],show twV fr to a b b=.v (.slice none 0 0) by simp[twV,J]] at CC;refine fn0 Cd.s_MergeDecks_k λX=>?_
  repeat' first|simp -dsimp only[go_sem,cC,cFd,e0]|apply Br.mk<;>intro h<;>try simp -dsimp only[h]|refine aA.c (by first|exact CC) ?_|refine aC ?_|refine aC9 ?_|fail
  all_goals first|exact⟨_,_,rfl,rfl⟩
 obtain⟨⟨da,db⟩,⟨fa,fb⟩,ca,cb⟩:=aC1 J;have oa:=eG da fa;have ob:=eG db fb;have CC:=aFn a b fr to Y Z;rw[show twV fr to a b a=.sl 1 (E cSt (bV fr to a)) by simp[twV,J],show twV fr to a b b=.sl 1 (E cSt (bV fr to b)) by simp[twV,J],J] at CC;by_cases hA:0<a.length
 .have V:decide ((a.length:Int)>0)=true:=A9 (by omega);have wA:=aAO hA;have gA:=aEQ hA;by_cases hB:0<b.length
  .have eB:decide ((b.length:Int)>0)=true:=A9 (by omega);have wB:=aAO hB;have gB:=aEQ hB;cases eW:(bK a != bK b)
   .have hd:=eW;rw[wA,wB] at hd;have I:zO a b=false:=by simp only[zO,V,eB,eW];rfl
    cases h1:jC fr to a
    .have H:=dN fr to a;rw[h1] at H;have O:=cB a fr to oa ca Y.1;have U:=cB b fr to ob cb Z.1;have G:mgC fr to a b=6:=by simp[mgC,J,I,h1]
     rw[show mgV fr to a b=.v (.slice none 0 0) by simp[mgV,G],G];refine fn0 Cd.s_MergeDecks_k λX=>?_
     repeat' first|simp -dsimp only[go_sem,cC,cFd,V,eB,eW,hd,gA,gB,H]|apply Br.mk<;>intro h<;>try simp -dsimp only[h]|refine aA.c (by first|exact CC|exact O|exact U) ?_|refine aC ?_|refine aC9 ?_|fail
     all_goals first|exact⟨_,_,rfl,rfl⟩
    cases h2:jC fr to b
    .have H:=dN fr to a;rw[h1] at H;have O:=cB a fr to oa ca Y.1;have U:=cB b fr to ob cb Z.1;have M:=dN fr to b;rw[h2] at M;have G:mgC fr to a b=6:=by simp[mgC,J,I,h1,h2]
     rw[show mgV fr to a b=.v (.slice none 0 0) by simp[mgV,G],G];refine fn0 Cd.s_MergeDecks_k λX=>?_
     repeat' first|simp -dsimp only[go_sem,cC,cFd,V,eB,eW,hd,gA,gB,H,M]|apply Br.mk<;>intro h<;>try simp -dsimp only[h]|refine aA.c (by first|exact CC|exact O|exact U) ?_|refine aC ?_|refine aC9 ?_|fail
     all_goals first|exact⟨_,_,rfl,rfl⟩
    by_cases hs:(a.length:Int)+(b.length:Int)>40
    .have e5:decide ((a.length:Int)+(b.length:Int)>40)=true:=A9 hs;have H:=dN fr to a;rw[h1] at H;have O:=cB a fr to oa ca Y.1;have U:=cB b fr to ob cb Z.1;have M:=dN fr to b;rw[h2] at M;have G:mgC fr to a b=5:=by simp[mgC,J,I,h1,h2,hs]
     rw[show mgV fr to a b=.v (.slice none 0 0) by simp[mgV,G],G];refine fn0 Cd.s_MergeDecks_k λX=>?_
     repeat' first|simp -dsimp only[go_sem,cC,cFd,V,eB,eW,hd,gA,gB,hf,e5,H,M]|apply Br.mk<;>intro h<;>try simp -dsimp only[h]|refine aA.c (by first|exact CC|exact O|exact U) ?_|refine aC ?_|refine aC9 ?_|fail
     all_goals first|exact⟨_,_,rfl,rfl⟩
    .have e5:decide ((a.length:Int)+(b.length:Int)>40)=false:=AQ hs;have H:=dN fr to a;rw[h1] at H;have O:=cB a fr to oa ca Y.1;have U:=cB b fr to ob cb Z.1;have M:=dN fr to b;rw[h2] at M
     have he:∀c,c∈a++b->okF fr to c:=λc J=>by
      rcases Bg.1 J with h|h
      .exact oa c h
      .exact ob c h
     have MG:=aDD a b fr to Y Z oa ob ca cb (by omega);rw[aHq he (by omega) h1 h2,show(qU fr to (a++b)).map (λi=>(a++b).getD i.toNat [])=jH fr to (a++b) by unfold jH;rfl] at MG;have G:mgC fr to a b=0:=by simp[mgC,J,I,h1,h2,hs]
     rw[show mgV fr to a b=.sl 1 (E cC (jH fr to (a++b))) by simp[mgV,G],G];refine fn0 Cd.s_MergeDecks_k λX=>?_
     repeat' first|simp -dsimp only[go_sem,cC,cFd,V,eB,eW,hd,gA,gB,hf,e5,H,M]|apply Br.mk<;>intro h<;>try simp -dsimp only[h]|refine aA.c (by first|exact CC|exact O|exact U|exact MG) ?_|refine aC ?_|refine aC9 ?_|fail
     all_goals first|exact⟨_,_,rfl,rfl⟩
   .have hd:=eW;rw[wA,wB] at hd;have I:zO a b=true:=by simp only[zO,V,eB,eW];rfl
    have G:mgC fr to a b=9:=by simp[mgC,J,I]
    rw[show mgV fr to a b=.v (.slice none 0 0) by simp[mgV,G],G];refine fn0 Cd.s_MergeDecks_k λX=>?_
    repeat' first|simp -dsimp only[go_sem,cC,cFd,V,eB,eW,hd,gA,gB]|apply Br.mk<;>intro h<;>try simp -dsimp only[h]|refine aA.c (by first|exact CC) ?_|refine aC ?_|refine aC9 ?_|fail
    all_goals first|exact⟨_,_,rfl,rfl⟩
  .have eB:decide ((b.length:Int)>0)=false:=AQ (by omega);have I:zO a b=false:=by simp only[zO,V,eB];rfl
   cases h1:jC fr to a
   .have H:=dN fr to a;rw[h1] at H;have O:=cB a fr to oa ca Y.1;have U:=cB b fr to ob cb Z.1;have G:mgC fr to a b=6:=by simp[mgC,J,I,h1]
    rw[show mgV fr to a b=.v (.slice none 0 0) by simp[mgV,G],G];refine fn0 Cd.s_MergeDecks_k λX=>?_
    repeat' first|simp -dsimp only[go_sem,cC,cFd,V,eB,H]|apply Br.mk<;>intro h<;>try simp -dsimp only[h]|refine aA.c (by first|exact CC|exact O|exact U) ?_|refine aC ?_|refine aC9 ?_|fail
    all_goals first|exact⟨_,_,rfl,rfl⟩
   cases h2:jC fr to b
   .have H:=dN fr to a;rw[h1] at H;have O:=cB a fr to oa ca Y.1;have U:=cB b fr to ob cb Z.1;have M:=dN fr to b;rw[h2] at M;have G:mgC fr to a b=6:=by simp[mgC,J,I,h1,h2]
    rw[show mgV fr to a b=.v (.slice none 0 0) by simp[mgV,G],G];refine fn0 Cd.s_MergeDecks_k λX=>?_
    repeat' first|simp -dsimp only[go_sem,cC,cFd,V,eB,H,M]|apply Br.mk<;>intro h<;>try simp -dsimp only[h]|refine aA.c (by first|exact CC|exact O|exact U) ?_|refine aC ?_|refine aC9 ?_|fail
    all_goals first|exact⟨_,_,rfl,rfl⟩
   by_cases hs:(a.length:Int)+(b.length:Int)>40
   .have e5:decide ((a.length:Int)+(b.length:Int)>40)=true:=A9 hs;have H:=dN fr to a;rw[h1] at H;have O:=cB a fr to oa ca Y.1;have U:=cB b fr to ob cb Z.1;have M:=dN fr to b;rw[h2] at M;have G:mgC fr to a b=5:=by simp[mgC,J,I,h1,h2,hs]
    rw[show mgV fr to a b=.v (.slice none 0 0) by simp[mgV,G],G];refine fn0 Cd.s_MergeDecks_k λX=>?_
    repeat' first|simp -dsimp only[go_sem,cC,cFd,V,eB,hf,e5,H,M]|apply Br.mk<;>intro h<;>try simp -dsimp only[h]|refine aA.c (by first|exact CC|exact O|exact U) ?_|refine aC ?_|refine aC9 ?_|fail
    all_goals first|exact⟨_,_,rfl,rfl⟩
   .have e5:decide ((a.length:Int)+(b.length:Int)>40)=false:=AQ hs;have H:=dN fr to a;rw[h1] at H;have O:=cB a fr to oa ca Y.1;have U:=cB b fr to ob cb Z.1;have M:=dN fr to b;rw[h2] at M
    have he:∀c,c∈a++b->okF fr to c:=λc J=>by
     rcases Bg.1 J with h|h
     .exact oa c h
     .exact ob c h
    have MG:=aDD a b fr to Y Z oa ob ca cb (by omega);rw[aHq he (by omega) h1 h2,show(qU fr to (a++b)).map (λi=>(a++b).getD i.toNat [])=jH fr to (a++b) by unfold jH;rfl] at MG;have G:mgC fr to a b=0:=by simp[mgC,J,I,h1,h2,hs]
    rw[show mgV fr to a b=.sl 1 (E cC (jH fr to (a++b))) by simp[mgV,G],G];refine fn0 Cd.s_MergeDecks_k λX=>?_
    repeat' first|simp -dsimp only[go_sem,cC,cFd,V,eB,hf,e5,H,M]|apply Br.mk<;>intro h<;>try simp -dsimp only[h]|refine aA.c (by first|exact CC|exact O|exact U|exact MG) ?_|refine aC ?_|refine aC9 ?_|fail
    all_goals first|exact⟨_,_,rfl,rfl⟩
 .have V:decide ((a.length:Int)>0)=false:=AQ (by omega);have I:zO a b=false:=by simp only[zO,V];rfl
  cases h1:jC fr to a
  .have H:=dN fr to a;rw[h1] at H;have O:=cB a fr to oa ca Y.1;have U:=cB b fr to ob cb Z.1;have G:mgC fr to a b=6:=by simp[mgC,J,I,h1]
   rw[show mgV fr to a b=.v (.slice none 0 0) by simp[mgV,G],G];refine fn0 Cd.s_MergeDecks_k λX=>?_
   repeat' first|simp -dsimp only[go_sem,cC,cFd,V,H]|apply Br.mk<;>intro h<;>try simp -dsimp only[h]|refine aA.c (by first|exact CC|exact O|exact U) ?_|refine aC ?_|refine aC9 ?_|fail
   all_goals first|exact⟨_,_,rfl,rfl⟩
  cases h2:jC fr to b
  .have H:=dN fr to a;rw[h1] at H;have O:=cB a fr to oa ca Y.1;have U:=cB b fr to ob cb Z.1;have M:=dN fr to b;rw[h2] at M;have G:mgC fr to a b=6:=by simp[mgC,J,I,h1,h2]
   rw[show mgV fr to a b=.v (.slice none 0 0) by simp[mgV,G],G];refine fn0 Cd.s_MergeDecks_k λX=>?_
   repeat' first|simp -dsimp only[go_sem,cC,cFd,V,H,M]|apply Br.mk<;>intro h<;>try simp -dsimp only[h]|refine aA.c (by first|exact CC|exact O|exact U) ?_|refine aC ?_|refine aC9 ?_|fail
   all_goals first|exact⟨_,_,rfl,rfl⟩
  by_cases hs:(a.length:Int)+(b.length:Int)>40
  .have e5:decide ((a.length:Int)+(b.length:Int)>40)=true:=A9 hs;have H:=dN fr to a;rw[h1] at H;have O:=cB a fr to oa ca Y.1;have U:=cB b fr to ob cb Z.1;have M:=dN fr to b;rw[h2] at M;have G:mgC fr to a b=5:=by simp[mgC,J,I,h1,h2,hs]
   rw[show mgV fr to a b=.v (.slice none 0 0) by simp[mgV,G],G];refine fn0 Cd.s_MergeDecks_k λX=>?_
   repeat' first|simp -dsimp only[go_sem,cC,cFd,V,hf,e5,H,M]|apply Br.mk<;>intro h<;>try simp -dsimp only[h]|refine aA.c (by first|exact CC|exact O|exact U) ?_|refine aC ?_|refine aC9 ?_|fail
   all_goals first|exact⟨_,_,rfl,rfl⟩
  .have e5:decide ((a.length:Int)+(b.length:Int)>40)=false:=AQ hs;have H:=dN fr to a;rw[h1] at H;have O:=cB a fr to oa ca Y.1;have U:=cB b fr to ob cb Z.1;have M:=dN fr to b;rw[h2] at M
   have he:∀c,c∈a++b->okF fr to c:=λc J=>by
    rcases Bg.1 J with h|h
    .exact oa c h
    .exact ob c h
   have MG:=aDD a b fr to Y Z oa ob ca cb (by omega);rw[aHq he (by omega) h1 h2,show(qU fr to (a++b)).map (λi=>(a++b).getD i.toNat [])=jH fr to (a++b) by unfold jH;rfl] at MG;have G:mgC fr to a b=0:=by simp[mgC,J,I,h1,h2,hs]
   rw[show mgV fr to a b=.sl 1 (E cC (jH fr to (a++b))) by simp[mgV,G],G];refine fn0 Cd.s_MergeDecks_k λX=>?_
   repeat' first|simp -dsimp only[go_sem,cC,cFd,V,hf,e5,H,M]|apply Br.mk<;>intro h<;>try simp -dsimp only[h]|refine aA.c (by first|exact CC|exact O|exact U|exact MG) ?_|refine aC ?_|refine aC9 ?_|fail
   all_goals first|exact⟨_,_,rfl,rfl⟩
end
section
variable [Vs.Envs]
attribute [local irreducible] Vs.Fn bU dJ bB dK dL l03 chB rk cd3 chI stp bD
attribute [local go_sem] aH Af Ag Ao Aq Ae Aj Ad Al Ac Ai Ap in
theorem aEz (l:List (List Int)) (fr to:Int) (ho:∀c,c∈l->okF fr to c) (hall:bX fr to l=true) (hl:l.length<=1048576):Fz F.nJ [.sl 1 (E cSt (bV fr to l))] (.sl 1 (E cI (bU fr to l l.length))):=by
 have hkl:(E cSt (bV fr to l)).length=l.length:=by rw[aH];simp[bV]
 have hke:∀i:Nat,i<l.length->(E cSt (bV fr to l)).getD i []=[.v (.string (txt (fH fr to (l.getD i []))))]:=λi hi=>by
  have h:=aLt (fr:=fr) (to:=to) (l:=l) (x:=(i:Int)) ⟨by omega,by omega⟩;rw[BR] at h;exact h
 have hin:∀i:Nat,i<l.length->l.getD i []∈l:=λi hi=>by rw[show l.getD i []=l[i] by simp[List.getD,hi]];exact Aa hi
 have hne:∀i j:Nat,i<l.length->j<l.length->(!((txt (fH fr to (l.getD i []))).toList==(txt (fH fr to (l.getD j []))).toList))=(cmF fr to (l.getD j []) (l.getD i []) != 0):=λi j hi hj=>by
  have hli:=mE (ho _ (hin i hi));have hlj:=mE (ho _ (hin j hj));have hci:=Az.1 hall _ (hin i hi);have hcj:=Az.1 hall _ (hin j hj);rw[aEY (by rw[hli,hlj]) hci hcj];unfold cmF;rw[aB3 (fH fr to (l.getD i [])) (fH fr to (l.getD j [])) (by rw[hli,hlj])];generalize jM (fH fr to (l.getD i [])) (fH fr to (l.getD j []))=c;by_cases h0:c=0
  .subst h0;rfl
  .have h1:(c==0)=false:=by simp[h0]
   have h2:(-c != 0)=true:=by simp;omega
   rw[h1,h2];rfl
 generalize E cSt (bV fr to l)=K at *
 refine fn0 Cd.s_l09Groups_k λX=>?_
 repeat' first|simp -dsimp only[go_sem,hkl]|apply Br.mk<;>intro h<;>try simp -dsimp only[h]|refine aC ?_|refine aC9 ?_|fail
 refine aP.at dM (X:={zz:Nat×(Unit) // zz.1<=l.length∧True}) (λzz=>[(3,.loc (.t 3 0) 0 (bU fr to l zz.1.1).length),(4,.v (.int .i64 zz.1.1))]) (λzz=>[(.t 3 0,.arr 1 (E cI (bU fr to l zz.1.1)) false)]) (λzz=>l.length-zz.1.1) ⟨(0,()),by omega,trivial⟩ ?_ ?_
 .simp[Vs.LeL,Vs.look,aB,aQ,aK,Vs.hset,aL,Vs.E,xM]
 .rintro⟨⟨i,_⟩,hi,hg⟩;dsimp only at hi hg;simp -dsimp only[go_sem,hkl];refine Br.mk (λhc=>?_) λhc=>?_
  .have hlt:i<l.length:=Dq;have hw:=aJ hlt (by omega);have hgl:=kL fr to l i;have gi:=hke i hlt;have hap:E cI (bU fr to l i)++[[.v (.int .i64 (i:Int))]]=E cI (bU fr to l i++[(i:Int)]):=by rw[aV];rfl
   have hal:(E cI (bU fr to l i)).length=(bU fr to l i).length:=aH ..
   have hgs:=uD fr to l i;by_cases h0:i=0
   .subst h0;rw[AP (.inl rfl)] at hgs;have e0:(((0:Nat):Int)==0)=true:=rfl
    repeat' first|simp -dsimp only[go_sem,e0,hw,hap,hal,gi]|apply Br.mk<;>intro h<;>try simp -dsimp only[h]|refine aC ?_|refine aC9 ?_|fail
    all_goals first|omega|(exact nx (0+1,()) trivial (h2:=by simp[Vs.LeL,Vs.look,aB,aQ,aK,Vs.hset,aL,hgs]))
   .have e0:((i:Int)==0)=false:=by simp[h0]
    have w0:IntKind.i64.wrap ((i:Int)-1)=((i-1:Nat):Int):=by rw[aI (by omega) (by omega)];omega
    have hl1:i-1<l.length:=by omega
    have gj:=hke (i-1) hl1;have hn:=hne i (i-1) hlt hl1;by_cases hc0:cmF fr to (l.getD (i-1) []) (l.getD i [])=0
    .have e1:(cmF fr to (l.getD (i-1) []) (l.getD i []) != 0)=false:=by rw[hc0];rfl
     rw[e1] at hn;rw[AC (by rintro(h|h)<;>contradiction),Be] at hgs
     repeat' first|simp -dsimp only[go_sem,e0,hn,hkl,w0,hw,hap,hal,gi,gj]|apply Br.mk<;>intro h<;>try simp -dsimp only[h]|refine aC ?_|refine aC9 ?_|fail
     all_goals first|omega|(exact nx (i+1,()) trivial (h2:=by simp[Vs.LeL,Vs.look,aB,aQ,aK,Vs.hset,aL,hgs]))
    .have e1:(cmF fr to (l.getD (i-1) []) (l.getD i []) != 0)=true:=bne_iff_ne.2 hc0;rw[e1] at hn;rw[AP (.inr hc0)] at hgs
     repeat' first|simp -dsimp only[go_sem,e0,hn,hkl,w0,hw,hap,hal,gi,gj]|apply Br.mk<;>intro h<;>try simp -dsimp only[h]|refine aC ?_|refine aC9 ?_|fail
     all_goals first|omega|(exact nx (i+1,()) trivial (h2:=by simp[Vs.LeL,Vs.look,aB,aQ,aK,Vs.hset,aL,hgs]))
  .have hge:i=l.length:=by
    have:¬i<l.length:=Dq;omega
   subst hge;simp -dsimp only[go_sem,hkl];have htk:(E cI (bU fr to l l.length)).take (bU fr to l l.length).length=E cI (bU fr to l l.length):=Ah (by rw[aH];exact Au _)
   first|exact⟨⟨_,_,rfl,rfl⟩,λh=>h rfl⟩|(rw[htk];exact⟨⟨_,_,rfl,rfl⟩,λh=>h rfl⟩)|(simp[htk];done)
end
section
variable [Vs.Envs]
attribute [local irreducible] Vs.Fn bU bL kZ dJ bB dK dL l03 chB rk cd3 chI stp bD
def xN (fr to:Int) (l:List (List Int)):List (List Int):=(bU fr to l l.length).map λi=>l.getD i.toNat []
def wL (fr to:Int) (l:List (List Int)):AV:=if bL fr to l=0 then .sl 1 (E cC (xN fr to l)) else .v (.slice none 0 0)
theorem aLZ (fr to:Int) (l:List (List Int)):kZ fr to [l]=bL fr to l:=by
 unfold kZ bL;simp only[BJ,DL,Bool.and_true]
theorem aBW {fr to:Int}{l:List (List Int)}:∀x,x∈bU fr to l l.length->inO l.length x:=λx F=>wJ l.length x F
attribute [local go_sem] cD aH Af Ag Ao Aq Ae Aj Ad Al Ac Ai Ap in
theorem aAG (l:List (List Int)) (fr to:Int) (hk:bO l):Fz F.jU [.sl 1 (E cC l),.agg (cFd fr to)] (.tup [wL fr to l,.v (.int .i64 (bL fr to l))]):=by
 have CC:=wR fr to [l] ⟨by simp,λd hd=>by simp at hd;subst hd;exact hk⟩;rw[aLZ] at CC;by_cases h0:bL fr to l=0
 .obtain⟨hd,hf,ha⟩:=aCS h0;have ho:=eG hd hf;have h40:=jL hd;rw[show wL fr to l=.sl 1 (E cC (xN fr to l)) by simp[wL,h0],h0];have hol:=kL fr to l l.length;have hoi:=aBW (fr:=fr) (to:=to) (l:=l);rw[show xN fr to l=(bU fr to l l.length).map (λi=>l.getD i.toNat []) from rfl];have GO:=aGx l fr to ho (by omega);rw[h0] at CC;generalize bU fr to l l.length=o at *
  refine fn0 Cd.i_FirstOfGroups_k λX=>?_
  repeat' first|simp -dsimp only[go_sem,cC,cFd]|apply Br.mk<;>intro h<;>try simp -dsimp only[h]|refine aA.c (by first|exact CC|exact GO) ?_|refine aC ?_|refine aC9 ?_|fail
  refine aP.at dM (X:={zz:Nat×(Unit) // zz.1<=o.length∧True}) (λzz=>[(7,.loc (.t 7 0) 0 zz.1.1),(22,.v (.int .i64 zz.1.1))]) (λzz=>[(.t 7 0,.arr 1 (E cC ((o.take zz.1.1).map λi=>l.getD i.toNat [])) false)]) (λzz=>o.length-zz.1.1) ⟨(0,()),by omega,trivial⟩ ?_ ?_
  .simp[Vs.LeL,Vs.look,aB,aQ,aK,Vs.hset,aL,Vs.E]
  .rintro⟨⟨i,_⟩,hi,hg⟩;dsimp only at hi hg;simp -dsimp only[go_sem,cC,cFd];refine Br.mk (λhc=>?_) λhc=>?_
   .have hlt:i<o.length:=Dq;have hw:=aJ hlt (by omega);have hx:=hoi _ (Aa hlt);have gx:=aB4 hx;have hm:=oJ hx;have hc20:(l.getD o[i].toNat []).length<=20:=(ho _ hm).2.2.2;have NC:=aCN (l.getD o[i].toNat []) (by omega);have x0:=hx.1;have x1:=hx.2
    have hap:E cC ((o.take i).map λi=>l.getD i.toNat [])++[[.sl 1 (E cI (l.getD o[i].toNat []))]]=E cC ((o.take (i+1)).map λi=>l.getD i.toNat []):=by
     rw[bM hlt,Bu,aV];rfl
    have hal:(E cC ((o.take i).map λi=>l.getD i.toNat [])).length=i:=by rw[aH];simp;omega
    repeat' first|simp -dsimp only[go_sem,dI hlt,hw,hap,hal,gx,cC,cFd]|apply Br.mk<;>intro h<;>try simp -dsimp only[h]|refine aA.c (by first|exact NC) ?_|refine aC ?_|refine aC9 ?_|fail
    all_goals first|omega|(exact nx (i+1,()) trivial (h2:=by simp[Vs.LeL,Vs.look,aB,aQ,aK,Vs.hset,aL,hap]))
   .have hge:i=o.length:=by
     have:¬i<o.length:=Dq;omega
    subst hge;simp -dsimp only[go_sem,cC,cFd]
    have htk:(E cC ((o.take o.length).map λi=>l.getD i.toNat [])).take o.length=E cC (o.map λi=>l.getD i.toNat []):=by
     rw[Ah (Au o.length)];exact Ah (by rw[aH];simp)
    first|exact⟨⟨_,_,rfl,rfl⟩,λh=>h rfl⟩|(rw[htk];exact⟨⟨_,_,rfl,rfl⟩,λh=>h rfl⟩)|(simp[htk];done)
 .have e0:(bL fr to l != 0)=true:=by simp[h0]
  rw[show wL fr to l=.v (.slice none 0 0) by simp[wL,h0]];generalize bL fr to l=c at *
  refine fn0 Cd.i_FirstOfGroups_k λX=>?_
  repeat' first|simp -dsimp only[go_sem,cC,cFd,e0]|apply Br.mk<;>intro h<;>try simp -dsimp only[h]|refine aA.c (by first|exact CC) ?_|refine aC ?_|refine aC9 ?_|fail
  all_goals first|exact⟨_,_,rfl,rfl⟩
attribute [local go_sem] cD aH Af Ag Ao Aq Ae Aj Ad Al Ac Ai Ap in
theorem aAA (l:List (List Int)) (fr to:Int) (hk:bO l):Fz F.jQ [.sl 1 (E cC l),.agg (cFd fr to)] (.tup [wL fr to l,.v (.int .i64 (bL fr to l))]):=by
 have KS:=kV l fr to hk.2 hk.1;by_cases h0:bL fr to l=0
 .obtain⟨hd,hf,ha⟩:=aCS h0;have ho:=eG hd hf;have h40:=jL hd;rw[show wL fr to l=.sl 1 (E cC (xN fr to l)) by simp[wL,h0],h0];have hol:=kL fr to l l.length;have hoi:=aBW (fr:=fr) (to:=to) (l:=l);rw[show xN fr to l=(bU fr to l l.length).map (λi=>l.getD i.toNat []) from rfl];have GO:=aEz l fr to ho ha (by omega);rw[show oN fr to l=.sl 1 (E cSt (bV fr to l)) by simp[oN,h0],h0] at KS;generalize bU fr to l l.length=o at *
  refine fn0 Cd.s_FirstOfGroups_k λX=>?_
  repeat' first|simp -dsimp only[go_sem,cC,cFd]|apply Br.mk<;>intro h<;>try simp -dsimp only[h]|refine aA.c (by first|exact KS|exact GO) ?_|refine aC ?_|refine aC9 ?_|fail
  refine aP.at dM (X:={zz:Nat×(Unit) // zz.1<=o.length∧True}) (λzz=>[(9,.loc (.t 9 0) 0 zz.1.1),(10,.v (.int .i64 zz.1.1))]) (λzz=>[(.t 9 0,.arr 1 (E cC ((o.take zz.1.1).map λi=>l.getD i.toNat [])) false)]) (λzz=>o.length-zz.1.1) ⟨(0,()),by omega,trivial⟩ ?_ ?_
  .simp[Vs.LeL,Vs.look,aB,aQ,aK,Vs.hset,aL,Vs.E]
  .rintro⟨⟨i,_⟩,hi,hg⟩;dsimp only at hi hg;simp -dsimp only[go_sem,cC,cFd];refine Br.mk (λhc=>?_) λhc=>?_
   .have hlt:i<o.length:=Dq;have hw:=aJ hlt (by omega);have hx:=hoi _ (Aa hlt);have gx:=aB4 hx;have hm:=oJ hx;have hc20:(l.getD o[i].toNat []).length<=20:=(ho _ hm).2.2.2;have NC:=yT (l.getD o[i].toNat []) (by omega);have x0:=hx.1;have x1:=hx.2
    have hap:E cC ((o.take i).map λi=>l.getD i.toNat [])++[[.sl 1 (E cI (l.getD o[i].toNat []))]]=E cC ((o.take (i+1)).map λi=>l.getD i.toNat []):=by
     rw[bM hlt,Bu,aV];rfl
    have hal:(E cC ((o.take i).map λi=>l.getD i.toNat [])).length=i:=by rw[aH];simp;omega
    repeat' first|simp -dsimp only[go_sem,dI hlt,hw,hap,hal,gx,cC,cFd]|apply Br.mk<;>intro h<;>try simp -dsimp only[h]|refine aA.c (by first|exact NC) ?_|refine aC ?_|refine aC9 ?_|fail
    all_goals first|omega|(exact nx (i+1,()) trivial (h2:=by simp[Vs.LeL,Vs.look,aB,aQ,aK,Vs.hset,aL,hap]))
   .have hge:i=o.length:=by
     have:¬i<o.length:=Dq;omega
    subst hge;simp -dsimp only[go_sem,cC,cFd]
    have htk:(E cC ((o.take o.length).map λi=>l.getD i.toNat [])).take o.length=E cC (o.map λi=>l.getD i.toNat []):=by
     rw[Ah (Au o.length)];exact Ah (by rw[aH];simp)
    first|exact⟨⟨_,_,rfl,rfl⟩,λh=>h rfl⟩|(rw[htk];exact⟨⟨_,_,rfl,rfl⟩,λh=>h rfl⟩)|(simp[htk];done)
 .have e0:(bL fr to l != 0)=true:=by simp[h0]
  rw[show wL fr to l=.v (.slice none 0 0) by simp[wL,h0]];rw[show oN fr to l=.v (.slice none 0 0) by simp[oN,h0]] at KS;generalize bL fr to l=c at *
  refine fn0 Cd.s_FirstOfGroups_k λX=>?_
  repeat' first|simp -dsimp only[go_sem,cC,cFd,e0]|apply Br.mk<;>intro h<;>try simp -dsimp only[h]|refine aA.c (by first|exact KS) ?_|refine aC ?_|refine aC9 ?_|fail
  all_goals first|exact⟨_,_,rfl,rfl⟩
end
section
variable [Vs.Envs]
attribute [local irreducible] Vs.Fn flt zR bB dK dL stp bD
set_option maxRecDepth 100000 in
theorem aIY:∀n:Nat,n<256->dJ (n:Int)=true->0<=rk (cd3 (n:Int))∧chI (cd3 (n:Int))=(n:Int):=by decide +kernel
attribute [local irreducible] dJ rk cd3 chI
theorem aET {s:ByteArray} (h:bB s=true):∀b,b∈s.data.toList->dJ (b.toNat:Int)=true:=by
 unfold bB at h;exact Az.1 h
theorem aJS {s:ByteArray} (h:bB s=true):cK (bcd s)=true:=by
 unfold cK bcd;rw[Az];intro x G;obtain⟨b,F,rfl⟩:=Bq.1 G;exact A9 (aIY b.toNat (UInt8.toNat_lt _) (aET h b F)).1
theorem aMo {s:ByteArray} (h:bB s=true):txt (bcd s)=s:=by
 have e:(bcd s).map chI=s.data.toList.map λb=>(b.toNat:Int):=by
  unfold bcd;rw[Cb];refine List.map_congr_left λb G=>?_;exact(aIY b.toNat (UInt8.toNat_lt _) (aET h b G)).2
 unfold txt jD;rw[e,Cb]
 have F:(s.data.toList.map ((λn:Int=>UInt8.ofNat n.toNat)∘λb:UInt8=>(b.toNat:Int)))=s.data.toList:=by
  rw[show((λn:Int=>UInt8.ofNat n.toNat)∘λb:UInt8=>(b.toNat:Int))=id from funext λb=>by simp];simp
 rw[F]
theorem aMN {s:ByteArray}{w:Nat} (h:s.size=w):pun s w=bcd s:=by
 unfold pun;rw[h,Cw];simp
theorem aNb {fr to:Int}{c:List Int}{s:ByteArray} (J:okF fr to c) (hh:cK (fH fr to c)=true) (I:s.size=to.toNat-fr.toNat) (H:bB s=true) :
  ((txt (fH fr to c)).toList==s.toList) = !kQ fr to s c:=by
 have G:=aEY (a:=fH fr to c) (b:=bcd s) (by rw[mE J,aC3,I]) hh (aJS H);rw[aMo H] at G;rw[G];unfold kQ cmT;rw[aMN I];generalize jM (fH fr to c) (bcd s)=v;by_cases F:v=0
 .subst F;rfl
 .have e:(v==0)=false:=AB.2 F;rw[e];rcases Int.lt_or_gt_of_ne F with h|h<;>simp[h]
theorem aMv {fr to:Int}{s:ByteArray}{l:List (List Int)}:oC fr to s l=if bL fr to l=0∨bL fr to l=8 then(if l09 s fr to=0 then bL fr to l else l09 s fr to) else bL fr to l:=by
 unfold oC aAt bL l09;cases h1:bC l<;>cases h2:dW fr to (bK l)<;>cases h5:bX fr to l<;>by_cases F:(s.size:Int)=W (to-fr)<;>cases h4:bB s<;>simp[h1,h2,F,h4,h5]
end
section
variable [Vs.Envs]
attribute [local irreducible] Vs.Fn pun cmT flt zR kQ dJ bB dK dL l03 chB rk cd3 chI stp bD
def aKa (fr to:Int) (s:ByteArray) (l:List (List Int)):AV:=if oC fr to s l=0 then .sl 1 (E cSt (bV fr to l)) else .v (.slice none 0 0)
theorem aOv (s:ByteArray) (a b:Int):l09 s a b=2∨l09 s a b=0∨l09 s a b=7:=by
 unfold l09;split
 .exact .inl rfl
 .split
  .exact .inr (.inl rfl)
  .exact .inr (.inr rfl)
theorem aNd (fr to:Int) (l:List (List Int)):bL fr to l=0∨bL fr to l=8∨bL fr to l=1∨bL fr to l=2:=by
 unfold bL;split
 .split
  .split<;>simp
  .simp
 .simp
attribute [local go_sem] Int.reduceBEq Int.reduceBNe Af Ag Ao Aq Ae Aj Ad Al Ac Ai Ap in
theorem aOw (l:List (List Int)) (fr to:Int) (s:ByteArray) (hk:bO l) (hz:s.size<=1048576):Fz F.yH [.sl 1 (E cC l),.agg (cFd fr to),.sl 1 [[.v (.string s)]]] (.tup [aKa fr to s l,.v (.int .i64 (oC fr to s l))]):=by
 have KS:=kV l fr to hk.2 hk.1;have TX:=aIC s fr to hz;have hsc:=aMv (fr:=fr) (to:=to) (s:=s) (l:=l);unfold aKa;rcases aNd fr to l with hc|hc|hc|hc<;>rcases aOv s fr to with hb|hb|hb
 all_goals
  have hs0:=hsc;simp[hc,hb] at hs0;simp only[oN,hc,Bj,Bc,Int.reduceEq] at KS;rw[hs0];simp only[Bj,Bc,Int.reduceEq];refine fn0 Cd.s_l09Ask_k λX=>?_
  repeat' first|simp -dsimp only[go_sem,cC,cFd,hb]|apply Br.mk<;>intro h<;>try simp -dsimp only[h]|refine aA.c (by first|exact KS|exact TX) ?_|refine aC ?_|refine aC9 ?_|fail
  try all_goals first|exact⟨_,_,rfl,rfl⟩|exact⟨⟨_,_,rfl,rfl⟩,λh=>h rfl⟩
  all_goals
   refine aP.at dM (X:={zz:Nat×(Unit) // zz.1<=1∧True}) (λzz=>[(10,.v (.int .i64 (if zz.1.1=0 then 0 else l09 s fr to))),(11,.v (.int .i64 zz.1.1))]) (λzz=>[]) (λzz=>1-zz.1.1) ⟨(0,()),by omega,trivial⟩ ?_ ?_
   .exact le0
   .rintro⟨⟨i,_⟩,hi,hg⟩;dsimp only at hi hg;simp -dsimp only[go_sem,cC,cFd,hb];refine Br.mk (λhc=>?_) λhc=>?_
    .have hlt:i<1:=Dq;have hw:=aJ hlt (by omega);obtain rfl:i=0:=by omega
     repeat' first|simp -dsimp only[go_sem,cC,cFd,hb,hw]|apply Br.mk<;>intro h<;>try simp -dsimp only[h]|refine aA.c (by first|exact TX) ?_|refine aC ?_|refine aC9 ?_|fail
     all_goals first|exact λ_=>⟨⟨_,_,rfl,rfl⟩,λh=>h rfl⟩|omega|exact⟨_,_,rfl,rfl⟩|exact⟨⟨_,_,rfl,rfl⟩,λh=>h rfl⟩|exact⟨λ_=>⟨_,_,rfl,rfl⟩,λh=>absurd rfl h⟩|(exact nx (1,()) trivial (h2:=by simp[Vs.LeL,Vs.look,aB,aQ,aK,Vs.hset,aL,hb]))
    .have hge:i=1:=by
      have:¬i<1:=Dq;omega
     subst hge;simp -dsimp only[go_sem,cC,cFd,hb]
     first|exact⟨⟨_,_,rfl,rfl⟩,λh=>h rfl⟩|omega|exact⟨_,_,rfl,rfl⟩|exact⟨⟨_,_,rfl,rfl⟩,λh=>h rfl⟩|exact⟨λ_=>⟨_,_,rfl,rfl⟩,λh=>absurd rfl h⟩
end
end Go.Proofs.YtklmdppgonhflaaGreatDoor
