/- Cards of a text are selected: the reference's way. -/
import Derived.Test.YtmiiohemehacjaaGreatDoorXwVf
import Derived.Test.YtmiiohemehacjaaGreatDoorXwSh
import Derived.Test.YtmiiohemehacjaaGreatDoorVtR
import Derived.Test.YtmiiohemehacjaaGreatDoorXwSm
set_option linter.all false
set_option maxHeartbeats 8000000
namespace Go.Proofs.YtmiiohemehacjaaGreatDoor
open Go.Vs
section
variable [Vs.Envs]
attribute [local irreducible] Vs.Fn chOK areCh chTo chAt l03 chB rk cd3 chI stp stpTo stb pM mgF iL stF bD jY eU bL
def yH (a b:List (List Int)):Bool:=decide ((a.length:Int)>0)&&(decide ((b.length:Int)>0)&&(bL a != bL b))
def mgC (fr to:Int) (a b:List (List Int)):Int:=if jY fr to [a,b]=0 then(if yH a b then 9 else if iL fr to a&&iL fr to b then(if(a.length:Int)+(b.length:Int)>40 then 5 else 0) else 6) else jY fr to [a,b]
def mgV (fr to:Int) (a b:List (List Int)):AV:=if mgC fr to a b=0 then .sl 1 (E cC (eU fr to (a++b))) else .v (.slice none 0 0)
theorem aAy {l:List (List Int)} (h:0<l.length):bL l=((l.getD 0 []).length:Int):=by unfold bL;rw[AJ (by omega)]
theorem wrap_add {a b:Nat} (h:a<=1048576) (h2:b<=1048576):IntKind.i64.wrap ((a:Int)+(b:Int))=(a:Int)+(b:Int):=aM (by omega) (by omega)
attribute [local go_sem] Int.reduceBEq Int.reduceBNe cD aH Ai Ah Al Aq Ad Af Ac Ae Aa Ab Ao Ar Ay Az Bo Bq Vs.Name.t.injEq AO AP aX bG aW Ak AA in
theorem aCf (a b:List (List Int)) (fr to:Int) (M:bE a) (hb:bE b):Fz F.nU [.sl 1 (E cC a),.sl 1 (E cC b),.agg (cFd fr to)] (.tup [mgV fr to a b,.v (.int .i64 (mgC fr to a b))]):=by
 have U:=wrap_add M.1 hb.1;by_cases J:jY fr to [a,b]=0
 rotate_left
 .have e0:(jY fr to [a,b] != 0)=true:=by simp[J]
  have u:mgC fr to a b=jY fr to [a,b]:=by simp[mgC,J]
  rw[show mgV fr to a b=.v (.slice none 0 0) by simp[mgV,u,J],u];have CC:=vM fr to [a,b] (aAD M hb);refine fn0 Cd.i_MergeDecks_k λX=>?_
  repeat' first|simp -dsimp only[go_sem,cC,cFd,e0]|apply Br.mk<;>intro h<;>try simp -dsimp only[h]|refine aA.c (by first|exact CC) ?_|refine aC ?_|fail
  all_goals first|exact⟨_,_,rfl,rfl⟩
 obtain⟨⟨da,db⟩,⟨fa,fb⟩,ca,cb⟩:=aCE J;have oa:=fE da fa;have ob:=fE db fb;have CC:=vM fr to [a,b] (aAD M hb);rw[J] at CC;have DA:=eZ a;have DB:=eZ b;by_cases hA:0<a.length
 .have L:decide ((a.length:Int)>0)=true:=AR (by omega);have wA:=aAy hA;have gA:=aEp hA;by_cases hB:0<b.length
  .have eB:decide ((b.length:Int)>0)=true:=AR (by omega);have wB:=aAy hB;have gB:=aEp hB;cases eW:(bL a != bL b)
   .have O:=eW;rw[wA,wB] at O;have H:yH a b=false:=by simp only[yH,L,eB,eW];rfl
    cases h1:iL fr to a
    .have G:=aZ a fr to oa M.1;have I:=aZ b fr to ob hb.1;rw[h1] at G;have u:mgC fr to a b=6:=by simp[mgC,J,H,h1]
     rw[show mgV fr to a b=.v (.slice none 0 0) by simp[mgV,u],u];refine fn0 Cd.i_MergeDecks_k λX=>?_
     repeat' first|simp -dsimp only[go_sem,cC,cFd,L,eB,eW,O,gA,gB]|apply Br.mk<;>intro h<;>try simp -dsimp only[h]|refine aA.c (by first|exact CC|exact DA|exact DB|exact G|exact I) ?_|refine aC ?_|fail
     all_goals first|exact⟨_,_,rfl,rfl⟩
    cases h2:iL fr to b
    .have G:=aZ a fr to oa M.1;have I:=aZ b fr to ob hb.1;rw[h1] at G;rw[h2] at I;have u:mgC fr to a b=6:=by simp[mgC,J,H,h1,h2]
     rw[show mgV fr to a b=.v (.slice none 0 0) by simp[mgV,u],u];refine fn0 Cd.i_MergeDecks_k λX=>?_
     repeat' first|simp -dsimp only[go_sem,cC,cFd,L,eB,eW,O,gA,gB]|apply Br.mk<;>intro h<;>try simp -dsimp only[h]|refine aA.c (by first|exact CC|exact DA|exact DB|exact G|exact I) ?_|refine aC ?_|fail
     all_goals first|exact⟨_,_,rfl,rfl⟩
    by_cases hs:(a.length:Int)+(b.length:Int)>40
    .have e5:decide ((a.length:Int)+(b.length:Int)>40)=true:=AR hs;have G:=aZ a fr to oa M.1;have I:=aZ b fr to ob hb.1;rw[h1] at G;rw[h2] at I;have u:mgC fr to a b=5:=by simp[mgC,J,H,h1,h2,hs]
     rw[show mgV fr to a b=.v (.slice none 0 0) by simp[mgV,u],u];refine fn0 Cd.i_MergeDecks_k λX=>?_
     repeat' first|simp -dsimp only[go_sem,cC,cFd,L,eB,eW,O,gA,gB,U,e5]|apply Br.mk<;>intro h<;>try simp -dsimp only[h]|refine aA.c (by first|exact CC|exact DA|exact DB|exact G|exact I) ?_|refine aC ?_|fail
     all_goals first|exact⟨_,_,rfl,rfl⟩
    .have e5:decide ((a.length:Int)+(b.length:Int)>40)=false:=AX hs;have G:=aZ a fr to oa M.1;have I:=aZ b fr to ob hb.1;rw[h1] at G;rw[h2] at I;have u:mgC fr to a b=0:=by simp[mgC,J,H,h1,h2,hs]
     rw[show mgV fr to a b=.sl 1 (E cC (eU fr to (a++b))) by simp[mgV,u],u]
     have Z:∀c,c∈a++b->okF fr to c:=λc J=>by
      rcases Be.1 J with h|h
      .exact oa c h
      .exact ob c h
     have SB:=aAC (a++b) fr to Z (by simp;omega);have Y:E cC a++E cC b=E cC (a++b):=by rw[aS]
     have V:(E cC (a++b)).take (a.length+b.length)=E cC (a++b):=Ag (by rw[aH];simp);refine fn0 Cd.i_MergeDecks_k λX=>?_
     repeat' first|simp -dsimp only[go_sem,cC,cFd,L,eB,eW,O,gA,gB,U,e5,Y,V]|apply Br.mk<;>intro h<;>try simp -dsimp only[h]|refine aA.c (by first|exact CC|exact DA|exact DB|exact G|exact I) ?_|refine aC ?_|fail
     refine aA.own (aAU a M.2 M.1) rfl ?_
     repeat' first|simp -dsimp only[go_sem,cC,cFd,L,eB,eW,O,gA,gB,U,e5,Y,V]|apply Br.mk<;>intro h<;>try simp -dsimp only[h]|refine aA.c (by first|exact SB) ?_|refine aC ?_|fail
     all_goals first|omega|exact⟨_,_,rfl,rfl⟩
   .have O:=eW;rw[wA,wB] at O;have H:yH a b=true:=by simp only[yH,L,eB,eW];rfl
    have u:mgC fr to a b=9:=by simp[mgC,J,H]
    rw[show mgV fr to a b=.v (.slice none 0 0) by simp[mgV,u],u];refine fn0 Cd.i_MergeDecks_k λX=>?_
    repeat' first|simp -dsimp only[go_sem,cC,cFd,L,eB,eW,O,gA,gB]|apply Br.mk<;>intro h<;>try simp -dsimp only[h]|refine aA.c (by first|exact CC|exact DA|exact DB) ?_|refine aC ?_|fail
    all_goals first|exact⟨_,_,rfl,rfl⟩
  .have eB:decide ((b.length:Int)>0)=false:=AX (by omega);have H:yH a b=false:=by simp only[yH,L,eB];rfl
   cases h1:iL fr to a
   .have G:=aZ a fr to oa M.1;have I:=aZ b fr to ob hb.1;rw[h1] at G;have u:mgC fr to a b=6:=by simp[mgC,J,H,h1]
    rw[show mgV fr to a b=.v (.slice none 0 0) by simp[mgV,u],u];refine fn0 Cd.i_MergeDecks_k λX=>?_
    repeat' first|simp -dsimp only[go_sem,cC,cFd,L,eB]|apply Br.mk<;>intro h<;>try simp -dsimp only[h]|refine aA.c (by first|exact CC|exact DA|exact DB|exact G|exact I) ?_|refine aC ?_|fail
    all_goals first|exact⟨_,_,rfl,rfl⟩
   cases h2:iL fr to b
   .have G:=aZ a fr to oa M.1;have I:=aZ b fr to ob hb.1;rw[h1] at G;rw[h2] at I;have u:mgC fr to a b=6:=by simp[mgC,J,H,h1,h2]
    rw[show mgV fr to a b=.v (.slice none 0 0) by simp[mgV,u],u];refine fn0 Cd.i_MergeDecks_k λX=>?_
    repeat' first|simp -dsimp only[go_sem,cC,cFd,L,eB]|apply Br.mk<;>intro h<;>try simp -dsimp only[h]|refine aA.c (by first|exact CC|exact DA|exact DB|exact G|exact I) ?_|refine aC ?_|fail
    all_goals first|exact⟨_,_,rfl,rfl⟩
   by_cases hs:(a.length:Int)+(b.length:Int)>40
   .have e5:decide ((a.length:Int)+(b.length:Int)>40)=true:=AR hs;have G:=aZ a fr to oa M.1;have I:=aZ b fr to ob hb.1;rw[h1] at G;rw[h2] at I;have u:mgC fr to a b=5:=by simp[mgC,J,H,h1,h2,hs]
    rw[show mgV fr to a b=.v (.slice none 0 0) by simp[mgV,u],u];refine fn0 Cd.i_MergeDecks_k λX=>?_
    repeat' first|simp -dsimp only[go_sem,cC,cFd,L,eB,U,e5]|apply Br.mk<;>intro h<;>try simp -dsimp only[h]|refine aA.c (by first|exact CC|exact DA|exact DB|exact G|exact I) ?_|refine aC ?_|fail
    all_goals first|exact⟨_,_,rfl,rfl⟩
   .have e5:decide ((a.length:Int)+(b.length:Int)>40)=false:=AX hs;have G:=aZ a fr to oa M.1;have I:=aZ b fr to ob hb.1;rw[h1] at G;rw[h2] at I;have u:mgC fr to a b=0:=by simp[mgC,J,H,h1,h2,hs]
    rw[show mgV fr to a b=.sl 1 (E cC (eU fr to (a++b))) by simp[mgV,u],u]
    have Z:∀c,c∈a++b->okF fr to c:=λc J=>by
     rcases Be.1 J with h|h
     .exact oa c h
     .exact ob c h
    have SB:=aAC (a++b) fr to Z (by simp;omega);have Y:E cC a++E cC b=E cC (a++b):=by rw[aS]
    have V:(E cC (a++b)).take (a.length+b.length)=E cC (a++b):=Ag (by rw[aH];simp);refine fn0 Cd.i_MergeDecks_k λX=>?_
    repeat' first|simp -dsimp only[go_sem,cC,cFd,L,eB,U,e5,Y,V]|apply Br.mk<;>intro h<;>try simp -dsimp only[h]|refine aA.c (by first|exact CC|exact DA|exact DB|exact G|exact I) ?_|refine aC ?_|fail
    refine aA.own (aAU a M.2 M.1) rfl ?_
    repeat' first|simp -dsimp only[go_sem,cC,cFd,L,eB,U,e5,Y,V]|apply Br.mk<;>intro h<;>try simp -dsimp only[h]|refine aA.c (by first|exact SB) ?_|refine aC ?_|fail
    all_goals first|omega|exact⟨_,_,rfl,rfl⟩
 .have L:decide ((a.length:Int)>0)=false:=AX (by omega);have H:yH a b=false:=by simp only[yH,L];rfl
  cases h1:iL fr to a
  .have G:=aZ a fr to oa M.1;have I:=aZ b fr to ob hb.1;rw[h1] at G;have u:mgC fr to a b=6:=by simp[mgC,J,H,h1]
   rw[show mgV fr to a b=.v (.slice none 0 0) by simp[mgV,u],u];refine fn0 Cd.i_MergeDecks_k λX=>?_
   repeat' first|simp -dsimp only[go_sem,cC,cFd,L]|apply Br.mk<;>intro h<;>try simp -dsimp only[h]|refine aA.c (by first|exact CC|exact DA|exact DB|exact G|exact I) ?_|refine aC ?_|fail
   all_goals first|exact⟨_,_,rfl,rfl⟩
  cases h2:iL fr to b
  .have G:=aZ a fr to oa M.1;have I:=aZ b fr to ob hb.1;rw[h1] at G;rw[h2] at I;have u:mgC fr to a b=6:=by simp[mgC,J,H,h1,h2]
   rw[show mgV fr to a b=.v (.slice none 0 0) by simp[mgV,u],u];refine fn0 Cd.i_MergeDecks_k λX=>?_
   repeat' first|simp -dsimp only[go_sem,cC,cFd,L]|apply Br.mk<;>intro h<;>try simp -dsimp only[h]|refine aA.c (by first|exact CC|exact DA|exact DB|exact G|exact I) ?_|refine aC ?_|fail
   all_goals first|exact⟨_,_,rfl,rfl⟩
  by_cases hs:(a.length:Int)+(b.length:Int)>40
  .have e5:decide ((a.length:Int)+(b.length:Int)>40)=true:=AR hs;have G:=aZ a fr to oa M.1;have I:=aZ b fr to ob hb.1;rw[h1] at G;rw[h2] at I;have u:mgC fr to a b=5:=by simp[mgC,J,H,h1,h2,hs]
   rw[show mgV fr to a b=.v (.slice none 0 0) by simp[mgV,u],u];refine fn0 Cd.i_MergeDecks_k λX=>?_
   repeat' first|simp -dsimp only[go_sem,cC,cFd,L,U,e5]|apply Br.mk<;>intro h<;>try simp -dsimp only[h]|refine aA.c (by first|exact CC|exact DA|exact DB|exact G|exact I) ?_|refine aC ?_|fail
   all_goals first|exact⟨_,_,rfl,rfl⟩
  .have e5:decide ((a.length:Int)+(b.length:Int)>40)=false:=AX hs;have G:=aZ a fr to oa M.1;have I:=aZ b fr to ob hb.1;rw[h1] at G;rw[h2] at I;have u:mgC fr to a b=0:=by simp[mgC,J,H,h1,h2,hs]
   rw[show mgV fr to a b=.sl 1 (E cC (eU fr to (a++b))) by simp[mgV,u],u]
   have Z:∀c,c∈a++b->okF fr to c:=λc J=>by
    rcases Be.1 J with h|h
    .exact oa c h
    .exact ob c h
   have SB:=aAC (a++b) fr to Z (by simp;omega);have Y:E cC a++E cC b=E cC (a++b):=by rw[aS]
   have V:(E cC (a++b)).take (a.length+b.length)=E cC (a++b):=Ag (by rw[aH];simp);refine fn0 Cd.i_MergeDecks_k λX=>?_
   repeat' first|simp -dsimp only[go_sem,cC,cFd,L,U,e5,Y,V]|apply Br.mk<;>intro h<;>try simp -dsimp only[h]|refine aA.c (by first|exact CC|exact DA|exact DB|exact G|exact I) ?_|refine aC ?_|fail
   refine aA.own (aAU a M.2 M.1) rfl ?_
   repeat' first|simp -dsimp only[go_sem,cC,cFd,L,U,e5,Y,V]|apply Br.mk<;>intro h<;>try simp -dsimp only[h]|refine aA.c (by first|exact SB) ?_|refine aC ?_|fail
   all_goals first|omega|exact⟨_,_,rfl,rfl⟩
end
section
variable [Vs.Envs]
attribute [local irreducible] Vs.Fn chOK areCh chTo chAt l03 chB rk cd3 chI stp stpTo stb mgF iL stF bD jY bL
attribute [local go_sem] Int.reduceBEq Int.reduceBNe cD aH Ai Ah Al Aq Ad Af Ac Ae Aa Ab Ao Ar Ay Az Bo Bq Vs.Name.t.injEq AO AP aX bG aW Ak AA in
theorem wS (a b:List (List Int)) (fr to:Int) (U:bE a) (V:bE b):Fz F.nH [.sl 1 (E cC a),.sl 1 (E cC b),.agg (cFd fr to)] (.tup [mgV fr to a b,.v (.int .i64 (mgC fr to a b))]):=by
 have hf:=wrap_add U.1 V.1;by_cases I:jY fr to [a,b]=0
 rotate_left
 .have e0:(jY fr to [a,b] != 0)=true:=by simp[I]
  have u:mgC fr to a b=jY fr to [a,b]:=by simp[mgC,I]
  rw[show mgV fr to a b=.v (.slice none 0 0) by simp[mgV,u,I],u];have CC:=aEP a b fr to U V;rw[show twV fr to a b a=.v (.slice none 0 0) by simp[twV,I],show twV fr to a b b=.v (.slice none 0 0) by simp[twV,I]] at CC;refine fn0 Cd.s_MergeDecks_k λX=>?_
  repeat' first|simp -dsimp only[go_sem,cC,cFd,e0]|apply Br.mk<;>intro h<;>try simp -dsimp only[h]|refine aA.c (by first|exact CC) ?_|refine aC ?_|fail
  all_goals first|exact⟨_,_,rfl,rfl⟩
 obtain⟨⟨da,db⟩,⟨fa,fb⟩,ca,cb⟩:=aCE I;have Y:=fE da fa;have Z:=fE db fb;have CC:=aEP a b fr to U V;rw[show twV fr to a b a=.sl 1 (E cSt (bT fr to a)) by simp[twV,I],show twV fr to a b b=.sl 1 (E cSt (bT fr to b)) by simp[twV,I],I] at CC;by_cases hA:0<a.length
 .have O:decide ((a.length:Int)>0)=true:=AR (by omega);have wA:=aAy hA;have gA:=aEp hA;by_cases hB:0<b.length
  .have eB:decide ((b.length:Int)>0)=true:=AR (by omega);have wB:=aAy hB;have gB:=aEp hB;cases eW:(bL a != bL b)
   .have hd:=eW;rw[wA,wB] at hd;have H:yH a b=false:=by simp only[yH,O,eB,eW];rfl
    cases h1:iL fr to a
    .have G:=dO fr to a;rw[h1] at G;have L:=cK a fr to Y ca U.1;have M:=cK b fr to Z cb V.1;have u:mgC fr to a b=6:=by simp[mgC,I,H,h1]
     rw[show mgV fr to a b=.v (.slice none 0 0) by simp[mgV,u],u];refine fn0 Cd.s_MergeDecks_k λX=>?_
     repeat' first|simp -dsimp only[go_sem,cC,cFd,O,eB,eW,hd,gA,gB,G]|apply Br.mk<;>intro h<;>try simp -dsimp only[h]|refine aA.c (by first|exact CC|exact L|exact M) ?_|refine aC ?_|fail
     all_goals first|exact⟨_,_,rfl,rfl⟩
    cases h2:iL fr to b
    .have G:=dO fr to a;rw[h1] at G;have L:=cK a fr to Y ca U.1;have M:=cK b fr to Z cb V.1;have J:=dO fr to b;rw[h2] at J;have u:mgC fr to a b=6:=by simp[mgC,I,H,h1,h2]
     rw[show mgV fr to a b=.v (.slice none 0 0) by simp[mgV,u],u];refine fn0 Cd.s_MergeDecks_k λX=>?_
     repeat' first|simp -dsimp only[go_sem,cC,cFd,O,eB,eW,hd,gA,gB,G,J]|apply Br.mk<;>intro h<;>try simp -dsimp only[h]|refine aA.c (by first|exact CC|exact L|exact M) ?_|refine aC ?_|fail
     all_goals first|exact⟨_,_,rfl,rfl⟩
    by_cases hs:(a.length:Int)+(b.length:Int)>40
    .have e5:decide ((a.length:Int)+(b.length:Int)>40)=true:=AR hs;have G:=dO fr to a;rw[h1] at G;have L:=cK a fr to Y ca U.1;have M:=cK b fr to Z cb V.1;have J:=dO fr to b;rw[h2] at J;have u:mgC fr to a b=5:=by simp[mgC,I,H,h1,h2,hs]
     rw[show mgV fr to a b=.v (.slice none 0 0) by simp[mgV,u],u];refine fn0 Cd.s_MergeDecks_k λX=>?_
     repeat' first|simp -dsimp only[go_sem,cC,cFd,O,eB,eW,hd,gA,gB,hf,e5,G,J]|apply Br.mk<;>intro h<;>try simp -dsimp only[h]|refine aA.c (by first|exact CC|exact L|exact M) ?_|refine aC ?_|fail
     all_goals first|exact⟨_,_,rfl,rfl⟩
    .have e5:decide ((a.length:Int)+(b.length:Int)>40)=false:=AX hs;have G:=dO fr to a;rw[h1] at G;have L:=cK a fr to Y ca U.1;have M:=cK b fr to Z cb V.1;have J:=dO fr to b;rw[h2] at J
     have he:∀c,c∈a++b->okF fr to c:=λc I=>by
      rcases Be.1 I with h|h
      .exact Y c h
      .exact Z c h
     have MG:=aDb a b fr to U V Y Z ca cb (by omega);rw[aGF he (by omega) h1 h2,show(pM fr to (a++b)).map (λi=>(a++b).getD i.toNat [])=eU fr to (a++b) by unfold eU;rfl] at MG;have u:mgC fr to a b=0:=by simp[mgC,I,H,h1,h2,hs]
     rw[show mgV fr to a b=.sl 1 (E cC (eU fr to (a++b))) by simp[mgV,u],u];refine fn0 Cd.s_MergeDecks_k λX=>?_
     repeat' first|simp -dsimp only[go_sem,cC,cFd,O,eB,eW,hd,gA,gB,hf,e5,G,J]|apply Br.mk<;>intro h<;>try simp -dsimp only[h]|refine aA.c (by first|exact CC|exact L|exact M|exact MG) ?_|refine aC ?_|fail
     all_goals first|exact⟨_,_,rfl,rfl⟩
   .have hd:=eW;rw[wA,wB] at hd;have H:yH a b=true:=by simp only[yH,O,eB,eW];rfl
    have u:mgC fr to a b=9:=by simp[mgC,I,H]
    rw[show mgV fr to a b=.v (.slice none 0 0) by simp[mgV,u],u];refine fn0 Cd.s_MergeDecks_k λX=>?_
    repeat' first|simp -dsimp only[go_sem,cC,cFd,O,eB,eW,hd,gA,gB]|apply Br.mk<;>intro h<;>try simp -dsimp only[h]|refine aA.c (by first|exact CC) ?_|refine aC ?_|fail
    all_goals first|exact⟨_,_,rfl,rfl⟩
  .have eB:decide ((b.length:Int)>0)=false:=AX (by omega);have H:yH a b=false:=by simp only[yH,O,eB];rfl
   cases h1:iL fr to a
   .have G:=dO fr to a;rw[h1] at G;have L:=cK a fr to Y ca U.1;have M:=cK b fr to Z cb V.1;have u:mgC fr to a b=6:=by simp[mgC,I,H,h1]
    rw[show mgV fr to a b=.v (.slice none 0 0) by simp[mgV,u],u];refine fn0 Cd.s_MergeDecks_k λX=>?_
    repeat' first|simp -dsimp only[go_sem,cC,cFd,O,eB,G]|apply Br.mk<;>intro h<;>try simp -dsimp only[h]|refine aA.c (by first|exact CC|exact L|exact M) ?_|refine aC ?_|fail
    all_goals first|exact⟨_,_,rfl,rfl⟩
   cases h2:iL fr to b
   .have G:=dO fr to a;rw[h1] at G;have L:=cK a fr to Y ca U.1;have M:=cK b fr to Z cb V.1;have J:=dO fr to b;rw[h2] at J;have u:mgC fr to a b=6:=by simp[mgC,I,H,h1,h2]
    rw[show mgV fr to a b=.v (.slice none 0 0) by simp[mgV,u],u];refine fn0 Cd.s_MergeDecks_k λX=>?_
    repeat' first|simp -dsimp only[go_sem,cC,cFd,O,eB,G,J]|apply Br.mk<;>intro h<;>try simp -dsimp only[h]|refine aA.c (by first|exact CC|exact L|exact M) ?_|refine aC ?_|fail
    all_goals first|exact⟨_,_,rfl,rfl⟩
   by_cases hs:(a.length:Int)+(b.length:Int)>40
   .have e5:decide ((a.length:Int)+(b.length:Int)>40)=true:=AR hs;have G:=dO fr to a;rw[h1] at G;have L:=cK a fr to Y ca U.1;have M:=cK b fr to Z cb V.1;have J:=dO fr to b;rw[h2] at J;have u:mgC fr to a b=5:=by simp[mgC,I,H,h1,h2,hs]
    rw[show mgV fr to a b=.v (.slice none 0 0) by simp[mgV,u],u];refine fn0 Cd.s_MergeDecks_k λX=>?_
    repeat' first|simp -dsimp only[go_sem,cC,cFd,O,eB,hf,e5,G,J]|apply Br.mk<;>intro h<;>try simp -dsimp only[h]|refine aA.c (by first|exact CC|exact L|exact M) ?_|refine aC ?_|fail
    all_goals first|exact⟨_,_,rfl,rfl⟩
   .have e5:decide ((a.length:Int)+(b.length:Int)>40)=false:=AX hs;have G:=dO fr to a;rw[h1] at G;have L:=cK a fr to Y ca U.1;have M:=cK b fr to Z cb V.1;have J:=dO fr to b;rw[h2] at J
    have he:∀c,c∈a++b->okF fr to c:=λc I=>by
     rcases Be.1 I with h|h
     .exact Y c h
     .exact Z c h
    have MG:=aDb a b fr to U V Y Z ca cb (by omega);rw[aGF he (by omega) h1 h2,show(pM fr to (a++b)).map (λi=>(a++b).getD i.toNat [])=eU fr to (a++b) by unfold eU;rfl] at MG;have u:mgC fr to a b=0:=by simp[mgC,I,H,h1,h2,hs]
    rw[show mgV fr to a b=.sl 1 (E cC (eU fr to (a++b))) by simp[mgV,u],u];refine fn0 Cd.s_MergeDecks_k λX=>?_
    repeat' first|simp -dsimp only[go_sem,cC,cFd,O,eB,hf,e5,G,J]|apply Br.mk<;>intro h<;>try simp -dsimp only[h]|refine aA.c (by first|exact CC|exact L|exact M|exact MG) ?_|refine aC ?_|fail
    all_goals first|exact⟨_,_,rfl,rfl⟩
 .have O:decide ((a.length:Int)>0)=false:=AX (by omega);have H:yH a b=false:=by simp only[yH,O];rfl
  cases h1:iL fr to a
  .have G:=dO fr to a;rw[h1] at G;have L:=cK a fr to Y ca U.1;have M:=cK b fr to Z cb V.1;have u:mgC fr to a b=6:=by simp[mgC,I,H,h1]
   rw[show mgV fr to a b=.v (.slice none 0 0) by simp[mgV,u],u];refine fn0 Cd.s_MergeDecks_k λX=>?_
   repeat' first|simp -dsimp only[go_sem,cC,cFd,O,G]|apply Br.mk<;>intro h<;>try simp -dsimp only[h]|refine aA.c (by first|exact CC|exact L|exact M) ?_|refine aC ?_|fail
   all_goals first|exact⟨_,_,rfl,rfl⟩
  cases h2:iL fr to b
  .have G:=dO fr to a;rw[h1] at G;have L:=cK a fr to Y ca U.1;have M:=cK b fr to Z cb V.1;have J:=dO fr to b;rw[h2] at J;have u:mgC fr to a b=6:=by simp[mgC,I,H,h1,h2]
   rw[show mgV fr to a b=.v (.slice none 0 0) by simp[mgV,u],u];refine fn0 Cd.s_MergeDecks_k λX=>?_
   repeat' first|simp -dsimp only[go_sem,cC,cFd,O,G,J]|apply Br.mk<;>intro h<;>try simp -dsimp only[h]|refine aA.c (by first|exact CC|exact L|exact M) ?_|refine aC ?_|fail
   all_goals first|exact⟨_,_,rfl,rfl⟩
  by_cases hs:(a.length:Int)+(b.length:Int)>40
  .have e5:decide ((a.length:Int)+(b.length:Int)>40)=true:=AR hs;have G:=dO fr to a;rw[h1] at G;have L:=cK a fr to Y ca U.1;have M:=cK b fr to Z cb V.1;have J:=dO fr to b;rw[h2] at J;have u:mgC fr to a b=5:=by simp[mgC,I,H,h1,h2,hs]
   rw[show mgV fr to a b=.v (.slice none 0 0) by simp[mgV,u],u];refine fn0 Cd.s_MergeDecks_k λX=>?_
   repeat' first|simp -dsimp only[go_sem,cC,cFd,O,hf,e5,G,J]|apply Br.mk<;>intro h<;>try simp -dsimp only[h]|refine aA.c (by first|exact CC|exact L|exact M) ?_|refine aC ?_|fail
   all_goals first|exact⟨_,_,rfl,rfl⟩
  .have e5:decide ((a.length:Int)+(b.length:Int)>40)=false:=AX hs;have G:=dO fr to a;rw[h1] at G;have L:=cK a fr to Y ca U.1;have M:=cK b fr to Z cb V.1;have J:=dO fr to b;rw[h2] at J
   have he:∀c,c∈a++b->okF fr to c:=λc I=>by
    rcases Be.1 I with h|h
    .exact Y c h
    .exact Z c h
   have MG:=aDb a b fr to U V Y Z ca cb (by omega);rw[aGF he (by omega) h1 h2,show(pM fr to (a++b)).map (λi=>(a++b).getD i.toNat [])=eU fr to (a++b) by unfold eU;rfl] at MG;have u:mgC fr to a b=0:=by simp[mgC,I,H,h1,h2,hs]
   rw[show mgV fr to a b=.sl 1 (E cC (eU fr to (a++b))) by simp[mgV,u],u];refine fn0 Cd.s_MergeDecks_k λX=>?_
   repeat' first|simp -dsimp only[go_sem,cC,cFd,O,hf,e5,G,J]|apply Br.mk<;>intro h<;>try simp -dsimp only[h]|refine aA.c (by first|exact CC|exact L|exact M|exact MG) ?_|refine aC ?_|fail
   all_goals first|exact⟨_,_,rfl,rfl⟩
end
section
variable [Vs.Envs]
attribute [local irreducible] Vs.Fn bS chOK areCh chTo chAt l03 chB rk cd3 chI stp stpTo
attribute [local go_sem] aH Ai Ah Al Aq Ad Af Ac Ae Aa Ab Ao in
theorem aD7 (l:List (List Int)) (fr to:Int) (ho:∀c,c∈l->okF fr to c) (hall:bW fr to l=true) (hl:l.length<=1048576):Fz F.mJ [.sl 1 (E cSt (bT fr to l))] (.sl 1 (E cI (bS fr to l l.length))):=by
 have hkl:(E cSt (bT fr to l)).length=l.length:=by rw[aH];simp[bT]
 have hke:∀i:Nat,i<l.length->(E cSt (bT fr to l)).getD i []=[.v (.string (txt (fH fr to (l.getD i []))))]:=λi hi=>by
  have h:=aKa (fr:=fr) (to:=to) (l:=l) (x:=(i:Int)) ⟨by omega,by omega⟩;rw[Bw] at h;exact h
 have hin:∀i:Nat,i<l.length->l.getD i []∈l:=λi hi=>by rw[show l.getD i []=l[i] by simp[List.getD,hi]];exact Am hi
 have hne:∀i j:Nat,i<l.length->j<l.length->(!((txt (fH fr to (l.getD i []))).toList==(txt (fH fr to (l.getD j []))).toList))=(cmF fr to (l.getD j []) (l.getD i []) != 0):=λi j hi hj=>by
  have hli:=lK (ho _ (hin i hi));have hlj:=lK (ho _ (hin j hj));have hci:=Aw.1 hall _ (hin i hi);have hcj:=Aw.1 hall _ (hin j hj);rw[aEx (by rw[hli,hlj]) hci hcj];unfold cmF;rw[aBF (fH fr to (l.getD i [])) (fH fr to (l.getD j [])) (by rw[hli,hlj])];generalize jC (fH fr to (l.getD i [])) (fH fr to (l.getD j []))=c;by_cases h0:c=0
  .subst h0;rfl
  .have h1:(c==0)=false:=by simp[h0]
   have h2:(-c != 0)=true:=by simp;omega
   rw[h1,h2];rfl
 generalize E cSt (bT fr to l)=K at *
 refine fn0 Cd.s_l09Groups_k λX=>?_
 repeat' first|simp -dsimp only[go_sem,hkl]|apply Br.mk<;>intro h<;>try simp -dsimp only[h]|refine aC ?_|fail
 refine aO.at dM (X:={zz:Nat×(Unit) // zz.1<=l.length∧True}) (λzz=>[(3,.loc (.t 3 0) 0 (bS fr to l zz.1.1).length),(4,.v (.int .i64 zz.1.1))]) (λzz=>[(.t 3 0,.arr 1 (E cI (bS fr to l zz.1.1)) false)]) (λzz=>l.length-zz.1.1) ⟨(0,()),by omega,trivial⟩ ?_ ?_
 .simp[Vs.LeL,Vs.look,aB,aP,aJ,Vs.hset,aK,Vs.E,wK]
 .rintro⟨⟨i,_⟩,hi,hg⟩;dsimp only at hi hg;simp -dsimp only[go_sem,hkl];refine Br.mk (λhc=>?_) λhc=>?_
  .have hlt:i<l.length:=Dq;have hw:=aI hlt (by omega);have hgl:=jV fr to l i;have gi:=hke i hlt;have hap:E cI (bS fr to l i)++[[.v (.int .i64 (i:Int))]]=E cI (bS fr to l i++[(i:Int)]):=by rw[aS];rfl
   have hal:(E cI (bS fr to l i)).length=(bS fr to l i).length:=aH ..
   have hgs:=sK fr to l i;by_cases h0:i=0
   .subst h0;rw[AY (.inl rfl)] at hgs;have e0:(((0:Nat):Int)==0)=true:=rfl
    repeat' first|simp -dsimp only[go_sem,e0,hw,hap,hal,gi]|apply Br.mk<;>intro h<;>try simp -dsimp only[h]|refine aC ?_|fail
    all_goals first|omega|(exact nx (0+1,()) trivial (h2:=by simp[Vs.LeL,Vs.look,aB,aP,aJ,Vs.hset,aK,hgs]))
   .have e0:((i:Int)==0)=false:=by simp[h0]
    have w0:IntKind.i64.wrap ((i:Int)-1)=((i-1:Nat):Int):=by rw[aM (by omega) (by omega)];omega
    have hl1:i-1<l.length:=by omega
    have gj:=hke (i-1) hl1;have hn:=hne i (i-1) hlt hl1;by_cases hc0:cmF fr to (l.getD (i-1) []) (l.getD i [])=0
    .have e1:(cmF fr to (l.getD (i-1) []) (l.getD i []) != 0)=false:=by rw[hc0];rfl
     rw[e1] at hn;rw[AJ (by rintro(h|h)<;>contradiction),AA] at hgs
     repeat' first|simp -dsimp only[go_sem,e0,hn,hkl,w0,hw,hap,hal,gi,gj]|apply Br.mk<;>intro h<;>try simp -dsimp only[h]|refine aC ?_|fail
     all_goals first|omega|(exact nx (i+1,()) trivial (h2:=by simp[Vs.LeL,Vs.look,aB,aP,aJ,Vs.hset,aK,hgs]))
    .have e1:(cmF fr to (l.getD (i-1) []) (l.getD i []) != 0)=true:=bne_iff_ne.2 hc0;rw[e1] at hn;rw[AY (.inr hc0)] at hgs
     repeat' first|simp -dsimp only[go_sem,e0,hn,hkl,w0,hw,hap,hal,gi,gj]|apply Br.mk<;>intro h<;>try simp -dsimp only[h]|refine aC ?_|fail
     all_goals first|omega|(exact nx (i+1,()) trivial (h2:=by simp[Vs.LeL,Vs.look,aB,aP,aJ,Vs.hset,aK,hgs]))
  .have hge:i=l.length:=by
    have:¬i<l.length:=Dq;omega
   subst hge;simp -dsimp only[go_sem,hkl];have htk:(E cI (bS fr to l l.length)).take (bS fr to l l.length).length=E cI (bS fr to l l.length):=Ag (by rw[aH];exact AL _)
   first|exact⟨⟨_,_,rfl,rfl⟩,λh=>h rfl⟩|(rw[htk];exact⟨⟨_,_,rfl,rfl⟩,λh=>h rfl⟩)|(simp[htk];done)
end
section
variable [Vs.Envs]
attribute [local irreducible] Vs.Fn bS bD jY chOK areCh chTo chAt l03 chB rk cd3 chI stp stpTo
def uB (fr to:Int) (l:List (List Int)):List (List Int):=(bS fr to l l.length).map λi=>l.getD i.toNat []
def qG (fr to:Int) (l:List (List Int)):AV:=if bD fr to l=0 then .sl 1 (E cC (uB fr to l)) else .v (.slice none 0 0)
theorem aKG (fr to:Int) (l:List (List Int)):jY fr to [l]=bD fr to l:=by
 unfold jY bD;simp only[BO,Dw,Bool.and_true]
theorem aBy {fr to:Int}{l:List (List Int)}:∀x,x∈bS fr to l l.length->inO l.length x:=λx u=>vG l.length x u
attribute [local go_sem] cD aH Ai Ah Al Aq Ad Af Ac Ae Aa Ab Ao in
theorem aAq (l:List (List Int)) (fr to:Int) (hk:bE l):Fz F.jJ [.sl 1 (E cC l),.agg (cFd fr to)] (.tup [qG fr to l,.v (.int .i64 (bD fr to l))]):=by
 have CC:=vM fr to [l] ⟨by simp,λd hd=>by simp at hd;subst hd;exact hk⟩;rw[aKG] at CC;by_cases h0:bD fr to l=0
 .obtain⟨hd,hf,ha⟩:=aCw h0;have ho:=fE hd hf;have h40:=lD hd;rw[show qG fr to l=.sl 1 (E cC (uB fr to l)) by simp[qG,h0],h0];have hol:=jV fr to l l.length;have hoi:=aBy (fr:=fr) (to:=to) (l:=l);rw[show uB fr to l=(bS fr to l l.length).map (λi=>l.getD i.toNat []) from rfl];have GO:=aFS l fr to ho (by omega);rw[h0] at CC;generalize bS fr to l l.length=o at *
  refine fn0 Cd.i_FirstOfGroups_k λX=>?_
  repeat' first|simp -dsimp only[go_sem,cC,cFd]|apply Br.mk<;>intro h<;>try simp -dsimp only[h]|refine aA.c (by first|exact CC|exact GO) ?_|refine aC ?_|fail
  refine aO.at dM (X:={zz:Nat×(Unit) // zz.1<=o.length∧True}) (λzz=>[(7,.loc (.t 7 0) 0 zz.1.1),(22,.v (.int .i64 zz.1.1))]) (λzz=>[(.t 7 0,.arr 1 (E cC ((o.take zz.1.1).map λi=>l.getD i.toNat [])) false)]) (λzz=>o.length-zz.1.1) ⟨(0,()),by omega,trivial⟩ ?_ ?_
  .simp[Vs.LeL,Vs.look,aB,aP,aJ,Vs.hset,aK,Vs.E]
  .rintro⟨⟨i,_⟩,hi,hg⟩;dsimp only at hi hg;simp -dsimp only[go_sem,cC,cFd];refine Br.mk (λhc=>?_) λhc=>?_
   .have hlt:i<o.length:=Dq;have hw:=aI hlt (by omega);have hx:=hoi _ (Am hlt);have gx:=aBG hx;have hm:=nL hx;have hc20:(l.getD o[i].toNat []).length<=20:=(ho _ hm).2.2.2;have NC:=aCo (l.getD o[i].toNat []) (by omega);have x0:=hx.1;have x1:=hx.2
    have hap:E cC ((o.take i).map λi=>l.getD i.toNat [])++[[.sl 1 (E cI (l.getD o[i].toNat []))]]=E cC ((o.take (i+1)).map λi=>l.getD i.toNat []):=by
     rw[bU hlt,Cm,aS];rfl
    have hal:(E cC ((o.take i).map λi=>l.getD i.toNat [])).length=i:=by rw[aH];simp;omega
    repeat' first|simp -dsimp only[go_sem,dJ hlt,hw,hap,hal,gx,cC,cFd]|apply Br.mk<;>intro h<;>try simp -dsimp only[h]|refine aA.c (by first|exact NC) ?_|refine aC ?_|fail
    all_goals first|omega|(exact nx (i+1,()) trivial (h2:=by simp[Vs.LeL,Vs.look,aB,aP,aJ,Vs.hset,aK,hap]))
   .have hge:i=o.length:=by
     have:¬i<o.length:=Dq;omega
    subst hge;simp -dsimp only[go_sem,cC,cFd]
    have htk:(E cC ((o.take o.length).map λi=>l.getD i.toNat [])).take o.length=E cC (o.map λi=>l.getD i.toNat []):=by
     rw[Ag (AL o.length)];exact Ag (by rw[aH];simp)
    first|exact⟨⟨_,_,rfl,rfl⟩,λh=>h rfl⟩|(rw[htk];exact⟨⟨_,_,rfl,rfl⟩,λh=>h rfl⟩)|(simp[htk];done)
 .have e0:(bD fr to l != 0)=true:=by simp[h0]
  rw[show qG fr to l=.v (.slice none 0 0) by simp[qG,h0]];generalize bD fr to l=c at *
  refine fn0 Cd.i_FirstOfGroups_k λX=>?_
  repeat' first|simp -dsimp only[go_sem,cC,cFd,e0]|apply Br.mk<;>intro h<;>try simp -dsimp only[h]|refine aA.c (by first|exact CC) ?_|refine aC ?_|fail
  all_goals first|exact⟨_,_,rfl,rfl⟩
attribute [local go_sem] cD aH Ai Ah Al Aq Ad Af Ac Ae Aa Ab Ao in
theorem rD (l:List (List Int)) (fr to:Int) (hk:bE l):Fz F.jG [.sl 1 (E cC l),.agg (cFd fr to)] (.tup [qG fr to l,.v (.int .i64 (bD fr to l))]):=by
 have KS:=j4 l fr to hk.2 hk.1;by_cases h0:bD fr to l=0
 .obtain⟨hd,hf,ha⟩:=aCw h0;have ho:=fE hd hf;have h40:=lD hd;rw[show qG fr to l=.sl 1 (E cC (uB fr to l)) by simp[qG,h0],h0];have hol:=jV fr to l l.length;have hoi:=aBy (fr:=fr) (to:=to) (l:=l);rw[show uB fr to l=(bS fr to l l.length).map (λi=>l.getD i.toNat []) from rfl];have GO:=aD7 l fr to ho ha (by omega);rw[show nP fr to l=.sl 1 (E cSt (bT fr to l)) by simp[nP,h0],h0] at KS;generalize bS fr to l l.length=o at *
  refine fn0 Cd.s_FirstOfGroups_k λX=>?_
  repeat' first|simp -dsimp only[go_sem,cC,cFd]|apply Br.mk<;>intro h<;>try simp -dsimp only[h]|refine aA.c (by first|exact KS|exact GO) ?_|refine aC ?_|fail
  refine aO.at dM (X:={zz:Nat×(Unit) // zz.1<=o.length∧True}) (λzz=>[(9,.loc (.t 9 0) 0 zz.1.1),(10,.v (.int .i64 zz.1.1))]) (λzz=>[(.t 9 0,.arr 1 (E cC ((o.take zz.1.1).map λi=>l.getD i.toNat [])) false)]) (λzz=>o.length-zz.1.1) ⟨(0,()),by omega,trivial⟩ ?_ ?_
  .simp[Vs.LeL,Vs.look,aB,aP,aJ,Vs.hset,aK,Vs.E]
  .rintro⟨⟨i,_⟩,hi,hg⟩;dsimp only at hi hg;simp -dsimp only[go_sem,cC,cFd];refine Br.mk (λhc=>?_) λhc=>?_
   .have hlt:i<o.length:=Dq;have hw:=aI hlt (by omega);have hx:=hoi _ (Am hlt);have gx:=aBG hx;have hm:=nL hx;have hc20:(l.getD o[i].toNat []).length<=20:=(ho _ hm).2.2.2;have NC:=xS (l.getD o[i].toNat []) (by omega);have x0:=hx.1;have x1:=hx.2
    have hap:E cC ((o.take i).map λi=>l.getD i.toNat [])++[[.sl 1 (E cI (l.getD o[i].toNat []))]]=E cC ((o.take (i+1)).map λi=>l.getD i.toNat []):=by
     rw[bU hlt,Cm,aS];rfl
    have hal:(E cC ((o.take i).map λi=>l.getD i.toNat [])).length=i:=by rw[aH];simp;omega
    repeat' first|simp -dsimp only[go_sem,dJ hlt,hw,hap,hal,gx,cC,cFd]|apply Br.mk<;>intro h<;>try simp -dsimp only[h]|refine aA.c (by first|exact NC) ?_|refine aC ?_|fail
    all_goals first|omega|(exact nx (i+1,()) trivial (h2:=by simp[Vs.LeL,Vs.look,aB,aP,aJ,Vs.hset,aK,hap]))
   .have hge:i=o.length:=by
     have:¬i<o.length:=Dq;omega
    subst hge;simp -dsimp only[go_sem,cC,cFd]
    have htk:(E cC ((o.take o.length).map λi=>l.getD i.toNat [])).take o.length=E cC (o.map λi=>l.getD i.toNat []):=by
     rw[Ag (AL o.length)];exact Ag (by rw[aH];simp)
    first|exact⟨⟨_,_,rfl,rfl⟩,λh=>h rfl⟩|(rw[htk];exact⟨⟨_,_,rfl,rfl⟩,λh=>h rfl⟩)|(simp[htk];done)
 .have e0:(bD fr to l != 0)=true:=by simp[h0]
  rw[show qG fr to l=.v (.slice none 0 0) by simp[qG,h0]];rw[show nP fr to l=.v (.slice none 0 0) by simp[nP,h0]] at KS;generalize bD fr to l=c at *
  refine fn0 Cd.s_FirstOfGroups_k λX=>?_
  repeat' first|simp -dsimp only[go_sem,cC,cFd,e0]|apply Br.mk<;>intro h<;>try simp -dsimp only[h]|refine aA.c (by first|exact KS) ?_|refine aC ?_|fail
  all_goals first|exact⟨_,_,rfl,rfl⟩
end
section
variable [Vs.Envs]
attribute [local irreducible] Vs.Fn flt zR areCh chTo chAt stp stpTo
set_option maxRecDepth 100000 in
theorem aH0:∀n:Nat,n<256->chOK (n:Int)=true->0<=rk (cd3 (n:Int))∧chI (cd3 (n:Int))=(n:Int):=by decide +kernel
attribute [local irreducible] chOK rk cd3 chI
theorem aEs {s:ByteArray} (h:areCh s=true):∀b,b∈s.data.toList->chOK (b.toNat:Int)=true:=by
 unfold areCh at h;exact Aw.1 h
theorem aIK {s:ByteArray} (h:areCh s=true):cZ (bcd s)=true:=by
 unfold cZ bcd;rw[Aw];intro x F;obtain⟨b,u,rfl⟩:=BG.1 F;exact AR (aH0 b.toNat (UInt8.toNat_lt _) (aEs h b u)).1
theorem aK5 {s:ByteArray} (h:areCh s=true):txt (bcd s)=s:=by
 have e:(bcd s).map chI=s.data.toList.map λb=>(b.toNat:Int):=by
  unfold bcd;rw[List.map_map];refine List.map_congr_left λb F=>?_;exact(aH0 b.toNat (UInt8.toNat_lt _) (aEs h b F)).2
 unfold txt lH;rw[e,List.map_map]
 have u:(s.data.toList.map ((λn:Int=>UInt8.ofNat n.toNat)∘λb:UInt8=>(b.toNat:Int)))=s.data.toList:=by
  rw[show((λn:Int=>UInt8.ofNat n.toNat)∘λb:UInt8=>(b.toNat:Int))=id from funext λb=>by simp];simp
 rw[u]
theorem aLo {s:ByteArray}{w:Nat} (h:s.size=w):pun s w=bcd s:=by
 unfold pun;rw[h,C9];simp
theorem aLL {fr to:Int}{c:List Int}{s:ByteArray} (I:okF fr to c) (hh:cZ (fH fr to c)=true) (H:s.size=to.toNat-fr.toNat) (G:areCh s=true) :
  ((txt (fH fr to c)).toList==s.toList) = !jA fr to s c:=by
 have F:=aEx (a:=fH fr to c) (b:=bcd s) (by rw[lK I,aCG,H]) hh (aIK G);rw[aK5 G] at F;rw[F];unfold jA cmT;rw[aLo H];generalize jC (fH fr to c) (bcd s)=v;by_cases u:v=0
 .subst u;rfl
 .have e:(v==0)=false:=Ap.2 u;rw[e];rcases Int.lt_or_gt_of_ne u with h|h<;>simp[h]
theorem aLb {fr to:Int}{s:ByteArray}{l:List (List Int)}:lM fr to s l=if bD fr to l=0∨bD fr to l=8 then(if l09 s fr to=0 then bD fr to l else l09 s fr to) else bD fr to l:=by
 unfold lM aAb bD l09;cases h1:bB l<;>cases h2:eF fr to (bL l)<;>cases h5:bW fr to l<;>by_cases u:(s.size:Int)=W (to-fr)<;>cases h4:areCh s<;>simp[h1,h2,u,h4,h5]
end
section
variable [Vs.Envs]
attribute [local irreducible] Vs.Fn pun cmT flt zR jA chOK areCh chTo chAt l03 chB rk cd3 chI stp stpTo
def aI2 (fr to:Int) (s:ByteArray) (l:List (List Int)):AV:=if lM fr to s l=0 then .sl 1 (E cSt (bT fr to l)) else .v (.slice none 0 0)
theorem aMZ (s:ByteArray) (a b:Int):l09 s a b=2∨l09 s a b=0∨l09 s a b=7:=by
 unfold l09;split
 .exact .inl rfl
 .split
  .exact .inr (.inl rfl)
  .exact .inr (.inr rfl)
theorem aLN (fr to:Int) (l:List (List Int)):bD fr to l=0∨bD fr to l=8∨bD fr to l=1∨bD fr to l=2:=by
 unfold bD;split
 .split
  .split<;>simp
  .simp
 .simp
attribute [local go_sem] Int.reduceBEq Int.reduceBNe Ai Ah Al Aq Ad Af Ac Ae Aa Ab Ao in
theorem aM0 (l:List (List Int)) (fr to:Int) (s:ByteArray) (hk:bE l) (hz:s.size<=1048576):Fz F.xG [.sl 1 (E cC l),.agg (cFd fr to),.sl 1 [[.v (.string s)]]] (.tup [aI2 fr to s l,.v (.int .i64 (lM fr to s l))]):=by
 have KS:=j4 l fr to hk.2 hk.1;have TX:=aHI s fr to hz;have hsc:=aLb (fr:=fr) (to:=to) (s:=s) (l:=l);unfold aI2;rcases aLN fr to l with hc|hc|hc|hc<;>rcases aMZ s fr to with hb|hb|hb
 all_goals
  have hs0:=hsc;simp[hc,hb] at hs0;simp only[nP,hc,Bt,Bg,Int.reduceEq] at KS;rw[hs0];simp only[Bt,Bg,Int.reduceEq];refine fn0 Cd.s_l09Ask_k λX=>?_
  repeat' first|simp -dsimp only[go_sem,cC,cFd,hb]|apply Br.mk<;>intro h<;>try simp -dsimp only[h]|refine aA.c (by first|exact KS|exact TX) ?_|refine aC ?_|fail
  try all_goals first|exact⟨_,_,rfl,rfl⟩|exact⟨⟨_,_,rfl,rfl⟩,λh=>h rfl⟩
  all_goals
   refine aO.at dM (X:={zz:Nat×(Unit) // zz.1<=1∧True}) (λzz=>[(10,.v (.int .i64 (if zz.1.1=0 then 0 else l09 s fr to))),(11,.v (.int .i64 zz.1.1))]) (λzz=>[]) (λzz=>1-zz.1.1) ⟨(0,()),by omega,trivial⟩ ?_ ?_
   .exact le0
   .rintro⟨⟨i,_⟩,hi,hg⟩;dsimp only at hi hg;simp -dsimp only[go_sem,cC,cFd,hb];refine Br.mk (λhc=>?_) λhc=>?_
    .have hlt:i<1:=Dq;have hw:=aI hlt (by omega);obtain rfl:i=0:=by omega
     repeat' first|simp -dsimp only[go_sem,cC,cFd,hb,hw]|apply Br.mk<;>intro h<;>try simp -dsimp only[h]|refine aA.c (by first|exact TX) ?_|refine aC ?_|fail
     all_goals first|exact λ_=>⟨⟨_,_,rfl,rfl⟩,λh=>h rfl⟩|omega|exact⟨_,_,rfl,rfl⟩|exact⟨⟨_,_,rfl,rfl⟩,λh=>h rfl⟩|exact⟨λ_=>⟨_,_,rfl,rfl⟩,λh=>absurd rfl h⟩|(exact nx (1,()) trivial (h2:=by simp[Vs.LeL,Vs.look,aB,aP,aJ,Vs.hset,aK,hb]))
    .have hge:i=1:=by
      have:¬i<1:=Dq;omega
     subst hge;simp -dsimp only[go_sem,cC,cFd,hb]
     first|exact⟨⟨_,_,rfl,rfl⟩,λh=>h rfl⟩|omega|exact⟨_,_,rfl,rfl⟩|exact⟨⟨_,_,rfl,rfl⟩,λh=>h rfl⟩|exact⟨λ_=>⟨_,_,rfl,rfl⟩,λh=>absurd rfl h⟩
end
end Go.Proofs.YtmiiohemehacjaaGreatDoor
