/- MergeDecks: the program and the reference. -/
import Derived.Test.YtmiiohemehacjaaGreatDoorXwVf
import Derived.Test.YtmiiohemehacjaaGreatDoorXwSh
import Derived.Test.YtmiiohemehacjaaGreatDoorVtR
set_option linter.all false
set_option maxHeartbeats 8000000
namespace Go.Proofs.YtmiiohemehacjaaGreatDoor
open Go.Vs
variable [Vs.Envs]
attribute [local irreducible] Vs.Fn chOK areCh chTo chAt l03 chB rk cd3 chI stp stpTo stb oV mgF iE stF aY jN gQ bF
def yB (a b:List (List Int)):Bool:=decide ((a.length:Int)>0)&&(decide ((b.length:Int)>0)&&(bF a != bF b))
def mgC (fr to:Int) (a b:List (List Int)):Int:=if jN fr to [a,b]=0 then(if yB a b then 9 else if iE fr to a&&iE fr to b then(if(a.length:Int)+(b.length:Int)>40 then 5 else 0) else 6) else jN fr to [a,b]
def mgV (fr to:Int) (a b:List (List Int)):AV:=if mgC fr to a b=0 then .sl 1 (E cC (gQ fr to (a++b))) else .v (.slice none 0 0)
theorem aAa {l:List (List Int)} (h:0<l.length):bF l=((l.getD 0 []).length:Int):=by unfold bF;rw[if_neg (by omega)]
theorem wrap_add {a b:Nat} (h:a<=1048576) (h2:b<=1048576):IntKind.i64.wrap ((a:Int)+(b:Int))=(a:Int)+(b:Int):=aO (by omega) (by omega)
attribute [local go_sem] Int.reduceBEq Int.reduceBNe cD aI List.replicate_succ List.replicate_zero List.flatten_cons List.flatten_nil List.cons_append List.nil_append List.set_cons_zero List.set_cons_succ List.length_cons List.length_nil List.length_set List.mem_singleton List.mem_cons List.not_mem_nil or_false false_or Vs.Name.t.injEq List.flatMap_cons List.flatMap_nil nC uD mO List.getD_cons_zero List.append_nil in
theorem aBP (a b:List (List Int)) (fr to:Int) (Y:bJ a) (hb:bJ b):Fz F.mY [.sl 1 (E cC a),.sl 1 (E cC b),.agg (cFd fr to)] (.tup [mgV fr to a b,.v (.int .i64 (mgC fr to a b))]):=by
 have hd:=wrap_add Y.1 hb.1;by_cases O:jN fr to [a,b]=0
 rotate_left
 .have e0:(jN fr to [a,b] != 0)=true:=by simp[O]
  have H:mgC fr to a b=jN fr to [a,b]:=by simp[mgC,O]
  rw[show mgV fr to a b=.v (.slice none 0 0) by simp[mgV,H,O],H];have CC:=vT fr to [a,b] (aAk Y hb);refine fn0 Cd.i_MergeDecks_k λX=>?_
  repeat' first|simp -dsimp only[go_sem,cC,cFd,e0]|apply Br.mk<;>intro h<;>try simp -dsimp only[h]|refine aD.c (by first|exact CC) ?_|refine aC ?_|fail
  all_goals first|exact⟨_,_,rfl,rfl⟩
 obtain⟨⟨da,db⟩,⟨fa,fb⟩,ca,cb⟩:=aCg O;have oa:=eF da fa;have ob:=eF db fb;have CC:=vT fr to [a,b] (aAk Y hb);rw[O] at CC;have DA:=kF a;have DB:=kF b;by_cases hA:0<a.length
 .have U:decide ((a.length:Int)>0)=true:=decide_eq_true (by omega);have wA:=aAa hA;have gA:=aEd hA;by_cases hB:0<b.length
  .have eB:decide ((b.length:Int)>0)=true:=decide_eq_true (by omega);have wB:=aAa hB;have gB:=aEd hB;cases eW:(bF a != bF b)
   .have Z:=eW;rw[wA,wB] at Z;have J:yB a b=false:=by simp only[yB,U,eB,eW];rfl
    cases h1:iE fr to a
    .have I:=aT a fr to oa Y.1;have L:=aT b fr to ob hb.1;rw[h1] at I;have H:mgC fr to a b=6:=by simp[mgC,O,J,h1]
     rw[show mgV fr to a b=.v (.slice none 0 0) by simp[mgV,H],H];refine fn0 Cd.i_MergeDecks_k λX=>?_
     repeat' first|simp -dsimp only[go_sem,cC,cFd,U,eB,eW,Z,gA,gB]|apply Br.mk<;>intro h<;>try simp -dsimp only[h]|refine aD.c (by first|exact CC|exact DA|exact DB|exact I|exact L) ?_|refine aC ?_|fail
     all_goals first|exact⟨_,_,rfl,rfl⟩
    cases h2:iE fr to b
    .have I:=aT a fr to oa Y.1;have L:=aT b fr to ob hb.1;rw[h1] at I;rw[h2] at L;have H:mgC fr to a b=6:=by simp[mgC,O,J,h1,h2]
     rw[show mgV fr to a b=.v (.slice none 0 0) by simp[mgV,H],H];refine fn0 Cd.i_MergeDecks_k λX=>?_
     repeat' first|simp -dsimp only[go_sem,cC,cFd,U,eB,eW,Z,gA,gB]|apply Br.mk<;>intro h<;>try simp -dsimp only[h]|refine aD.c (by first|exact CC|exact DA|exact DB|exact I|exact L) ?_|refine aC ?_|fail
     all_goals first|exact⟨_,_,rfl,rfl⟩
    by_cases hs:(a.length:Int)+(b.length:Int)>40
    .have e5:decide ((a.length:Int)+(b.length:Int)>40)=true:=decide_eq_true hs;have I:=aT a fr to oa Y.1;have L:=aT b fr to ob hb.1;rw[h1] at I;rw[h2] at L;have H:mgC fr to a b=5:=by simp[mgC,O,J,h1,h2,hs]
     rw[show mgV fr to a b=.v (.slice none 0 0) by simp[mgV,H],H];refine fn0 Cd.i_MergeDecks_k λX=>?_
     repeat' first|simp -dsimp only[go_sem,cC,cFd,U,eB,eW,Z,gA,gB,hd,e5]|apply Br.mk<;>intro h<;>try simp -dsimp only[h]|refine aD.c (by first|exact CC|exact DA|exact DB|exact I|exact L) ?_|refine aC ?_|fail
     all_goals first|exact⟨_,_,rfl,rfl⟩
    .have e5:decide ((a.length:Int)+(b.length:Int)>40)=false:=decide_eq_false hs;have I:=aT a fr to oa Y.1;have L:=aT b fr to ob hb.1;rw[h1] at I;rw[h2] at L;have H:mgC fr to a b=0:=by simp[mgC,O,J,h1,h2,hs]
     rw[show mgV fr to a b=.sl 1 (E cC (gQ fr to (a++b))) by simp[mgV,H],H]
     have hg:∀c,c∈a++b->okF fr to c:=λc O=>by
      rcases List.mem_append.1 O with h|h
      .exact oa c h
      .exact ob c h
     have SB:=aAi (a++b) fr to hg (by simp;omega);have hf:E cC a++E cC b=E cC (a++b):=by rw[aV]
     have he:(E cC (a++b)).take (a.length+b.length)=E cC (a++b):=List.take_of_length_le (by rw[aI];simp);refine fn0 Cd.i_MergeDecks_k λX=>?_
     repeat' first|simp -dsimp only[go_sem,cC,cFd,U,eB,eW,Z,gA,gB,hd,e5,hf,he]|apply Br.mk<;>intro h<;>try simp -dsimp only[h]|refine aD.c (by first|exact CC|exact DA|exact DB|exact I|exact L) ?_|refine aC ?_|fail
     refine aD.own (aAz a Y.2 Y.1) rfl ?_
     repeat' first|simp -dsimp only[go_sem,cC,cFd,U,eB,eW,Z,gA,gB,hd,e5,hf,he]|apply Br.mk<;>intro h<;>try simp -dsimp only[h]|refine aD.c (by first|exact SB) ?_|refine aC ?_|fail
     all_goals first|omega|exact⟨_,_,rfl,rfl⟩
   .have Z:=eW;rw[wA,wB] at Z;have J:yB a b=true:=by simp only[yB,U,eB,eW];rfl
    have H:mgC fr to a b=9:=by simp[mgC,O,J]
    rw[show mgV fr to a b=.v (.slice none 0 0) by simp[mgV,H],H];refine fn0 Cd.i_MergeDecks_k λX=>?_
    repeat' first|simp -dsimp only[go_sem,cC,cFd,U,eB,eW,Z,gA,gB]|apply Br.mk<;>intro h<;>try simp -dsimp only[h]|refine aD.c (by first|exact CC|exact DA|exact DB) ?_|refine aC ?_|fail
    all_goals first|exact⟨_,_,rfl,rfl⟩
  .have eB:decide ((b.length:Int)>0)=false:=decide_eq_false (by omega);have J:yB a b=false:=by simp only[yB,U,eB];rfl
   cases h1:iE fr to a
   .have I:=aT a fr to oa Y.1;have L:=aT b fr to ob hb.1;rw[h1] at I;have H:mgC fr to a b=6:=by simp[mgC,O,J,h1]
    rw[show mgV fr to a b=.v (.slice none 0 0) by simp[mgV,H],H];refine fn0 Cd.i_MergeDecks_k λX=>?_
    repeat' first|simp -dsimp only[go_sem,cC,cFd,U,eB]|apply Br.mk<;>intro h<;>try simp -dsimp only[h]|refine aD.c (by first|exact CC|exact DA|exact DB|exact I|exact L) ?_|refine aC ?_|fail
    all_goals first|exact⟨_,_,rfl,rfl⟩
   cases h2:iE fr to b
   .have I:=aT a fr to oa Y.1;have L:=aT b fr to ob hb.1;rw[h1] at I;rw[h2] at L;have H:mgC fr to a b=6:=by simp[mgC,O,J,h1,h2]
    rw[show mgV fr to a b=.v (.slice none 0 0) by simp[mgV,H],H];refine fn0 Cd.i_MergeDecks_k λX=>?_
    repeat' first|simp -dsimp only[go_sem,cC,cFd,U,eB]|apply Br.mk<;>intro h<;>try simp -dsimp only[h]|refine aD.c (by first|exact CC|exact DA|exact DB|exact I|exact L) ?_|refine aC ?_|fail
    all_goals first|exact⟨_,_,rfl,rfl⟩
   by_cases hs:(a.length:Int)+(b.length:Int)>40
   .have e5:decide ((a.length:Int)+(b.length:Int)>40)=true:=decide_eq_true hs;have I:=aT a fr to oa Y.1;have L:=aT b fr to ob hb.1;rw[h1] at I;rw[h2] at L;have H:mgC fr to a b=5:=by simp[mgC,O,J,h1,h2,hs]
    rw[show mgV fr to a b=.v (.slice none 0 0) by simp[mgV,H],H];refine fn0 Cd.i_MergeDecks_k λX=>?_
    repeat' first|simp -dsimp only[go_sem,cC,cFd,U,eB,hd,e5]|apply Br.mk<;>intro h<;>try simp -dsimp only[h]|refine aD.c (by first|exact CC|exact DA|exact DB|exact I|exact L) ?_|refine aC ?_|fail
    all_goals first|exact⟨_,_,rfl,rfl⟩
   .have e5:decide ((a.length:Int)+(b.length:Int)>40)=false:=decide_eq_false hs;have I:=aT a fr to oa Y.1;have L:=aT b fr to ob hb.1;rw[h1] at I;rw[h2] at L;have H:mgC fr to a b=0:=by simp[mgC,O,J,h1,h2,hs]
    rw[show mgV fr to a b=.sl 1 (E cC (gQ fr to (a++b))) by simp[mgV,H],H]
    have hg:∀c,c∈a++b->okF fr to c:=λc O=>by
     rcases List.mem_append.1 O with h|h
     .exact oa c h
     .exact ob c h
    have SB:=aAi (a++b) fr to hg (by simp;omega);have hf:E cC a++E cC b=E cC (a++b):=by rw[aV]
    have he:(E cC (a++b)).take (a.length+b.length)=E cC (a++b):=List.take_of_length_le (by rw[aI];simp);refine fn0 Cd.i_MergeDecks_k λX=>?_
    repeat' first|simp -dsimp only[go_sem,cC,cFd,U,eB,hd,e5,hf,he]|apply Br.mk<;>intro h<;>try simp -dsimp only[h]|refine aD.c (by first|exact CC|exact DA|exact DB|exact I|exact L) ?_|refine aC ?_|fail
    refine aD.own (aAz a Y.2 Y.1) rfl ?_
    repeat' first|simp -dsimp only[go_sem,cC,cFd,U,eB,hd,e5,hf,he]|apply Br.mk<;>intro h<;>try simp -dsimp only[h]|refine aD.c (by first|exact SB) ?_|refine aC ?_|fail
    all_goals first|omega|exact⟨_,_,rfl,rfl⟩
 .have U:decide ((a.length:Int)>0)=false:=decide_eq_false (by omega);have J:yB a b=false:=by simp only[yB,U];rfl
  cases h1:iE fr to a
  .have I:=aT a fr to oa Y.1;have L:=aT b fr to ob hb.1;rw[h1] at I;have H:mgC fr to a b=6:=by simp[mgC,O,J,h1]
   rw[show mgV fr to a b=.v (.slice none 0 0) by simp[mgV,H],H];refine fn0 Cd.i_MergeDecks_k λX=>?_
   repeat' first|simp -dsimp only[go_sem,cC,cFd,U]|apply Br.mk<;>intro h<;>try simp -dsimp only[h]|refine aD.c (by first|exact CC|exact DA|exact DB|exact I|exact L) ?_|refine aC ?_|fail
   all_goals first|exact⟨_,_,rfl,rfl⟩
  cases h2:iE fr to b
  .have I:=aT a fr to oa Y.1;have L:=aT b fr to ob hb.1;rw[h1] at I;rw[h2] at L;have H:mgC fr to a b=6:=by simp[mgC,O,J,h1,h2]
   rw[show mgV fr to a b=.v (.slice none 0 0) by simp[mgV,H],H];refine fn0 Cd.i_MergeDecks_k λX=>?_
   repeat' first|simp -dsimp only[go_sem,cC,cFd,U]|apply Br.mk<;>intro h<;>try simp -dsimp only[h]|refine aD.c (by first|exact CC|exact DA|exact DB|exact I|exact L) ?_|refine aC ?_|fail
   all_goals first|exact⟨_,_,rfl,rfl⟩
  by_cases hs:(a.length:Int)+(b.length:Int)>40
  .have e5:decide ((a.length:Int)+(b.length:Int)>40)=true:=decide_eq_true hs;have I:=aT a fr to oa Y.1;have L:=aT b fr to ob hb.1;rw[h1] at I;rw[h2] at L;have H:mgC fr to a b=5:=by simp[mgC,O,J,h1,h2,hs]
   rw[show mgV fr to a b=.v (.slice none 0 0) by simp[mgV,H],H];refine fn0 Cd.i_MergeDecks_k λX=>?_
   repeat' first|simp -dsimp only[go_sem,cC,cFd,U,hd,e5]|apply Br.mk<;>intro h<;>try simp -dsimp only[h]|refine aD.c (by first|exact CC|exact DA|exact DB|exact I|exact L) ?_|refine aC ?_|fail
   all_goals first|exact⟨_,_,rfl,rfl⟩
  .have e5:decide ((a.length:Int)+(b.length:Int)>40)=false:=decide_eq_false hs;have I:=aT a fr to oa Y.1;have L:=aT b fr to ob hb.1;rw[h1] at I;rw[h2] at L;have H:mgC fr to a b=0:=by simp[mgC,O,J,h1,h2,hs]
   rw[show mgV fr to a b=.sl 1 (E cC (gQ fr to (a++b))) by simp[mgV,H],H]
   have hg:∀c,c∈a++b->okF fr to c:=λc O=>by
    rcases List.mem_append.1 O with h|h
    .exact oa c h
    .exact ob c h
   have SB:=aAi (a++b) fr to hg (by simp;omega);have hf:E cC a++E cC b=E cC (a++b):=by rw[aV]
   have he:(E cC (a++b)).take (a.length+b.length)=E cC (a++b):=List.take_of_length_le (by rw[aI];simp);refine fn0 Cd.i_MergeDecks_k λX=>?_
   repeat' first|simp -dsimp only[go_sem,cC,cFd,U,hd,e5,hf,he]|apply Br.mk<;>intro h<;>try simp -dsimp only[h]|refine aD.c (by first|exact CC|exact DA|exact DB|exact I|exact L) ?_|refine aC ?_|fail
   refine aD.own (aAz a Y.2 Y.1) rfl ?_
   repeat' first|simp -dsimp only[go_sem,cC,cFd,U,hd,e5,hf,he]|apply Br.mk<;>intro h<;>try simp -dsimp only[h]|refine aD.c (by first|exact SB) ?_|refine aC ?_|fail
   all_goals first|omega|exact⟨_,_,rfl,rfl⟩
end Go.Proofs.YtmiiohemehacjaaGreatDoor
