/- MergeDecks: the reference. -/
import Derived.Test.YthbnjmgjhonfbaaGreatTwVf
import Derived.Test.YthbnjmgjhonfbaaGreatTwSh
import Derived.Test.YthbnjmgjhonfbaaGreatVtR
set_option linter.all false
set_option maxHeartbeats 8000000
namespace Go.Proofs.YthbnjmgjhonfbaaGreat
open Go.Vs
section
variable [Vs.Envs]
attribute [local irreducible] Vs.Fn cZ aW dB dC l03 chB rk cd3 chI stp aZ stb oW mgF iW stF bG kH bQ aT
def xO (a b:List (List Int)):Bool:=decide ((a.length:Int)>0)&&(decide ((b.length:Int)>0)&&(aT a != aT b))
def mgC (fr to:Int) (a b:List (List Int)):Int:=if kH fr to [a,b]=0 then(if xO a b then 9 else if iW fr to a&&iW fr to b then(if(a.length:Int)+(b.length:Int)>40 then 5 else 0) else 6) else kH fr to [a,b]
def mgV (fr to:Int) (a b:List (List Int)):AV:=if mgC fr to a b=0 then .sl 1 (E cC (bQ fr to (a++b))) else .v (.slice none 0 0)
theorem zN {l:List (List Int)} (h:0<l.length):aT l=((l.getD 0 []).length:Int):=by unfold aT;rw[if_neg (by omega)]
theorem wrap_add {a b:Nat} (h:a≤1048576) (h2:b≤1048576):IntKind.i64.wrap ((a:Int)+(b:Int))=(a:Int)+(b:Int):=aR (by omega) (by omega)
attribute [local go_sem] Int.reduceBEq Int.reduceBNe cD aH List.replicate_succ List.replicate_zero List.flatten_cons List.flatten_nil List.cons_append List.nil_append List.set_cons_zero List.set_cons_succ List.length_cons List.length_nil List.length_set List.mem_singleton List.mem_cons List.not_mem_nil or_false false_or Vs.Name.t.injEq List.flatMap_cons List.flatMap_nil bC bO bB List.getD_cons_zero List.append_nil in
theorem aBs (a b:List (List Int)) (fr to:Int) (ha:bA a) (hb:bA b):Fz F.mZ [.sl 1 (E cC a),.sl 1 (E cC b),.agg (cFd fr to)] (.tup [mgV fr to a b,.v (.int .i64 (mgC fr to a b))]):=by
 have hwa:=wrap_add ha.1 hb.1;by_cases hc:kH fr to [a,b]=0
 rotate_left
 ·have e0:(kH fr to [a,b] != 0)=true:=by simp[hc]
  have hz:mgC fr to a b=kH fr to [a,b]:=by simp[mgC,hc]
  rw[show mgV fr to a b=.v (.slice none 0 0) by simp[mgV,hz,hc],hz];have CC:=uQ fr to [a,b] (zS ha hb);refine fn0 Cd.i_MergeDecks_k fun X=>?_
  repeat' first|simp -dsimp only[go_sem,cC,cFd,e0]|apply Br.mk<;>intro h<;>try simp -dsimp only[h]|refine aA.c (by first|exact CC) ?_|refine aC ?_|fail
  all_goals first|exact⟨_,_,rfl,rfl⟩
 obtain⟨⟨da,db⟩,⟨fa,fb⟩,ca,cb⟩:=aBI hc;have oa:=dW da fa;have ob:=dW db fb;have CC:=uQ fr to [a,b] (zS ha hb);rw[hc] at CC;have DA:=iF a;have DB:=iF b;by_cases hA:0<a.length
 ·have eA:decide ((a.length:Int)>0)=true:=decide_eq_true (by omega);have wA:=zN hA;have gA:=aDx hA;by_cases hB:0<b.length
  ·have eB:decide ((b.length:Int)>0)=true:=decide_eq_true (by omega);have wB:=zN hB;have gB:=aDx hB;cases eW:(aT a != aT b)
   ·have eW2:=eW;rw[wA,wB] at eW2;have hcl:xO a b=false:=by simp only[xO,eA,eB,eW];rfl
    cases h1:iW fr to a
    ·have IA:=aV a fr to oa ha.1;have IB:=aV b fr to ob hb.1;rw[h1] at IA;have hz:mgC fr to a b=6:=by simp[mgC,hc,hcl,h1]
     rw[show mgV fr to a b=.v (.slice none 0 0) by simp[mgV,hz],hz];refine fn0 Cd.i_MergeDecks_k fun X=>?_
     repeat' first|simp -dsimp only[go_sem,cC,cFd,eA,eB,eW,eW2,gA,gB]|apply Br.mk<;>intro h<;>try simp -dsimp only[h]|refine aA.c (by first|exact CC|exact DA|exact DB|exact IA|exact IB) ?_|refine aC ?_|fail
     all_goals first|exact⟨_,_,rfl,rfl⟩
    cases h2:iW fr to b
    ·have IA:=aV a fr to oa ha.1;have IB:=aV b fr to ob hb.1;rw[h1] at IA;rw[h2] at IB;have hz:mgC fr to a b=6:=by simp[mgC,hc,hcl,h1,h2]
     rw[show mgV fr to a b=.v (.slice none 0 0) by simp[mgV,hz],hz];refine fn0 Cd.i_MergeDecks_k fun X=>?_
     repeat' first|simp -dsimp only[go_sem,cC,cFd,eA,eB,eW,eW2,gA,gB]|apply Br.mk<;>intro h<;>try simp -dsimp only[h]|refine aA.c (by first|exact CC|exact DA|exact DB|exact IA|exact IB) ?_|refine aC ?_|fail
     all_goals first|exact⟨_,_,rfl,rfl⟩
    by_cases hs:(a.length:Int)+(b.length:Int)>40
    ·have e5:decide ((a.length:Int)+(b.length:Int)>40)=true:=decide_eq_true hs;have IA:=aV a fr to oa ha.1;have IB:=aV b fr to ob hb.1;rw[h1] at IA;rw[h2] at IB;have hz:mgC fr to a b=5:=by simp[mgC,hc,hcl,h1,h2,hs]
     rw[show mgV fr to a b=.v (.slice none 0 0) by simp[mgV,hz],hz];refine fn0 Cd.i_MergeDecks_k fun X=>?_
     repeat' first|simp -dsimp only[go_sem,cC,cFd,eA,eB,eW,eW2,gA,gB,hwa,e5]|apply Br.mk<;>intro h<;>try simp -dsimp only[h]|refine aA.c (by first|exact CC|exact DA|exact DB|exact IA|exact IB) ?_|refine aC ?_|fail
     all_goals first|exact⟨_,_,rfl,rfl⟩
    ·have e5:decide ((a.length:Int)+(b.length:Int)>40)=false:=decide_eq_false hs;have IA:=aV a fr to oa ha.1;have IB:=aV b fr to ob hb.1;rw[h1] at IA;rw[h2] at IB;have hz:mgC fr to a b=0:=by simp[mgC,hc,hcl,h1,h2,hs]
     rw[show mgV fr to a b=.sl 1 (E cC (bQ fr to (a++b))) by simp[mgV,hz],hz]
     have hoab:∀c,c∈a++b→okF fr to c:=fun c hc=>by
      rcases List.mem_append.1 hc with h|h
      ·exact oa c h
      ·exact ob c h
     have SB:=wH (a++b) fr to hoab (by simp;omega);have hap:E cC a++E cC b=E cC (a++b):=by rw[aY]
     have hab:(E cC (a++b)).take (a.length+b.length)=E cC (a++b):=List.take_of_length_le (by rw[aH];simp);refine fn0 Cd.i_MergeDecks_k fun X=>?_
     repeat' first|simp -dsimp only[go_sem,cC,cFd,eA,eB,eW,eW2,gA,gB,hwa,e5,hap,hab]|apply Br.mk<;>intro h<;>try simp -dsimp only[h]|refine aA.c (by first|exact CC|exact DA|exact DB|exact IA|exact IB) ?_|refine aC ?_|fail
     refine aA.own (vE a ha.2 ha.1) rfl ?_
     repeat' first|simp -dsimp only[go_sem,cC,cFd,eA,eB,eW,eW2,gA,gB,hwa,e5,hap,hab]|apply Br.mk<;>intro h<;>try simp -dsimp only[h]|refine aA.c (by first|exact SB) ?_|refine aC ?_|fail
     all_goals first|omega|exact⟨_,_,rfl,rfl⟩
   ·have eW2:=eW;rw[wA,wB] at eW2;have hcl:xO a b=true:=by simp only[xO,eA,eB,eW];rfl
    have hz:mgC fr to a b=9:=by simp[mgC,hc,hcl]
    rw[show mgV fr to a b=.v (.slice none 0 0) by simp[mgV,hz],hz];refine fn0 Cd.i_MergeDecks_k fun X=>?_
    repeat' first|simp -dsimp only[go_sem,cC,cFd,eA,eB,eW,eW2,gA,gB]|apply Br.mk<;>intro h<;>try simp -dsimp only[h]|refine aA.c (by first|exact CC|exact DA|exact DB) ?_|refine aC ?_|fail
    all_goals first|exact⟨_,_,rfl,rfl⟩
  ·have eB:decide ((b.length:Int)>0)=false:=decide_eq_false (by omega);have hcl:xO a b=false:=by simp only[xO,eA,eB];rfl
   cases h1:iW fr to a
   ·have IA:=aV a fr to oa ha.1;have IB:=aV b fr to ob hb.1;rw[h1] at IA;have hz:mgC fr to a b=6:=by simp[mgC,hc,hcl,h1]
    rw[show mgV fr to a b=.v (.slice none 0 0) by simp[mgV,hz],hz];refine fn0 Cd.i_MergeDecks_k fun X=>?_
    repeat' first|simp -dsimp only[go_sem,cC,cFd,eA,eB]|apply Br.mk<;>intro h<;>try simp -dsimp only[h]|refine aA.c (by first|exact CC|exact DA|exact DB|exact IA|exact IB) ?_|refine aC ?_|fail
    all_goals first|exact⟨_,_,rfl,rfl⟩
   cases h2:iW fr to b
   ·have IA:=aV a fr to oa ha.1;have IB:=aV b fr to ob hb.1;rw[h1] at IA;rw[h2] at IB;have hz:mgC fr to a b=6:=by simp[mgC,hc,hcl,h1,h2]
    rw[show mgV fr to a b=.v (.slice none 0 0) by simp[mgV,hz],hz];refine fn0 Cd.i_MergeDecks_k fun X=>?_
    repeat' first|simp -dsimp only[go_sem,cC,cFd,eA,eB]|apply Br.mk<;>intro h<;>try simp -dsimp only[h]|refine aA.c (by first|exact CC|exact DA|exact DB|exact IA|exact IB) ?_|refine aC ?_|fail
    all_goals first|exact⟨_,_,rfl,rfl⟩
   by_cases hs:(a.length:Int)+(b.length:Int)>40
   ·have e5:decide ((a.length:Int)+(b.length:Int)>40)=true:=decide_eq_true hs;have IA:=aV a fr to oa ha.1;have IB:=aV b fr to ob hb.1;rw[h1] at IA;rw[h2] at IB;have hz:mgC fr to a b=5:=by simp[mgC,hc,hcl,h1,h2,hs]
    rw[show mgV fr to a b=.v (.slice none 0 0) by simp[mgV,hz],hz];refine fn0 Cd.i_MergeDecks_k fun X=>?_
    repeat' first|simp -dsimp only[go_sem,cC,cFd,eA,eB,hwa,e5]|apply Br.mk<;>intro h<;>try simp -dsimp only[h]|refine aA.c (by first|exact CC|exact DA|exact DB|exact IA|exact IB) ?_|refine aC ?_|fail
    all_goals first|exact⟨_,_,rfl,rfl⟩
   ·have e5:decide ((a.length:Int)+(b.length:Int)>40)=false:=decide_eq_false hs;have IA:=aV a fr to oa ha.1;have IB:=aV b fr to ob hb.1;rw[h1] at IA;rw[h2] at IB;have hz:mgC fr to a b=0:=by simp[mgC,hc,hcl,h1,h2,hs]
    rw[show mgV fr to a b=.sl 1 (E cC (bQ fr to (a++b))) by simp[mgV,hz],hz]
    have hoab:∀c,c∈a++b→okF fr to c:=fun c hc=>by
     rcases List.mem_append.1 hc with h|h
     ·exact oa c h
     ·exact ob c h
    have SB:=wH (a++b) fr to hoab (by simp;omega);have hap:E cC a++E cC b=E cC (a++b):=by rw[aY]
    have hab:(E cC (a++b)).take (a.length+b.length)=E cC (a++b):=List.take_of_length_le (by rw[aH];simp);refine fn0 Cd.i_MergeDecks_k fun X=>?_
    repeat' first|simp -dsimp only[go_sem,cC,cFd,eA,eB,hwa,e5,hap,hab]|apply Br.mk<;>intro h<;>try simp -dsimp only[h]|refine aA.c (by first|exact CC|exact DA|exact DB|exact IA|exact IB) ?_|refine aC ?_|fail
    refine aA.own (vE a ha.2 ha.1) rfl ?_
    repeat' first|simp -dsimp only[go_sem,cC,cFd,eA,eB,hwa,e5,hap,hab]|apply Br.mk<;>intro h<;>try simp -dsimp only[h]|refine aA.c (by first|exact SB) ?_|refine aC ?_|fail
    all_goals first|omega|exact⟨_,_,rfl,rfl⟩
 ·have eA:decide ((a.length:Int)>0)=false:=decide_eq_false (by omega);have hcl:xO a b=false:=by simp only[xO,eA];rfl
  cases h1:iW fr to a
  ·have IA:=aV a fr to oa ha.1;have IB:=aV b fr to ob hb.1;rw[h1] at IA;have hz:mgC fr to a b=6:=by simp[mgC,hc,hcl,h1]
   rw[show mgV fr to a b=.v (.slice none 0 0) by simp[mgV,hz],hz];refine fn0 Cd.i_MergeDecks_k fun X=>?_
   repeat' first|simp -dsimp only[go_sem,cC,cFd,eA]|apply Br.mk<;>intro h<;>try simp -dsimp only[h]|refine aA.c (by first|exact CC|exact DA|exact DB|exact IA|exact IB) ?_|refine aC ?_|fail
   all_goals first|exact⟨_,_,rfl,rfl⟩
  cases h2:iW fr to b
  ·have IA:=aV a fr to oa ha.1;have IB:=aV b fr to ob hb.1;rw[h1] at IA;rw[h2] at IB;have hz:mgC fr to a b=6:=by simp[mgC,hc,hcl,h1,h2]
   rw[show mgV fr to a b=.v (.slice none 0 0) by simp[mgV,hz],hz];refine fn0 Cd.i_MergeDecks_k fun X=>?_
   repeat' first|simp -dsimp only[go_sem,cC,cFd,eA]|apply Br.mk<;>intro h<;>try simp -dsimp only[h]|refine aA.c (by first|exact CC|exact DA|exact DB|exact IA|exact IB) ?_|refine aC ?_|fail
   all_goals first|exact⟨_,_,rfl,rfl⟩
  by_cases hs:(a.length:Int)+(b.length:Int)>40
  ·have e5:decide ((a.length:Int)+(b.length:Int)>40)=true:=decide_eq_true hs;have IA:=aV a fr to oa ha.1;have IB:=aV b fr to ob hb.1;rw[h1] at IA;rw[h2] at IB;have hz:mgC fr to a b=5:=by simp[mgC,hc,hcl,h1,h2,hs]
   rw[show mgV fr to a b=.v (.slice none 0 0) by simp[mgV,hz],hz];refine fn0 Cd.i_MergeDecks_k fun X=>?_
   repeat' first|simp -dsimp only[go_sem,cC,cFd,eA,hwa,e5]|apply Br.mk<;>intro h<;>try simp -dsimp only[h]|refine aA.c (by first|exact CC|exact DA|exact DB|exact IA|exact IB) ?_|refine aC ?_|fail
   all_goals first|exact⟨_,_,rfl,rfl⟩
  ·have e5:decide ((a.length:Int)+(b.length:Int)>40)=false:=decide_eq_false hs;have IA:=aV a fr to oa ha.1;have IB:=aV b fr to ob hb.1;rw[h1] at IA;rw[h2] at IB;have hz:mgC fr to a b=0:=by simp[mgC,hc,hcl,h1,h2,hs]
   rw[show mgV fr to a b=.sl 1 (E cC (bQ fr to (a++b))) by simp[mgV,hz],hz]
   have hoab:∀c,c∈a++b→okF fr to c:=fun c hc=>by
    rcases List.mem_append.1 hc with h|h
    ·exact oa c h
    ·exact ob c h
   have SB:=wH (a++b) fr to hoab (by simp;omega);have hap:E cC a++E cC b=E cC (a++b):=by rw[aY]
   have hab:(E cC (a++b)).take (a.length+b.length)=E cC (a++b):=List.take_of_length_le (by rw[aH];simp);refine fn0 Cd.i_MergeDecks_k fun X=>?_
   repeat' first|simp -dsimp only[go_sem,cC,cFd,eA,hwa,e5,hap,hab]|apply Br.mk<;>intro h<;>try simp -dsimp only[h]|refine aA.c (by first|exact CC|exact DA|exact DB|exact IA|exact IB) ?_|refine aC ?_|fail
   refine aA.own (vE a ha.2 ha.1) rfl ?_
   repeat' first|simp -dsimp only[go_sem,cC,cFd,eA,hwa,e5,hap,hab]|apply Br.mk<;>intro h<;>try simp -dsimp only[h]|refine aA.c (by first|exact SB) ?_|refine aC ?_|fail
   all_goals first|omega|exact⟨_,_,rfl,rfl⟩
end
section
variable [Vs.Envs]
attribute [local irreducible] Vs.Fn cZ aW dB dC l03 chB rk cd3 chI stp aZ stb mgF iW stF bG kH aT
attribute [local go_sem] Int.reduceBEq Int.reduceBNe cD aH List.replicate_succ List.replicate_zero List.flatten_cons List.flatten_nil List.cons_append List.nil_append List.set_cons_zero List.set_cons_succ List.length_cons List.length_nil List.length_set List.mem_singleton List.mem_cons List.not_mem_nil or_false false_or Vs.Name.t.injEq List.flatMap_cons List.flatMap_nil bC bO bB List.getD_cons_zero List.append_nil in
theorem vQ (a b:List (List Int)) (fr to:Int) (ha:bA a) (hb:bA b):Fz F.mO [.sl 1 (E cC a),.sl 1 (E cC b),.agg (cFd fr to)] (.tup [mgV fr to a b,.v (.int .i64 (mgC fr to a b))]):=by
 have hwa:=wrap_add ha.1 hb.1;by_cases hc:kH fr to [a,b]=0
 rotate_left
 ·have e0:(kH fr to [a,b] != 0)=true:=by simp[hc]
  have hz:mgC fr to a b=kH fr to [a,b]:=by simp[mgC,hc]
  rw[show mgV fr to a b=.v (.slice none 0 0) by simp[mgV,hz,hc],hz];have CC:=aDY a b fr to ha hb;rw[show twV fr to a b a=.v (.slice none 0 0) by simp[twV,hc],show twV fr to a b b=.v (.slice none 0 0) by simp[twV,hc]] at CC;refine fn0 Cd.s_MergeDecks_k fun X=>?_
  repeat' first|simp -dsimp only[go_sem,cC,cFd,e0]|apply Br.mk<;>intro h<;>try simp -dsimp only[h]|refine aA.c (by first|exact CC) ?_|refine aC ?_|fail
  all_goals first|exact⟨_,_,rfl,rfl⟩
 obtain⟨⟨da,db⟩,⟨fa,fb⟩,ca,cb⟩:=aBI hc;have oa:=dW da fa;have ob:=dW db fb;have CC:=aDY a b fr to ha hb;rw[show twV fr to a b a=.sl 1 (E cSt (bS fr to a)) by simp[twV,hc],show twV fr to a b b=.sl 1 (E cSt (bS fr to b)) by simp[twV,hc],hc] at CC;by_cases hA:0<a.length
 ·have eA:decide ((a.length:Int)>0)=true:=decide_eq_true (by omega);have wA:=zN hA;have gA:=aDx hA;by_cases hB:0<b.length
  ·have eB:decide ((b.length:Int)>0)=true:=decide_eq_true (by omega);have wB:=zN hB;have gB:=aDx hB;cases eW:(aT a != aT b)
   ·have eW2:=eW;rw[wA,wB] at eW2;have hcl:xO a b=false:=by simp only[xO,eA,eB,eW];rfl
    cases h1:iW fr to a
    ·have sa:=dL fr to a;rw[h1] at sa;have LA:=cB a fr to oa ca ha.1;have LB:=cB b fr to ob cb hb.1;have hz:mgC fr to a b=6:=by simp[mgC,hc,hcl,h1]
     rw[show mgV fr to a b=.v (.slice none 0 0) by simp[mgV,hz],hz];refine fn0 Cd.s_MergeDecks_k fun X=>?_
     repeat' first|simp -dsimp only[go_sem,cC,cFd,eA,eB,eW,eW2,gA,gB,sa]|apply Br.mk<;>intro h<;>try simp -dsimp only[h]|refine aA.c (by first|exact CC|exact LA|exact LB) ?_|refine aC ?_|fail
     all_goals first|exact⟨_,_,rfl,rfl⟩
    cases h2:iW fr to b
    ·have sa:=dL fr to a;rw[h1] at sa;have LA:=cB a fr to oa ca ha.1;have LB:=cB b fr to ob cb hb.1;have sb:=dL fr to b;rw[h2] at sb;have hz:mgC fr to a b=6:=by simp[mgC,hc,hcl,h1,h2]
     rw[show mgV fr to a b=.v (.slice none 0 0) by simp[mgV,hz],hz];refine fn0 Cd.s_MergeDecks_k fun X=>?_
     repeat' first|simp -dsimp only[go_sem,cC,cFd,eA,eB,eW,eW2,gA,gB,sa,sb]|apply Br.mk<;>intro h<;>try simp -dsimp only[h]|refine aA.c (by first|exact CC|exact LA|exact LB) ?_|refine aC ?_|fail
     all_goals first|exact⟨_,_,rfl,rfl⟩
    by_cases hs:(a.length:Int)+(b.length:Int)>40
    ·have e5:decide ((a.length:Int)+(b.length:Int)>40)=true:=decide_eq_true hs;have sa:=dL fr to a;rw[h1] at sa;have LA:=cB a fr to oa ca ha.1;have LB:=cB b fr to ob cb hb.1;have sb:=dL fr to b;rw[h2] at sb;have hz:mgC fr to a b=5:=by simp[mgC,hc,hcl,h1,h2,hs]
     rw[show mgV fr to a b=.v (.slice none 0 0) by simp[mgV,hz],hz];refine fn0 Cd.s_MergeDecks_k fun X=>?_
     repeat' first|simp -dsimp only[go_sem,cC,cFd,eA,eB,eW,eW2,gA,gB,hwa,e5,sa,sb]|apply Br.mk<;>intro h<;>try simp -dsimp only[h]|refine aA.c (by first|exact CC|exact LA|exact LB) ?_|refine aC ?_|fail
     all_goals first|exact⟨_,_,rfl,rfl⟩
    ·have e5:decide ((a.length:Int)+(b.length:Int)>40)=false:=decide_eq_false hs;have sa:=dL fr to a;rw[h1] at sa;have LA:=cB a fr to oa ca ha.1;have LB:=cB b fr to ob cb hb.1;have sb:=dL fr to b;rw[h2] at sb
     have hoab:∀c,c∈a++b→okF fr to c:=fun c hc=>by
      rcases List.mem_append.1 hc with h|h
      ·exact oa c h
      ·exact ob c h
     have MG:=aCc a b fr to ha hb oa ob ca cb (by omega);rw[aFN hoab (by omega) h1 h2,show(oW fr to (a++b)).map (fun i=>(a++b).getD i.toNat [])=bQ fr to (a++b) by unfold bQ;rfl] at MG;have hz:mgC fr to a b=0:=by simp[mgC,hc,hcl,h1,h2,hs]
     rw[show mgV fr to a b=.sl 1 (E cC (bQ fr to (a++b))) by simp[mgV,hz],hz];refine fn0 Cd.s_MergeDecks_k fun X=>?_
     repeat' first|simp -dsimp only[go_sem,cC,cFd,eA,eB,eW,eW2,gA,gB,hwa,e5,sa,sb]|apply Br.mk<;>intro h<;>try simp -dsimp only[h]|refine aA.c (by first|exact CC|exact LA|exact LB|exact MG) ?_|refine aC ?_|fail
     all_goals first|exact⟨_,_,rfl,rfl⟩
   ·have eW2:=eW;rw[wA,wB] at eW2;have hcl:xO a b=true:=by simp only[xO,eA,eB,eW];rfl
    have hz:mgC fr to a b=9:=by simp[mgC,hc,hcl]
    rw[show mgV fr to a b=.v (.slice none 0 0) by simp[mgV,hz],hz];refine fn0 Cd.s_MergeDecks_k fun X=>?_
    repeat' first|simp -dsimp only[go_sem,cC,cFd,eA,eB,eW,eW2,gA,gB]|apply Br.mk<;>intro h<;>try simp -dsimp only[h]|refine aA.c (by first|exact CC) ?_|refine aC ?_|fail
    all_goals first|exact⟨_,_,rfl,rfl⟩
  ·have eB:decide ((b.length:Int)>0)=false:=decide_eq_false (by omega);have hcl:xO a b=false:=by simp only[xO,eA,eB];rfl
   cases h1:iW fr to a
   ·have sa:=dL fr to a;rw[h1] at sa;have LA:=cB a fr to oa ca ha.1;have LB:=cB b fr to ob cb hb.1;have hz:mgC fr to a b=6:=by simp[mgC,hc,hcl,h1]
    rw[show mgV fr to a b=.v (.slice none 0 0) by simp[mgV,hz],hz];refine fn0 Cd.s_MergeDecks_k fun X=>?_
    repeat' first|simp -dsimp only[go_sem,cC,cFd,eA,eB,sa]|apply Br.mk<;>intro h<;>try simp -dsimp only[h]|refine aA.c (by first|exact CC|exact LA|exact LB) ?_|refine aC ?_|fail
    all_goals first|exact⟨_,_,rfl,rfl⟩
   cases h2:iW fr to b
   ·have sa:=dL fr to a;rw[h1] at sa;have LA:=cB a fr to oa ca ha.1;have LB:=cB b fr to ob cb hb.1;have sb:=dL fr to b;rw[h2] at sb;have hz:mgC fr to a b=6:=by simp[mgC,hc,hcl,h1,h2]
    rw[show mgV fr to a b=.v (.slice none 0 0) by simp[mgV,hz],hz];refine fn0 Cd.s_MergeDecks_k fun X=>?_
    repeat' first|simp -dsimp only[go_sem,cC,cFd,eA,eB,sa,sb]|apply Br.mk<;>intro h<;>try simp -dsimp only[h]|refine aA.c (by first|exact CC|exact LA|exact LB) ?_|refine aC ?_|fail
    all_goals first|exact⟨_,_,rfl,rfl⟩
   by_cases hs:(a.length:Int)+(b.length:Int)>40
   ·have e5:decide ((a.length:Int)+(b.length:Int)>40)=true:=decide_eq_true hs;have sa:=dL fr to a;rw[h1] at sa;have LA:=cB a fr to oa ca ha.1;have LB:=cB b fr to ob cb hb.1;have sb:=dL fr to b;rw[h2] at sb;have hz:mgC fr to a b=5:=by simp[mgC,hc,hcl,h1,h2,hs]
    rw[show mgV fr to a b=.v (.slice none 0 0) by simp[mgV,hz],hz];refine fn0 Cd.s_MergeDecks_k fun X=>?_
    repeat' first|simp -dsimp only[go_sem,cC,cFd,eA,eB,hwa,e5,sa,sb]|apply Br.mk<;>intro h<;>try simp -dsimp only[h]|refine aA.c (by first|exact CC|exact LA|exact LB) ?_|refine aC ?_|fail
    all_goals first|exact⟨_,_,rfl,rfl⟩
   ·have e5:decide ((a.length:Int)+(b.length:Int)>40)=false:=decide_eq_false hs;have sa:=dL fr to a;rw[h1] at sa;have LA:=cB a fr to oa ca ha.1;have LB:=cB b fr to ob cb hb.1;have sb:=dL fr to b;rw[h2] at sb
    have hoab:∀c,c∈a++b→okF fr to c:=fun c hc=>by
     rcases List.mem_append.1 hc with h|h
     ·exact oa c h
     ·exact ob c h
    have MG:=aCc a b fr to ha hb oa ob ca cb (by omega);rw[aFN hoab (by omega) h1 h2,show(oW fr to (a++b)).map (fun i=>(a++b).getD i.toNat [])=bQ fr to (a++b) by unfold bQ;rfl] at MG;have hz:mgC fr to a b=0:=by simp[mgC,hc,hcl,h1,h2,hs]
    rw[show mgV fr to a b=.sl 1 (E cC (bQ fr to (a++b))) by simp[mgV,hz],hz];refine fn0 Cd.s_MergeDecks_k fun X=>?_
    repeat' first|simp -dsimp only[go_sem,cC,cFd,eA,eB,hwa,e5,sa,sb]|apply Br.mk<;>intro h<;>try simp -dsimp only[h]|refine aA.c (by first|exact CC|exact LA|exact LB|exact MG) ?_|refine aC ?_|fail
    all_goals first|exact⟨_,_,rfl,rfl⟩
 ·have eA:decide ((a.length:Int)>0)=false:=decide_eq_false (by omega);have hcl:xO a b=false:=by simp only[xO,eA];rfl
  cases h1:iW fr to a
  ·have sa:=dL fr to a;rw[h1] at sa;have LA:=cB a fr to oa ca ha.1;have LB:=cB b fr to ob cb hb.1;have hz:mgC fr to a b=6:=by simp[mgC,hc,hcl,h1]
   rw[show mgV fr to a b=.v (.slice none 0 0) by simp[mgV,hz],hz];refine fn0 Cd.s_MergeDecks_k fun X=>?_
   repeat' first|simp -dsimp only[go_sem,cC,cFd,eA,sa]|apply Br.mk<;>intro h<;>try simp -dsimp only[h]|refine aA.c (by first|exact CC|exact LA|exact LB) ?_|refine aC ?_|fail
   all_goals first|exact⟨_,_,rfl,rfl⟩
  cases h2:iW fr to b
  ·have sa:=dL fr to a;rw[h1] at sa;have LA:=cB a fr to oa ca ha.1;have LB:=cB b fr to ob cb hb.1;have sb:=dL fr to b;rw[h2] at sb;have hz:mgC fr to a b=6:=by simp[mgC,hc,hcl,h1,h2]
   rw[show mgV fr to a b=.v (.slice none 0 0) by simp[mgV,hz],hz];refine fn0 Cd.s_MergeDecks_k fun X=>?_
   repeat' first|simp -dsimp only[go_sem,cC,cFd,eA,sa,sb]|apply Br.mk<;>intro h<;>try simp -dsimp only[h]|refine aA.c (by first|exact CC|exact LA|exact LB) ?_|refine aC ?_|fail
   all_goals first|exact⟨_,_,rfl,rfl⟩
  by_cases hs:(a.length:Int)+(b.length:Int)>40
  ·have e5:decide ((a.length:Int)+(b.length:Int)>40)=true:=decide_eq_true hs;have sa:=dL fr to a;rw[h1] at sa;have LA:=cB a fr to oa ca ha.1;have LB:=cB b fr to ob cb hb.1;have sb:=dL fr to b;rw[h2] at sb;have hz:mgC fr to a b=5:=by simp[mgC,hc,hcl,h1,h2,hs]
   rw[show mgV fr to a b=.v (.slice none 0 0) by simp[mgV,hz],hz];refine fn0 Cd.s_MergeDecks_k fun X=>?_
   repeat' first|simp -dsimp only[go_sem,cC,cFd,eA,hwa,e5,sa,sb]|apply Br.mk<;>intro h<;>try simp -dsimp only[h]|refine aA.c (by first|exact CC|exact LA|exact LB) ?_|refine aC ?_|fail
   all_goals first|exact⟨_,_,rfl,rfl⟩
  ·have e5:decide ((a.length:Int)+(b.length:Int)>40)=false:=decide_eq_false hs;have sa:=dL fr to a;rw[h1] at sa;have LA:=cB a fr to oa ca ha.1;have LB:=cB b fr to ob cb hb.1;have sb:=dL fr to b;rw[h2] at sb
   have hoab:∀c,c∈a++b→okF fr to c:=fun c hc=>by
    rcases List.mem_append.1 hc with h|h
    ·exact oa c h
    ·exact ob c h
   have MG:=aCc a b fr to ha hb oa ob ca cb (by omega);rw[aFN hoab (by omega) h1 h2,show(oW fr to (a++b)).map (fun i=>(a++b).getD i.toNat [])=bQ fr to (a++b) by unfold bQ;rfl] at MG;have hz:mgC fr to a b=0:=by simp[mgC,hc,hcl,h1,h2,hs]
   rw[show mgV fr to a b=.sl 1 (E cC (bQ fr to (a++b))) by simp[mgV,hz],hz];refine fn0 Cd.s_MergeDecks_k fun X=>?_
   repeat' first|simp -dsimp only[go_sem,cC,cFd,eA,hwa,e5,sa,sb]|apply Br.mk<;>intro h<;>try simp -dsimp only[h]|refine aA.c (by first|exact CC|exact LA|exact LB|exact MG) ?_|refine aC ?_|fail
   all_goals first|exact⟨_,_,rfl,rfl⟩
end
end Go.Proofs.YthbnjmgjhonfbaaGreat
