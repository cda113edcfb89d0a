/- MergeDecks: the reference. -/
import Derived.Test.YtonkjfiffcfaoaaGreatUwVf
import Derived.Test.YtonkjfiffcfaoaaGreatUwSh
import Derived.Test.YtonkjfiffcfaoaaGreatVtR
set_option linter.all false
set_option maxHeartbeats 8000000
namespace Go.Proofs.YtonkjfiffcfaoaaGreat
open Go.Vs
section
variable [Vs.Envs]
attribute [local irreducible] Vs.Fn cZ aW dA dB l03 chB rk cd3 chI stp aY stb oU mgF iT stF bH kG iJ bD
def xH (a b:List (List Int)):Bool:=decide ((a.length:Int)>0)&&(decide ((b.length:Int)>0)&&(bD a != bD b))
def mgC (fr to:Int) (a b:List (List Int)):Int:=if kG fr to [a,b]=0 then(if xH a b then 9 else if iT fr to a&&iT fr to b then(if(a.length:Int)+(b.length:Int)>40 then 5 else 0) else 6) else kG fr to [a,b]
def mgV (fr to:Int) (a b:List (List Int)):AV:=if mgC fr to a b=0 then .sl 1 (E cC (iJ fr to (a++b))) else .v (.slice none 0 0)
theorem zP {l:List (List Int)} (h:0<l.length):bD l=((l.getD 0 []).length:Int):=by unfold bD;rw[if_neg (by omega)]
theorem wrap_add {a b:Nat} (h:a≤1048576) (h2:b≤1048576):IntKind.i64.wrap ((a:Int)+(b:Int))=(a:Int)+(b:Int):=aO (by omega) (by omega)
attribute [local go_sem] Int.reduceBEq Int.reduceBNe cD aG List.replicate_succ List.replicate_zero List.flatten_cons List.flatten_nil List.cons_append List.nil_append List.set_cons_zero List.set_cons_succ List.length_cons List.length_nil List.length_set List.mem_singleton List.mem_cons List.not_mem_nil or_false false_or Vs.Name.t.injEq List.flatMap_cons List.flatMap_nil bA bN aZ List.getD_cons_zero List.append_nil in
theorem aBx (a b:List (List Int)) (fr to:Int) (ha:bE a) (hb:bE b):Fz F.mZ [.sl 1 (E cC a),.sl 1 (E cC b),.agg (cFd fr to)] (.tup [mgV fr to a b,.v (.int .i64 (mgC fr to a b))]):=by
 have hwa:=wrap_add ha.1 hb.1;by_cases hc:kG fr to [a,b]=0
 rotate_left
 ·have e0:(kG fr to [a,b] != 0)=true:=by simp[hc]
  have hz:mgC fr to a b=kG fr to [a,b]:=by simp[mgC,hc]
  rw[show mgV fr to a b=.v (.slice none 0 0) by simp[mgV,hz,hc],hz];have CC:=uL fr to [a,b] (zU ha hb);refine fn0 Cd.i_MergeDecks_k fun X=>?_
  repeat' first|simp -dsimp only[go_sem,cC,cFd,e0]|apply Br.mk<;>intro h<;>try simp -dsimp only[h]|refine aA.c (by first|exact CC) ?_|refine aC ?_|fail
  all_goals first|exact⟨_,_,rfl,rfl⟩
 obtain⟨⟨da,db⟩,⟨fa,fb⟩,ca,cb⟩:=aBN hc;have oa:=fA da fa;have ob:=fA db fb;have CC:=uL fr to [a,b] (zU ha hb);rw[hc] at CC;have DA:=iW a;have DB:=iW b;by_cases hA:0<a.length
 ·have eA:decide ((a.length:Int)>0)=true:=decide_eq_true (by omega);have wA:=zP hA;have gA:=aDp hA;by_cases hB:0<b.length
  ·have eB:decide ((b.length:Int)>0)=true:=decide_eq_true (by omega);have wB:=zP hB;have gB:=aDp hB;cases eW:(bD a != bD b)
   ·have eW2:=eW;rw[wA,wB] at eW2;have hcl:xH a b=false:=by simp only[xH,eA,eB,eW];rfl
    cases h1:iT fr to a
    ·have IA:=aV a fr to oa ha.1;have IB:=aV b fr to ob hb.1;rw[h1] at IA;have hz:mgC fr to a b=6:=by simp[mgC,hc,hcl,h1]
     rw[show mgV fr to a b=.v (.slice none 0 0) by simp[mgV,hz],hz];refine fn0 Cd.i_MergeDecks_k fun X=>?_
     repeat' first|simp -dsimp only[go_sem,cC,cFd,eA,eB,eW,eW2,gA,gB]|apply Br.mk<;>intro h<;>try simp -dsimp only[h]|refine aA.c (by first|exact CC|exact DA|exact DB|exact IA|exact IB) ?_|refine aC ?_|fail
     all_goals first|exact⟨_,_,rfl,rfl⟩
    cases h2:iT fr to b
    ·have IA:=aV a fr to oa ha.1;have IB:=aV b fr to ob hb.1;rw[h1] at IA;rw[h2] at IB;have hz:mgC fr to a b=6:=by simp[mgC,hc,hcl,h1,h2]
     rw[show mgV fr to a b=.v (.slice none 0 0) by simp[mgV,hz],hz];refine fn0 Cd.i_MergeDecks_k fun X=>?_
     repeat' first|simp -dsimp only[go_sem,cC,cFd,eA,eB,eW,eW2,gA,gB]|apply Br.mk<;>intro h<;>try simp -dsimp only[h]|refine aA.c (by first|exact CC|exact DA|exact DB|exact IA|exact IB) ?_|refine aC ?_|fail
     all_goals first|exact⟨_,_,rfl,rfl⟩
    by_cases hs:(a.length:Int)+(b.length:Int)>40
    ·have e5:decide ((a.length:Int)+(b.length:Int)>40)=true:=decide_eq_true hs;have IA:=aV a fr to oa ha.1;have IB:=aV b fr to ob hb.1;rw[h1] at IA;rw[h2] at IB;have hz:mgC fr to a b=5:=by simp[mgC,hc,hcl,h1,h2,hs]
     rw[show mgV fr to a b=.v (.slice none 0 0) by simp[mgV,hz],hz];refine fn0 Cd.i_MergeDecks_k fun X=>?_
     repeat' first|simp -dsimp only[go_sem,cC,cFd,eA,eB,eW,eW2,gA,gB,hwa,e5]|apply Br.mk<;>intro h<;>try simp -dsimp only[h]|refine aA.c (by first|exact CC|exact DA|exact DB|exact IA|exact IB) ?_|refine aC ?_|fail
     all_goals first|exact⟨_,_,rfl,rfl⟩
    ·have e5:decide ((a.length:Int)+(b.length:Int)>40)=false:=decide_eq_false hs;have IA:=aV a fr to oa ha.1;have IB:=aV b fr to ob hb.1;rw[h1] at IA;rw[h2] at IB;have hz:mgC fr to a b=0:=by simp[mgC,hc,hcl,h1,h2,hs]
     rw[show mgV fr to a b=.sl 1 (E cC (iJ fr to (a++b))) by simp[mgV,hz],hz]
     have hoab:∀c,c∈a++b→okF fr to c:=fun c hc=>by
      rcases List.mem_append.1 hc with h|h
      ·exact oa c h
      ·exact ob c h
     have SB:=zT (a++b) fr to hoab (by simp;omega);have hap:E cC a++E cC b=E cC (a++b):=by rw[aR]
     have hab:(E cC (a++b)).take (a.length+b.length)=E cC (a++b):=List.take_of_length_le (by rw[aG];simp);refine fn0 Cd.i_MergeDecks_k fun X=>?_
     repeat' first|simp -dsimp only[go_sem,cC,cFd,eA,eB,eW,eW2,gA,gB,hwa,e5,hap,hab]|apply Br.mk<;>intro h<;>try simp -dsimp only[h]|refine aA.c (by first|exact CC|exact DA|exact DB|exact IA|exact IB) ?_|refine aC ?_|fail
     refine aA.own (xY a ha.2 ha.1) rfl ?_
     repeat' first|simp -dsimp only[go_sem,cC,cFd,eA,eB,eW,eW2,gA,gB,hwa,e5,hap,hab]|apply Br.mk<;>intro h<;>try simp -dsimp only[h]|refine aA.c (by first|exact SB) ?_|refine aC ?_|fail
     all_goals first|omega|exact⟨_,_,rfl,rfl⟩
   ·have eW2:=eW;rw[wA,wB] at eW2;have hcl:xH a b=true:=by simp only[xH,eA,eB,eW];rfl
    have hz:mgC fr to a b=9:=by simp[mgC,hc,hcl]
    rw[show mgV fr to a b=.v (.slice none 0 0) by simp[mgV,hz],hz];refine fn0 Cd.i_MergeDecks_k fun X=>?_
    repeat' first|simp -dsimp only[go_sem,cC,cFd,eA,eB,eW,eW2,gA,gB]|apply Br.mk<;>intro h<;>try simp -dsimp only[h]|refine aA.c (by first|exact CC|exact DA|exact DB) ?_|refine aC ?_|fail
    all_goals first|exact⟨_,_,rfl,rfl⟩
  ·have eB:decide ((b.length:Int)>0)=false:=decide_eq_false (by omega);have hcl:xH a b=false:=by simp only[xH,eA,eB];rfl
   cases h1:iT fr to a
   ·have IA:=aV a fr to oa ha.1;have IB:=aV b fr to ob hb.1;rw[h1] at IA;have hz:mgC fr to a b=6:=by simp[mgC,hc,hcl,h1]
    rw[show mgV fr to a b=.v (.slice none 0 0) by simp[mgV,hz],hz];refine fn0 Cd.i_MergeDecks_k fun X=>?_
    repeat' first|simp -dsimp only[go_sem,cC,cFd,eA,eB]|apply Br.mk<;>intro h<;>try simp -dsimp only[h]|refine aA.c (by first|exact CC|exact DA|exact DB|exact IA|exact IB) ?_|refine aC ?_|fail
    all_goals first|exact⟨_,_,rfl,rfl⟩
   cases h2:iT fr to b
   ·have IA:=aV a fr to oa ha.1;have IB:=aV b fr to ob hb.1;rw[h1] at IA;rw[h2] at IB;have hz:mgC fr to a b=6:=by simp[mgC,hc,hcl,h1,h2]
    rw[show mgV fr to a b=.v (.slice none 0 0) by simp[mgV,hz],hz];refine fn0 Cd.i_MergeDecks_k fun X=>?_
    repeat' first|simp -dsimp only[go_sem,cC,cFd,eA,eB]|apply Br.mk<;>intro h<;>try simp -dsimp only[h]|refine aA.c (by first|exact CC|exact DA|exact DB|exact IA|exact IB) ?_|refine aC ?_|fail
    all_goals first|exact⟨_,_,rfl,rfl⟩
   by_cases hs:(a.length:Int)+(b.length:Int)>40
   ·have e5:decide ((a.length:Int)+(b.length:Int)>40)=true:=decide_eq_true hs;have IA:=aV a fr to oa ha.1;have IB:=aV b fr to ob hb.1;rw[h1] at IA;rw[h2] at IB;have hz:mgC fr to a b=5:=by simp[mgC,hc,hcl,h1,h2,hs]
    rw[show mgV fr to a b=.v (.slice none 0 0) by simp[mgV,hz],hz];refine fn0 Cd.i_MergeDecks_k fun X=>?_
    repeat' first|simp -dsimp only[go_sem,cC,cFd,eA,eB,hwa,e5]|apply Br.mk<;>intro h<;>try simp -dsimp only[h]|refine aA.c (by first|exact CC|exact DA|exact DB|exact IA|exact IB) ?_|refine aC ?_|fail
    all_goals first|exact⟨_,_,rfl,rfl⟩
   ·have e5:decide ((a.length:Int)+(b.length:Int)>40)=false:=decide_eq_false hs;have IA:=aV a fr to oa ha.1;have IB:=aV b fr to ob hb.1;rw[h1] at IA;rw[h2] at IB;have hz:mgC fr to a b=0:=by simp[mgC,hc,hcl,h1,h2,hs]
    rw[show mgV fr to a b=.sl 1 (E cC (iJ fr to (a++b))) by simp[mgV,hz],hz]
    have hoab:∀c,c∈a++b→okF fr to c:=fun c hc=>by
     rcases List.mem_append.1 hc with h|h
     ·exact oa c h
     ·exact ob c h
    have SB:=zT (a++b) fr to hoab (by simp;omega);have hap:E cC a++E cC b=E cC (a++b):=by rw[aR]
    have hab:(E cC (a++b)).take (a.length+b.length)=E cC (a++b):=List.take_of_length_le (by rw[aG];simp);refine fn0 Cd.i_MergeDecks_k fun X=>?_
    repeat' first|simp -dsimp only[go_sem,cC,cFd,eA,eB,hwa,e5,hap,hab]|apply Br.mk<;>intro h<;>try simp -dsimp only[h]|refine aA.c (by first|exact CC|exact DA|exact DB|exact IA|exact IB) ?_|refine aC ?_|fail
    refine aA.own (xY a ha.2 ha.1) rfl ?_
    repeat' first|simp -dsimp only[go_sem,cC,cFd,eA,eB,hwa,e5,hap,hab]|apply Br.mk<;>intro h<;>try simp -dsimp only[h]|refine aA.c (by first|exact SB) ?_|refine aC ?_|fail
    all_goals first|omega|exact⟨_,_,rfl,rfl⟩
 ·have eA:decide ((a.length:Int)>0)=false:=decide_eq_false (by omega);have hcl:xH a b=false:=by simp only[xH,eA];rfl
  cases h1:iT fr to a
  ·have IA:=aV a fr to oa ha.1;have IB:=aV b fr to ob hb.1;rw[h1] at IA;have hz:mgC fr to a b=6:=by simp[mgC,hc,hcl,h1]
   rw[show mgV fr to a b=.v (.slice none 0 0) by simp[mgV,hz],hz];refine fn0 Cd.i_MergeDecks_k fun X=>?_
   repeat' first|simp -dsimp only[go_sem,cC,cFd,eA]|apply Br.mk<;>intro h<;>try simp -dsimp only[h]|refine aA.c (by first|exact CC|exact DA|exact DB|exact IA|exact IB) ?_|refine aC ?_|fail
   all_goals first|exact⟨_,_,rfl,rfl⟩
  cases h2:iT fr to b
  ·have IA:=aV a fr to oa ha.1;have IB:=aV b fr to ob hb.1;rw[h1] at IA;rw[h2] at IB;have hz:mgC fr to a b=6:=by simp[mgC,hc,hcl,h1,h2]
   rw[show mgV fr to a b=.v (.slice none 0 0) by simp[mgV,hz],hz];refine fn0 Cd.i_MergeDecks_k fun X=>?_
   repeat' first|simp -dsimp only[go_sem,cC,cFd,eA]|apply Br.mk<;>intro h<;>try simp -dsimp only[h]|refine aA.c (by first|exact CC|exact DA|exact DB|exact IA|exact IB) ?_|refine aC ?_|fail
   all_goals first|exact⟨_,_,rfl,rfl⟩
  by_cases hs:(a.length:Int)+(b.length:Int)>40
  ·have e5:decide ((a.length:Int)+(b.length:Int)>40)=true:=decide_eq_true hs;have IA:=aV a fr to oa ha.1;have IB:=aV b fr to ob hb.1;rw[h1] at IA;rw[h2] at IB;have hz:mgC fr to a b=5:=by simp[mgC,hc,hcl,h1,h2,hs]
   rw[show mgV fr to a b=.v (.slice none 0 0) by simp[mgV,hz],hz];refine fn0 Cd.i_MergeDecks_k fun X=>?_
   repeat' first|simp -dsimp only[go_sem,cC,cFd,eA,hwa,e5]|apply Br.mk<;>intro h<;>try simp -dsimp only[h]|refine aA.c (by first|exact CC|exact DA|exact DB|exact IA|exact IB) ?_|refine aC ?_|fail
   all_goals first|exact⟨_,_,rfl,rfl⟩
  ·have e5:decide ((a.length:Int)+(b.length:Int)>40)=false:=decide_eq_false hs;have IA:=aV a fr to oa ha.1;have IB:=aV b fr to ob hb.1;rw[h1] at IA;rw[h2] at IB;have hz:mgC fr to a b=0:=by simp[mgC,hc,hcl,h1,h2,hs]
   rw[show mgV fr to a b=.sl 1 (E cC (iJ fr to (a++b))) by simp[mgV,hz],hz]
   have hoab:∀c,c∈a++b→okF fr to c:=fun c hc=>by
    rcases List.mem_append.1 hc with h|h
    ·exact oa c h
    ·exact ob c h
   have SB:=zT (a++b) fr to hoab (by simp;omega);have hap:E cC a++E cC b=E cC (a++b):=by rw[aR]
   have hab:(E cC (a++b)).take (a.length+b.length)=E cC (a++b):=List.take_of_length_le (by rw[aG];simp);refine fn0 Cd.i_MergeDecks_k fun X=>?_
   repeat' first|simp -dsimp only[go_sem,cC,cFd,eA,hwa,e5,hap,hab]|apply Br.mk<;>intro h<;>try simp -dsimp only[h]|refine aA.c (by first|exact CC|exact DA|exact DB|exact IA|exact IB) ?_|refine aC ?_|fail
   refine aA.own (xY a ha.2 ha.1) rfl ?_
   repeat' first|simp -dsimp only[go_sem,cC,cFd,eA,hwa,e5,hap,hab]|apply Br.mk<;>intro h<;>try simp -dsimp only[h]|refine aA.c (by first|exact SB) ?_|refine aC ?_|fail
   all_goals first|omega|exact⟨_,_,rfl,rfl⟩
end
section
variable [Vs.Envs]
attribute [local irreducible] Vs.Fn cZ aW dA dB l03 chB rk cd3 chI stp aY stb mgF iT stF bH kG bD
attribute [local go_sem] Int.reduceBEq Int.reduceBNe cD aG List.replicate_succ List.replicate_zero List.flatten_cons List.flatten_nil List.cons_append List.nil_append List.set_cons_zero List.set_cons_succ List.length_cons List.length_nil List.length_set List.mem_singleton List.mem_cons List.not_mem_nil or_false false_or Vs.Name.t.injEq List.flatMap_cons List.flatMap_nil bA bN aZ List.getD_cons_zero List.append_nil in
theorem vN (a b:List (List Int)) (fr to:Int) (ha:bE a) (hb:bE b):Fz F.mM [.sl 1 (E cC a),.sl 1 (E cC b),.agg (cFd fr to)] (.tup [mgV fr to a b,.v (.int .i64 (mgC fr to a b))]):=by
 have hwa:=wrap_add ha.1 hb.1;by_cases hc:kG fr to [a,b]=0
 rotate_left
 ·have e0:(kG fr to [a,b] != 0)=true:=by simp[hc]
  have hz:mgC fr to a b=kG fr to [a,b]:=by simp[mgC,hc]
  rw[show mgV fr to a b=.v (.slice none 0 0) by simp[mgV,hz,hc],hz];have CC:=aDT a b fr to ha hb;rw[show twV fr to a b a=.v (.slice none 0 0) by simp[twV,hc],show twV fr to a b b=.v (.slice none 0 0) by simp[twV,hc]] at CC;refine fn0 Cd.s_MergeDecks_k fun X=>?_
  repeat' first|simp -dsimp only[go_sem,cC,cFd,e0]|apply Br.mk<;>intro h<;>try simp -dsimp only[h]|refine aA.c (by first|exact CC) ?_|refine aC ?_|fail
  all_goals first|exact⟨_,_,rfl,rfl⟩
 obtain⟨⟨da,db⟩,⟨fa,fb⟩,ca,cb⟩:=aBN hc;have oa:=fA da fa;have ob:=fA db fb;have CC:=aDT a b fr to ha hb;rw[show twV fr to a b a=.sl 1 (E cSt (bQ fr to a)) by simp[twV,hc],show twV fr to a b b=.sl 1 (E cSt (bQ fr to b)) by simp[twV,hc],hc] at CC;by_cases hA:0<a.length
 ·have eA:decide ((a.length:Int)>0)=true:=decide_eq_true (by omega);have wA:=zP hA;have gA:=aDp hA;by_cases hB:0<b.length
  ·have eB:decide ((b.length:Int)>0)=true:=decide_eq_true (by omega);have wB:=zP hB;have gB:=aDp hB;cases eW:(bD a != bD b)
   ·have eW2:=eW;rw[wA,wB] at eW2;have hcl:xH a b=false:=by simp only[xH,eA,eB,eW];rfl
    cases h1:iT fr to a
    ·have sa:=dJ fr to a;rw[h1] at sa;have LA:=bY a fr to oa ca ha.1;have LB:=bY b fr to ob cb hb.1;have hz:mgC fr to a b=6:=by simp[mgC,hc,hcl,h1]
     rw[show mgV fr to a b=.v (.slice none 0 0) by simp[mgV,hz],hz];refine fn0 Cd.s_MergeDecks_k fun X=>?_
     repeat' first|simp -dsimp only[go_sem,cC,cFd,eA,eB,eW,eW2,gA,gB,sa]|apply Br.mk<;>intro h<;>try simp -dsimp only[h]|refine aA.c (by first|exact CC|exact LA|exact LB) ?_|refine aC ?_|fail
     all_goals first|exact⟨_,_,rfl,rfl⟩
    cases h2:iT fr to b
    ·have sa:=dJ fr to a;rw[h1] at sa;have LA:=bY a fr to oa ca ha.1;have LB:=bY b fr to ob cb hb.1;have sb:=dJ fr to b;rw[h2] at sb;have hz:mgC fr to a b=6:=by simp[mgC,hc,hcl,h1,h2]
     rw[show mgV fr to a b=.v (.slice none 0 0) by simp[mgV,hz],hz];refine fn0 Cd.s_MergeDecks_k fun X=>?_
     repeat' first|simp -dsimp only[go_sem,cC,cFd,eA,eB,eW,eW2,gA,gB,sa,sb]|apply Br.mk<;>intro h<;>try simp -dsimp only[h]|refine aA.c (by first|exact CC|exact LA|exact LB) ?_|refine aC ?_|fail
     all_goals first|exact⟨_,_,rfl,rfl⟩
    by_cases hs:(a.length:Int)+(b.length:Int)>40
    ·have e5:decide ((a.length:Int)+(b.length:Int)>40)=true:=decide_eq_true hs;have sa:=dJ fr to a;rw[h1] at sa;have LA:=bY a fr to oa ca ha.1;have LB:=bY b fr to ob cb hb.1;have sb:=dJ fr to b;rw[h2] at sb;have hz:mgC fr to a b=5:=by simp[mgC,hc,hcl,h1,h2,hs]
     rw[show mgV fr to a b=.v (.slice none 0 0) by simp[mgV,hz],hz];refine fn0 Cd.s_MergeDecks_k fun X=>?_
     repeat' first|simp -dsimp only[go_sem,cC,cFd,eA,eB,eW,eW2,gA,gB,hwa,e5,sa,sb]|apply Br.mk<;>intro h<;>try simp -dsimp only[h]|refine aA.c (by first|exact CC|exact LA|exact LB) ?_|refine aC ?_|fail
     all_goals first|exact⟨_,_,rfl,rfl⟩
    ·have e5:decide ((a.length:Int)+(b.length:Int)>40)=false:=decide_eq_false hs;have sa:=dJ fr to a;rw[h1] at sa;have LA:=bY a fr to oa ca ha.1;have LB:=bY b fr to ob cb hb.1;have sb:=dJ fr to b;rw[h2] at sb
     have hoab:∀c,c∈a++b→okF fr to c:=fun c hc=>by
      rcases List.mem_append.1 hc with h|h
      ·exact oa c h
      ·exact ob c h
     have MG:=aCe a b fr to ha hb oa ob ca cb (by omega);rw[aFH hoab (by omega) h1 h2,show(oU fr to (a++b)).map (fun i=>(a++b).getD i.toNat [])=iJ fr to (a++b) by unfold iJ;rfl] at MG;have hz:mgC fr to a b=0:=by simp[mgC,hc,hcl,h1,h2,hs]
     rw[show mgV fr to a b=.sl 1 (E cC (iJ fr to (a++b))) by simp[mgV,hz],hz];refine fn0 Cd.s_MergeDecks_k fun X=>?_
     repeat' first|simp -dsimp only[go_sem,cC,cFd,eA,eB,eW,eW2,gA,gB,hwa,e5,sa,sb]|apply Br.mk<;>intro h<;>try simp -dsimp only[h]|refine aA.c (by first|exact CC|exact LA|exact LB|exact MG) ?_|refine aC ?_|fail
     all_goals first|exact⟨_,_,rfl,rfl⟩
   ·have eW2:=eW;rw[wA,wB] at eW2;have hcl:xH a b=true:=by simp only[xH,eA,eB,eW];rfl
    have hz:mgC fr to a b=9:=by simp[mgC,hc,hcl]
    rw[show mgV fr to a b=.v (.slice none 0 0) by simp[mgV,hz],hz];refine fn0 Cd.s_MergeDecks_k fun X=>?_
    repeat' first|simp -dsimp only[go_sem,cC,cFd,eA,eB,eW,eW2,gA,gB]|apply Br.mk<;>intro h<;>try simp -dsimp only[h]|refine aA.c (by first|exact CC) ?_|refine aC ?_|fail
    all_goals first|exact⟨_,_,rfl,rfl⟩
  ·have eB:decide ((b.length:Int)>0)=false:=decide_eq_false (by omega);have hcl:xH a b=false:=by simp only[xH,eA,eB];rfl
   cases h1:iT fr to a
   ·have sa:=dJ fr to a;rw[h1] at sa;have LA:=bY a fr to oa ca ha.1;have LB:=bY b fr to ob cb hb.1;have hz:mgC fr to a b=6:=by simp[mgC,hc,hcl,h1]
    rw[show mgV fr to a b=.v (.slice none 0 0) by simp[mgV,hz],hz];refine fn0 Cd.s_MergeDecks_k fun X=>?_
    repeat' first|simp -dsimp only[go_sem,cC,cFd,eA,eB,sa]|apply Br.mk<;>intro h<;>try simp -dsimp only[h]|refine aA.c (by first|exact CC|exact LA|exact LB) ?_|refine aC ?_|fail
    all_goals first|exact⟨_,_,rfl,rfl⟩
   cases h2:iT fr to b
   ·have sa:=dJ fr to a;rw[h1] at sa;have LA:=bY a fr to oa ca ha.1;have LB:=bY b fr to ob cb hb.1;have sb:=dJ fr to b;rw[h2] at sb;have hz:mgC fr to a b=6:=by simp[mgC,hc,hcl,h1,h2]
    rw[show mgV fr to a b=.v (.slice none 0 0) by simp[mgV,hz],hz];refine fn0 Cd.s_MergeDecks_k fun X=>?_
    repeat' first|simp -dsimp only[go_sem,cC,cFd,eA,eB,sa,sb]|apply Br.mk<;>intro h<;>try simp -dsimp only[h]|refine aA.c (by first|exact CC|exact LA|exact LB) ?_|refine aC ?_|fail
    all_goals first|exact⟨_,_,rfl,rfl⟩
   by_cases hs:(a.length:Int)+(b.length:Int)>40
   ·have e5:decide ((a.length:Int)+(b.length:Int)>40)=true:=decide_eq_true hs;have sa:=dJ fr to a;rw[h1] at sa;have LA:=bY a fr to oa ca ha.1;have LB:=bY b fr to ob cb hb.1;have sb:=dJ fr to b;rw[h2] at sb;have hz:mgC fr to a b=5:=by simp[mgC,hc,hcl,h1,h2,hs]
    rw[show mgV fr to a b=.v (.slice none 0 0) by simp[mgV,hz],hz];refine fn0 Cd.s_MergeDecks_k fun X=>?_
    repeat' first|simp -dsimp only[go_sem,cC,cFd,eA,eB,hwa,e5,sa,sb]|apply Br.mk<;>intro h<;>try simp -dsimp only[h]|refine aA.c (by first|exact CC|exact LA|exact LB) ?_|refine aC ?_|fail
    all_goals first|exact⟨_,_,rfl,rfl⟩
   ·have e5:decide ((a.length:Int)+(b.length:Int)>40)=false:=decide_eq_false hs;have sa:=dJ fr to a;rw[h1] at sa;have LA:=bY a fr to oa ca ha.1;have LB:=bY b fr to ob cb hb.1;have sb:=dJ fr to b;rw[h2] at sb
    have hoab:∀c,c∈a++b→okF fr to c:=fun c hc=>by
     rcases List.mem_append.1 hc with h|h
     ·exact oa c h
     ·exact ob c h
    have MG:=aCe a b fr to ha hb oa ob ca cb (by omega);rw[aFH hoab (by omega) h1 h2,show(oU fr to (a++b)).map (fun i=>(a++b).getD i.toNat [])=iJ fr to (a++b) by unfold iJ;rfl] at MG;have hz:mgC fr to a b=0:=by simp[mgC,hc,hcl,h1,h2,hs]
    rw[show mgV fr to a b=.sl 1 (E cC (iJ fr to (a++b))) by simp[mgV,hz],hz];refine fn0 Cd.s_MergeDecks_k fun X=>?_
    repeat' first|simp -dsimp only[go_sem,cC,cFd,eA,eB,hwa,e5,sa,sb]|apply Br.mk<;>intro h<;>try simp -dsimp only[h]|refine aA.c (by first|exact CC|exact LA|exact LB|exact MG) ?_|refine aC ?_|fail
    all_goals first|exact⟨_,_,rfl,rfl⟩
 ·have eA:decide ((a.length:Int)>0)=false:=decide_eq_false (by omega);have hcl:xH a b=false:=by simp only[xH,eA];rfl
  cases h1:iT fr to a
  ·have sa:=dJ fr to a;rw[h1] at sa;have LA:=bY a fr to oa ca ha.1;have LB:=bY b fr to ob cb hb.1;have hz:mgC fr to a b=6:=by simp[mgC,hc,hcl,h1]
   rw[show mgV fr to a b=.v (.slice none 0 0) by simp[mgV,hz],hz];refine fn0 Cd.s_MergeDecks_k fun X=>?_
   repeat' first|simp -dsimp only[go_sem,cC,cFd,eA,sa]|apply Br.mk<;>intro h<;>try simp -dsimp only[h]|refine aA.c (by first|exact CC|exact LA|exact LB) ?_|refine aC ?_|fail
   all_goals first|exact⟨_,_,rfl,rfl⟩
  cases h2:iT fr to b
  ·have sa:=dJ fr to a;rw[h1] at sa;have LA:=bY a fr to oa ca ha.1;have LB:=bY b fr to ob cb hb.1;have sb:=dJ fr to b;rw[h2] at sb;have hz:mgC fr to a b=6:=by simp[mgC,hc,hcl,h1,h2]
   rw[show mgV fr to a b=.v (.slice none 0 0) by simp[mgV,hz],hz];refine fn0 Cd.s_MergeDecks_k fun X=>?_
   repeat' first|simp -dsimp only[go_sem,cC,cFd,eA,sa,sb]|apply Br.mk<;>intro h<;>try simp -dsimp only[h]|refine aA.c (by first|exact CC|exact LA|exact LB) ?_|refine aC ?_|fail
   all_goals first|exact⟨_,_,rfl,rfl⟩
  by_cases hs:(a.length:Int)+(b.length:Int)>40
  ·have e5:decide ((a.length:Int)+(b.length:Int)>40)=true:=decide_eq_true hs;have sa:=dJ fr to a;rw[h1] at sa;have LA:=bY a fr to oa ca ha.1;have LB:=bY b fr to ob cb hb.1;have sb:=dJ fr to b;rw[h2] at sb;have hz:mgC fr to a b=5:=by simp[mgC,hc,hcl,h1,h2,hs]
   rw[show mgV fr to a b=.v (.slice none 0 0) by simp[mgV,hz],hz];refine fn0 Cd.s_MergeDecks_k fun X=>?_
   repeat' first|simp -dsimp only[go_sem,cC,cFd,eA,hwa,e5,sa,sb]|apply Br.mk<;>intro h<;>try simp -dsimp only[h]|refine aA.c (by first|exact CC|exact LA|exact LB) ?_|refine aC ?_|fail
   all_goals first|exact⟨_,_,rfl,rfl⟩
  ·have e5:decide ((a.length:Int)+(b.length:Int)>40)=false:=decide_eq_false hs;have sa:=dJ fr to a;rw[h1] at sa;have LA:=bY a fr to oa ca ha.1;have LB:=bY b fr to ob cb hb.1;have sb:=dJ fr to b;rw[h2] at sb
   have hoab:∀c,c∈a++b→okF fr to c:=fun c hc=>by
    rcases List.mem_append.1 hc with h|h
    ·exact oa c h
    ·exact ob c h
   have MG:=aCe a b fr to ha hb oa ob ca cb (by omega);rw[aFH hoab (by omega) h1 h2,show(oU fr to (a++b)).map (fun i=>(a++b).getD i.toNat [])=iJ fr to (a++b) by unfold iJ;rfl] at MG;have hz:mgC fr to a b=0:=by simp[mgC,hc,hcl,h1,h2,hs]
   rw[show mgV fr to a b=.sl 1 (E cC (iJ fr to (a++b))) by simp[mgV,hz],hz];refine fn0 Cd.s_MergeDecks_k fun X=>?_
   repeat' first|simp -dsimp only[go_sem,cC,cFd,eA,hwa,e5,sa,sb]|apply Br.mk<;>intro h<;>try simp -dsimp only[h]|refine aA.c (by first|exact CC|exact LA|exact LB|exact MG) ?_|refine aC ?_|fail
   all_goals first|exact⟨_,_,rfl,rfl⟩
end
end Go.Proofs.YtonkjfiffcfaoaaGreat
