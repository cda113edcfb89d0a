/- MergeDecks: the program and the reference. -/
import Derived.Test.YthfnpdhpefialaaGreatYwVf
import Derived.Test.YthfnpdhpefialaaGreatYwSh
import Derived.Test.YthfnpdhpefialaaGreatVtR
set_option linter.all false
set_option maxHeartbeats 8000000
namespace Go.Proofs.YthfnpdhpefialaaGreat
open Go.Vs
variable [Vs.Envs]
attribute [local irreducible] Vs.Fn chOK areCh chTo chAt l03 chB rk cd3 chI stp stpTo stb ordL mgF ascB stF keyC colC srtL widB
def clsB (a b:List (List Int)):Bool:=decide ((a.length:Int)>0)&&(decide ((b.length:Int)>0)&&(widB a != widB b))
def mgC (fr to:Int) (a b:List (List Int)):Int:=if colC fr to [a,b]=0 then(if clsB a b then 9 else if ascB fr to a&&ascB fr to b then(if(a.length:Int)+(b.length:Int)>40 then 5 else 0) else 6) else colC fr to [a,b]
def mgV (fr to:Int) (a b:List (List Int)):AV:=if mgC fr to a b=0 then .sl 1 (E cC (srtL fr to (a++b))) else .v (.slice none 0 0)
theorem widB_len {l:List (List Int)} (h:0<l.length):widB l=((l.getD 0 []).length:Int):=by unfold widB;rw[if_neg (by omega)]
theorem wrap_add {a b:Nat} (h:a≤1048576) (h2:b≤1048576):IntKind.i64.wrap ((a:Int)+(b:Int))=(a:Int)+(b:Int):=wrap_in (by omega) (by omega)
attribute [local go_sem] Int.reduceBEq Int.reduceBNe cD E_len List.replicate_succ List.replicate_zero List.flatten_cons List.flatten_nil List.cons_append List.nil_append List.set_cons_zero List.set_cons_succ List.length_cons List.length_nil List.length_set List.mem_singleton List.mem_cons List.not_mem_nil or_false false_or Vs.Name.t.injEq List.flatMap_cons List.flatMap_nil cellN topN nestN List.getD_cons_zero List.append_nil in
theorem impl_MergeDecks (a b:List (List Int)) (fr to:Int) (ha:smallC a) (hb:smallC b):Fz F.i_MergeDecks [.sl 1 (E cC a),.sl 1 (E cC b),.agg (cFd fr to)] (.tup [mgV fr to a b,.v (.int .i64 (mgC fr to a b))]):=by
 have hwa:=wrap_add ha.1 hb.1
 by_cases hc:colC fr to [a,b]=0
 rotate_left
 ·have e0:(colC fr to [a,b] != 0)=true:=by simp[hc]
  have hz:mgC fr to a b=colC fr to [a,b]:=by simp[mgC,hc]
  rw[show mgV fr to a b=.v (.slice none 0 0) by simp[mgV,hz,hc],hz]
  have CC:=collate0 fr to [a,b] (smallK2 ha hb)
  refine fn0 Cd.i_MergeDecks_k fun X=>?_
  repeat' first|simp -dsimp only[go_sem,cC,cFd,e0]|apply Br.mk<;>intro h<;>try simp -dsimp only[h]|refine CallK.c (by first|exact CC) ?_|refine aC ?_|fail
  all_goals first|exact⟨_,_,rfl,rfl⟩
 obtain⟨⟨da,db⟩,⟨fa,fb⟩,ca,cb⟩:=colC_ok hc
 have oa:=okF_of da fa
 have ob:=okF_of db fb
 have CC:=collate0 fr to [a,b] (smallK2 ha hb)
 rw[hc] at CC
 have DA:=deckColumns a
 have DB:=deckColumns b
 by_cases hA:0<a.length
 ·have eA:decide ((a.length:Int)>0)=true:=decide_eq_true (by omega)
  have wA:=widB_len hA
  have gA:=cC_at hA
  by_cases hB:0<b.length
  ·have eB:decide ((b.length:Int)>0)=true:=decide_eq_true (by omega)
   have wB:=widB_len hB
   have gB:=cC_at hB
   cases eW:(widB a != widB b)
   ·have eW2:=eW
    rw[wA,wB] at eW2
    have hcl:clsB a b=false:=by simp only[clsB,eA,eB,eW];rfl
    cases h1:ascB fr to a
    ·have IA:=isAscending a fr to oa ha.1
     have IB:=isAscending b fr to ob hb.1
     rw[h1] at IA
     have hz:mgC fr to a b=6:=by simp[mgC,hc,hcl,h1]
     rw[show mgV fr to a b=.v (.slice none 0 0) by simp[mgV,hz],hz]
     refine fn0 Cd.i_MergeDecks_k fun X=>?_
     repeat' first|simp -dsimp only[go_sem,cC,cFd,eA,eB,eW,eW2,gA,gB]|apply Br.mk<;>intro h<;>try simp -dsimp only[h]|refine CallK.c (by first|exact CC|exact DA|exact DB|exact IA|exact IB) ?_|refine aC ?_|fail
     all_goals first|exact⟨_,_,rfl,rfl⟩
    cases h2:ascB fr to b
    ·have IA:=isAscending a fr to oa ha.1
     have IB:=isAscending b fr to ob hb.1
     rw[h1] at IA
     rw[h2] at IB
     have hz:mgC fr to a b=6:=by simp[mgC,hc,hcl,h1,h2]
     rw[show mgV fr to a b=.v (.slice none 0 0) by simp[mgV,hz],hz]
     refine fn0 Cd.i_MergeDecks_k fun X=>?_
     repeat' first|simp -dsimp only[go_sem,cC,cFd,eA,eB,eW,eW2,gA,gB]|apply Br.mk<;>intro h<;>try simp -dsimp only[h]|refine CallK.c (by first|exact CC|exact DA|exact DB|exact IA|exact IB) ?_|refine aC ?_|fail
     all_goals first|exact⟨_,_,rfl,rfl⟩
    by_cases hs:(a.length:Int)+(b.length:Int)>40
    ·have e5:decide ((a.length:Int)+(b.length:Int)>40)=true:=decide_eq_true hs
     have IA:=isAscending a fr to oa ha.1
     have IB:=isAscending b fr to ob hb.1
     rw[h1] at IA
     rw[h2] at IB
     have hz:mgC fr to a b=5:=by simp[mgC,hc,hcl,h1,h2,hs]
     rw[show mgV fr to a b=.v (.slice none 0 0) by simp[mgV,hz],hz]
     refine fn0 Cd.i_MergeDecks_k fun X=>?_
     repeat' first|simp -dsimp only[go_sem,cC,cFd,eA,eB,eW,eW2,gA,gB,hwa,e5]|apply Br.mk<;>intro h<;>try simp -dsimp only[h]|refine CallK.c (by first|exact CC|exact DA|exact DB|exact IA|exact IB) ?_|refine aC ?_|fail
     all_goals first|exact⟨_,_,rfl,rfl⟩
    ·have e5:decide ((a.length:Int)+(b.length:Int)>40)=false:=decide_eq_false hs
     have IA:=isAscending a fr to oa ha.1
     have IB:=isAscending b fr to ob hb.1
     rw[h1] at IA
     rw[h2] at IB
     have hz:mgC fr to a b=0:=by simp[mgC,hc,hcl,h1,h2,hs]
     rw[show mgV fr to a b=.sl 1 (E cC (srtL fr to (a++b))) by simp[mgV,hz],hz]
     have hoab:∀c,c∈a++b→okF fr to c:=fun c hc=>by
      rcases List.mem_append.1 hc with h|h
      ·exact oa c h
      ·exact ob c h
     have SB:=sortedBy (a++b) fr to hoab (by simp;omega)
     have hap:E cC a++E cC b=E cC (a++b):=by rw[E_append]
     have hab:(E cC (a++b)).take (a.length+b.length)=E cC (a++b):=List.take_of_length_le (by rw[E_len];simp)
     refine fn0 Cd.i_MergeDecks_k fun X=>?_
     repeat' first|simp -dsimp only[go_sem,cC,cFd,eA,eB,eW,eW2,gA,gB,hwa,e5,hap,hab]|apply Br.mk<;>intro h<;>try simp -dsimp only[h]|refine CallK.c (by first|exact CC|exact DA|exact DB|exact IA|exact IB) ?_|refine aC ?_|fail
     refine CallK.own (newDeck a ha.2 ha.1) rfl ?_
     repeat' first|simp -dsimp only[go_sem,cC,cFd,eA,eB,eW,eW2,gA,gB,hwa,e5,hap,hab]|apply Br.mk<;>intro h<;>try simp -dsimp only[h]|refine CallK.c (by first|exact SB) ?_|refine aC ?_|fail
     all_goals first|omega|exact⟨_,_,rfl,rfl⟩
   ·have eW2:=eW
    rw[wA,wB] at eW2
    have hcl:clsB a b=true:=by simp only[clsB,eA,eB,eW];rfl
    have hz:mgC fr to a b=9:=by simp[mgC,hc,hcl]
    rw[show mgV fr to a b=.v (.slice none 0 0) by simp[mgV,hz],hz]
    refine fn0 Cd.i_MergeDecks_k fun X=>?_
    repeat' first|simp -dsimp only[go_sem,cC,cFd,eA,eB,eW,eW2,gA,gB]|apply Br.mk<;>intro h<;>try simp -dsimp only[h]|refine CallK.c (by first|exact CC|exact DA|exact DB) ?_|refine aC ?_|fail
    all_goals first|exact⟨_,_,rfl,rfl⟩
  ·have eB:decide ((b.length:Int)>0)=false:=decide_eq_false (by omega)
   have hcl:clsB a b=false:=by simp only[clsB,eA,eB];rfl
   cases h1:ascB fr to a
   ·have IA:=isAscending a fr to oa ha.1
    have IB:=isAscending b fr to ob hb.1
    rw[h1] at IA
    have hz:mgC fr to a b=6:=by simp[mgC,hc,hcl,h1]
    rw[show mgV fr to a b=.v (.slice none 0 0) by simp[mgV,hz],hz]
    refine fn0 Cd.i_MergeDecks_k fun X=>?_
    repeat' first|simp -dsimp only[go_sem,cC,cFd,eA,eB]|apply Br.mk<;>intro h<;>try simp -dsimp only[h]|refine CallK.c (by first|exact CC|exact DA|exact DB|exact IA|exact IB) ?_|refine aC ?_|fail
    all_goals first|exact⟨_,_,rfl,rfl⟩
   cases h2:ascB fr to b
   ·have IA:=isAscending a fr to oa ha.1
    have IB:=isAscending b fr to ob hb.1
    rw[h1] at IA
    rw[h2] at IB
    have hz:mgC fr to a b=6:=by simp[mgC,hc,hcl,h1,h2]
    rw[show mgV fr to a b=.v (.slice none 0 0) by simp[mgV,hz],hz]
    refine fn0 Cd.i_MergeDecks_k fun X=>?_
    repeat' first|simp -dsimp only[go_sem,cC,cFd,eA,eB]|apply Br.mk<;>intro h<;>try simp -dsimp only[h]|refine CallK.c (by first|exact CC|exact DA|exact DB|exact IA|exact IB) ?_|refine aC ?_|fail
    all_goals first|exact⟨_,_,rfl,rfl⟩
   by_cases hs:(a.length:Int)+(b.length:Int)>40
   ·have e5:decide ((a.length:Int)+(b.length:Int)>40)=true:=decide_eq_true hs
    have IA:=isAscending a fr to oa ha.1
    have IB:=isAscending b fr to ob hb.1
    rw[h1] at IA
    rw[h2] at IB
    have hz:mgC fr to a b=5:=by simp[mgC,hc,hcl,h1,h2,hs]
    rw[show mgV fr to a b=.v (.slice none 0 0) by simp[mgV,hz],hz]
    refine fn0 Cd.i_MergeDecks_k fun X=>?_
    repeat' first|simp -dsimp only[go_sem,cC,cFd,eA,eB,hwa,e5]|apply Br.mk<;>intro h<;>try simp -dsimp only[h]|refine CallK.c (by first|exact CC|exact DA|exact DB|exact IA|exact IB) ?_|refine aC ?_|fail
    all_goals first|exact⟨_,_,rfl,rfl⟩
   ·have e5:decide ((a.length:Int)+(b.length:Int)>40)=false:=decide_eq_false hs
    have IA:=isAscending a fr to oa ha.1
    have IB:=isAscending b fr to ob hb.1
    rw[h1] at IA
    rw[h2] at IB
    have hz:mgC fr to a b=0:=by simp[mgC,hc,hcl,h1,h2,hs]
    rw[show mgV fr to a b=.sl 1 (E cC (srtL fr to (a++b))) by simp[mgV,hz],hz]
    have hoab:∀c,c∈a++b→okF fr to c:=fun c hc=>by
     rcases List.mem_append.1 hc with h|h
     ·exact oa c h
     ·exact ob c h
    have SB:=sortedBy (a++b) fr to hoab (by simp;omega)
    have hap:E cC a++E cC b=E cC (a++b):=by rw[E_append]
    have hab:(E cC (a++b)).take (a.length+b.length)=E cC (a++b):=List.take_of_length_le (by rw[E_len];simp)
    refine fn0 Cd.i_MergeDecks_k fun X=>?_
    repeat' first|simp -dsimp only[go_sem,cC,cFd,eA,eB,hwa,e5,hap,hab]|apply Br.mk<;>intro h<;>try simp -dsimp only[h]|refine CallK.c (by first|exact CC|exact DA|exact DB|exact IA|exact IB) ?_|refine aC ?_|fail
    refine CallK.own (newDeck a ha.2 ha.1) rfl ?_
    repeat' first|simp -dsimp only[go_sem,cC,cFd,eA,eB,hwa,e5,hap,hab]|apply Br.mk<;>intro h<;>try simp -dsimp only[h]|refine CallK.c (by first|exact SB) ?_|refine aC ?_|fail
    all_goals first|omega|exact⟨_,_,rfl,rfl⟩
 ·have eA:decide ((a.length:Int)>0)=false:=decide_eq_false (by omega)
  have hcl:clsB a b=false:=by simp only[clsB,eA];rfl
  cases h1:ascB fr to a
  ·have IA:=isAscending a fr to oa ha.1
   have IB:=isAscending b fr to ob hb.1
   rw[h1] at IA
   have hz:mgC fr to a b=6:=by simp[mgC,hc,hcl,h1]
   rw[show mgV fr to a b=.v (.slice none 0 0) by simp[mgV,hz],hz]
   refine fn0 Cd.i_MergeDecks_k fun X=>?_
   repeat' first|simp -dsimp only[go_sem,cC,cFd,eA]|apply Br.mk<;>intro h<;>try simp -dsimp only[h]|refine CallK.c (by first|exact CC|exact DA|exact DB|exact IA|exact IB) ?_|refine aC ?_|fail
   all_goals first|exact⟨_,_,rfl,rfl⟩
  cases h2:ascB fr to b
  ·have IA:=isAscending a fr to oa ha.1
   have IB:=isAscending b fr to ob hb.1
   rw[h1] at IA
   rw[h2] at IB
   have hz:mgC fr to a b=6:=by simp[mgC,hc,hcl,h1,h2]
   rw[show mgV fr to a b=.v (.slice none 0 0) by simp[mgV,hz],hz]
   refine fn0 Cd.i_MergeDecks_k fun X=>?_
   repeat' first|simp -dsimp only[go_sem,cC,cFd,eA]|apply Br.mk<;>intro h<;>try simp -dsimp only[h]|refine CallK.c (by first|exact CC|exact DA|exact DB|exact IA|exact IB) ?_|refine aC ?_|fail
   all_goals first|exact⟨_,_,rfl,rfl⟩
  by_cases hs:(a.length:Int)+(b.length:Int)>40
  ·have e5:decide ((a.length:Int)+(b.length:Int)>40)=true:=decide_eq_true hs
   have IA:=isAscending a fr to oa ha.1
   have IB:=isAscending b fr to ob hb.1
   rw[h1] at IA
   rw[h2] at IB
   have hz:mgC fr to a b=5:=by simp[mgC,hc,hcl,h1,h2,hs]
   rw[show mgV fr to a b=.v (.slice none 0 0) by simp[mgV,hz],hz]
   refine fn0 Cd.i_MergeDecks_k fun X=>?_
   repeat' first|simp -dsimp only[go_sem,cC,cFd,eA,hwa,e5]|apply Br.mk<;>intro h<;>try simp -dsimp only[h]|refine CallK.c (by first|exact CC|exact DA|exact DB|exact IA|exact IB) ?_|refine aC ?_|fail
   all_goals first|exact⟨_,_,rfl,rfl⟩
  ·have e5:decide ((a.length:Int)+(b.length:Int)>40)=false:=decide_eq_false hs
   have IA:=isAscending a fr to oa ha.1
   have IB:=isAscending b fr to ob hb.1
   rw[h1] at IA
   rw[h2] at IB
   have hz:mgC fr to a b=0:=by simp[mgC,hc,hcl,h1,h2,hs]
   rw[show mgV fr to a b=.sl 1 (E cC (srtL fr to (a++b))) by simp[mgV,hz],hz]
   have hoab:∀c,c∈a++b→okF fr to c:=fun c hc=>by
    rcases List.mem_append.1 hc with h|h
    ·exact oa c h
    ·exact ob c h
   have SB:=sortedBy (a++b) fr to hoab (by simp;omega)
   have hap:E cC a++E cC b=E cC (a++b):=by rw[E_append]
   have hab:(E cC (a++b)).take (a.length+b.length)=E cC (a++b):=List.take_of_length_le (by rw[E_len];simp)
   refine fn0 Cd.i_MergeDecks_k fun X=>?_
   repeat' first|simp -dsimp only[go_sem,cC,cFd,eA,hwa,e5,hap,hab]|apply Br.mk<;>intro h<;>try simp -dsimp only[h]|refine CallK.c (by first|exact CC|exact DA|exact DB|exact IA|exact IB) ?_|refine aC ?_|fail
   refine CallK.own (newDeck a ha.2 ha.1) rfl ?_
   repeat' first|simp -dsimp only[go_sem,cC,cFd,eA,hwa,e5,hap,hab]|apply Br.mk<;>intro h<;>try simp -dsimp only[h]|refine CallK.c (by first|exact SB) ?_|refine aC ?_|fail
   all_goals first|omega|exact⟨_,_,rfl,rfl⟩
end Go.Proofs.YthfnpdhpefialaaGreat
