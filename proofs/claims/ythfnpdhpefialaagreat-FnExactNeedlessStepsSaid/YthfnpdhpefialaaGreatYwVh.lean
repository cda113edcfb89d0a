/- MergeDecks: the reference. -/
import Derived.Test.YthfnpdhpefialaaGreatYwVg
set_option linter.all false
set_option maxHeartbeats 8000000
namespace Go.Proofs.YthfnpdhpefialaaGreat
open Go.Vs
variable [Vs.Envs]
attribute [local irreducible] Vs.Fn chOK areCh chTo chAt l03 chB rk cd3 chI stp stpTo stb mgF ascB stF keyC colC widB
attribute [local go_sem] Int.reduceBEq Int.reduceBNe cD E_len List.replicate_succ List.replicate_zero List.flatten_cons List.flatten_nil List.cons_append List.nil_append List.set_cons_zero List.set_cons_succ List.length_cons List.length_nil List.length_set List.mem_singleton List.mem_cons List.not_mem_nil or_false false_or Vs.Name.t.injEq List.flatMap_cons List.flatMap_nil cellN topN nestN List.getD_cons_zero List.append_nil in
theorem spec_MergeDecks (a b:List (List Int)) (fr to:Int) (ha:smallC a) (hb:smallC b):Fz F.s_MergeDecks [.sl 1 (E cC a),.sl 1 (E cC b),.agg (cFd fr to)] (.tup [mgV fr to a b,.v (.int .i64 (mgC fr to a b))]):=by
 have hwa:=wrap_add ha.1 hb.1
 by_cases hc:colC fr to [a,b]=0
 rotate_left
 ·have e0:(colC fr to [a,b] != 0)=true:=by simp[hc]
  have hz:mgC fr to a b=colC fr to [a,b]:=by simp[mgC,hc]
  rw[show mgV fr to a b=.v (.slice none 0 0) by simp[mgV,hz,hc],hz]
  have CC:=l09Two a b fr to ha hb
  rw[show twV fr to a b a=.v (.slice none 0 0) by simp[twV,hc],show twV fr to a b b=.v (.slice none 0 0) by simp[twV,hc]] at CC
  refine fn0 Cd.s_MergeDecks_k fun X=>?_
  repeat' first|simp -dsimp only[go_sem,cC,cFd,e0]|apply Br.mk<;>intro h<;>try simp -dsimp only[h]|refine CallK.c (by first|exact CC) ?_|refine aC ?_|fail
  all_goals first|exact⟨_,_,rfl,rfl⟩
 obtain⟨⟨da,db⟩,⟨fa,fb⟩,ca,cb⟩:=colC_ok hc
 have oa:=okF_of da fa
 have ob:=okF_of db fb
 have CC:=l09Two a b fr to ha hb
 rw[show twV fr to a b a=.sl 1 (E cSt (keyL fr to a)) by simp[twV,hc],show twV fr to a b b=.sl 1 (E cSt (keyL fr to b)) by simp[twV,hc],hc] at CC
 by_cases hA:0<a.length
 ·have eA:decide ((a.length:Int)>0)=true:=decide_eq_true (by omega)
  have wA:=widB_len hA
  have gA:=cC_at hA
  by_cases hB:0<b.length
  ·have eB:decide ((b.length:Int)>0)=true:=decide_eq_true (by omega)
   have wB:=widB_len hB
   have gB:=cC_at hB
   cases eW:(widB a != widB b)
   ·have eW2:=eW
    rw[wA,wB] at eW2
    have hcl:clsB a b=false:=by simp only[clsB,eA,eB,eW];rfl
    cases h1:ascB fr to a
    ·have sa:=stF_asc fr to a
     rw[h1] at sa
     have LA:=l07Step a fr to oa ca ha.1
     have LB:=l07Step b fr to ob cb hb.1
     have hz:mgC fr to a b=6:=by simp[mgC,hc,hcl,h1]
     rw[show mgV fr to a b=.v (.slice none 0 0) by simp[mgV,hz],hz]
     refine fn0 Cd.s_MergeDecks_k fun X=>?_
     repeat' first|simp -dsimp only[go_sem,cC,cFd,eA,eB,eW,eW2,gA,gB,sa]|apply Br.mk<;>intro h<;>try simp -dsimp only[h]|refine CallK.c (by first|exact CC|exact LA|exact LB) ?_|refine aC ?_|fail
     all_goals first|exact⟨_,_,rfl,rfl⟩
    cases h2:ascB fr to b
    ·have sa:=stF_asc fr to a
     rw[h1] at sa
     have LA:=l07Step a fr to oa ca ha.1
     have LB:=l07Step b fr to ob cb hb.1
     have sb:=stF_asc fr to b
     rw[h2] at sb
     have hz:mgC fr to a b=6:=by simp[mgC,hc,hcl,h1,h2]
     rw[show mgV fr to a b=.v (.slice none 0 0) by simp[mgV,hz],hz]
     refine fn0 Cd.s_MergeDecks_k fun X=>?_
     repeat' first|simp -dsimp only[go_sem,cC,cFd,eA,eB,eW,eW2,gA,gB,sa,sb]|apply Br.mk<;>intro h<;>try simp -dsimp only[h]|refine CallK.c (by first|exact CC|exact LA|exact LB) ?_|refine aC ?_|fail
     all_goals first|exact⟨_,_,rfl,rfl⟩
    by_cases hs:(a.length:Int)+(b.length:Int)>40
    ·have e5:decide ((a.length:Int)+(b.length:Int)>40)=true:=decide_eq_true hs
     have sa:=stF_asc fr to a
     rw[h1] at sa
     have LA:=l07Step a fr to oa ca ha.1
     have LB:=l07Step b fr to ob cb hb.1
     have sb:=stF_asc fr to b
     rw[h2] at sb
     have hz:mgC fr to a b=5:=by simp[mgC,hc,hcl,h1,h2,hs]
     rw[show mgV fr to a b=.v (.slice none 0 0) by simp[mgV,hz],hz]
     refine fn0 Cd.s_MergeDecks_k fun X=>?_
     repeat' first|simp -dsimp only[go_sem,cC,cFd,eA,eB,eW,eW2,gA,gB,hwa,e5,sa,sb]|apply Br.mk<;>intro h<;>try simp -dsimp only[h]|refine CallK.c (by first|exact CC|exact LA|exact LB) ?_|refine aC ?_|fail
     all_goals first|exact⟨_,_,rfl,rfl⟩
    ·have e5:decide ((a.length:Int)+(b.length:Int)>40)=false:=decide_eq_false hs
     have sa:=stF_asc fr to a
     rw[h1] at sa
     have LA:=l07Step a fr to oa ca ha.1
     have LB:=l07Step b fr to ob cb hb.1
     have sb:=stF_asc fr to b
     rw[h2] at sb
     have hoab:∀c,c∈a++b→okF fr to c:=fun c hc=>by
      rcases List.mem_append.1 hc with h|h
      ·exact oa c h
      ·exact ob c h
     have MG:=l09Merge a b fr to ha hb oa ob ca cb (by omega)
     rw[mg_ord hoab (by omega) h1 h2,show(ordL fr to (a++b)).map (fun i=>(a++b).getD i.toNat [])=srtL fr to (a++b) by unfold srtL;rfl] at MG
     have hz:mgC fr to a b=0:=by simp[mgC,hc,hcl,h1,h2,hs]
     rw[show mgV fr to a b=.sl 1 (E cC (srtL fr to (a++b))) by simp[mgV,hz],hz]
     refine fn0 Cd.s_MergeDecks_k fun X=>?_
     repeat' first|simp -dsimp only[go_sem,cC,cFd,eA,eB,eW,eW2,gA,gB,hwa,e5,sa,sb]|apply Br.mk<;>intro h<;>try simp -dsimp only[h]|refine CallK.c (by first|exact CC|exact LA|exact LB|exact MG) ?_|refine aC ?_|fail
     all_goals first|exact⟨_,_,rfl,rfl⟩
   ·have eW2:=eW
    rw[wA,wB] at eW2
    have hcl:clsB a b=true:=by simp only[clsB,eA,eB,eW];rfl
    have hz:mgC fr to a b=9:=by simp[mgC,hc,hcl]
    rw[show mgV fr to a b=.v (.slice none 0 0) by simp[mgV,hz],hz]
    refine fn0 Cd.s_MergeDecks_k fun X=>?_
    repeat' first|simp -dsimp only[go_sem,cC,cFd,eA,eB,eW,eW2,gA,gB]|apply Br.mk<;>intro h<;>try simp -dsimp only[h]|refine CallK.c (by first|exact CC) ?_|refine aC ?_|fail
    all_goals first|exact⟨_,_,rfl,rfl⟩
  ·have eB:decide ((b.length:Int)>0)=false:=decide_eq_false (by omega)
   have hcl:clsB a b=false:=by simp only[clsB,eA,eB];rfl
   cases h1:ascB fr to a
   ·have sa:=stF_asc fr to a
    rw[h1] at sa
    have LA:=l07Step a fr to oa ca ha.1
    have LB:=l07Step b fr to ob cb hb.1
    have hz:mgC fr to a b=6:=by simp[mgC,hc,hcl,h1]
    rw[show mgV fr to a b=.v (.slice none 0 0) by simp[mgV,hz],hz]
    refine fn0 Cd.s_MergeDecks_k fun X=>?_
    repeat' first|simp -dsimp only[go_sem,cC,cFd,eA,eB,sa]|apply Br.mk<;>intro h<;>try simp -dsimp only[h]|refine CallK.c (by first|exact CC|exact LA|exact LB) ?_|refine aC ?_|fail
    all_goals first|exact⟨_,_,rfl,rfl⟩
   cases h2:ascB fr to b
   ·have sa:=stF_asc fr to a
    rw[h1] at sa
    have LA:=l07Step a fr to oa ca ha.1
    have LB:=l07Step b fr to ob cb hb.1
    have sb:=stF_asc fr to b
    rw[h2] at sb
    have hz:mgC fr to a b=6:=by simp[mgC,hc,hcl,h1,h2]
    rw[show mgV fr to a b=.v (.slice none 0 0) by simp[mgV,hz],hz]
    refine fn0 Cd.s_MergeDecks_k fun X=>?_
    repeat' first|simp -dsimp only[go_sem,cC,cFd,eA,eB,sa,sb]|apply Br.mk<;>intro h<;>try simp -dsimp only[h]|refine CallK.c (by first|exact CC|exact LA|exact LB) ?_|refine aC ?_|fail
    all_goals first|exact⟨_,_,rfl,rfl⟩
   by_cases hs:(a.length:Int)+(b.length:Int)>40
   ·have e5:decide ((a.length:Int)+(b.length:Int)>40)=true:=decide_eq_true hs
    have sa:=stF_asc fr to a
    rw[h1] at sa
    have LA:=l07Step a fr to oa ca ha.1
    have LB:=l07Step b fr to ob cb hb.1
    have sb:=stF_asc fr to b
    rw[h2] at sb
    have hz:mgC fr to a b=5:=by simp[mgC,hc,hcl,h1,h2,hs]
    rw[show mgV fr to a b=.v (.slice none 0 0) by simp[mgV,hz],hz]
    refine fn0 Cd.s_MergeDecks_k fun X=>?_
    repeat' first|simp -dsimp only[go_sem,cC,cFd,eA,eB,hwa,e5,sa,sb]|apply Br.mk<;>intro h<;>try simp -dsimp only[h]|refine CallK.c (by first|exact CC|exact LA|exact LB) ?_|refine aC ?_|fail
    all_goals first|exact⟨_,_,rfl,rfl⟩
   ·have e5:decide ((a.length:Int)+(b.length:Int)>40)=false:=decide_eq_false hs
    have sa:=stF_asc fr to a
    rw[h1] at sa
    have LA:=l07Step a fr to oa ca ha.1
    have LB:=l07Step b fr to ob cb hb.1
    have sb:=stF_asc fr to b
    rw[h2] at sb
    have hoab:∀c,c∈a++b→okF fr to c:=fun c hc=>by
     rcases List.mem_append.1 hc with h|h
     ·exact oa c h
     ·exact ob c h
    have MG:=l09Merge a b fr to ha hb oa ob ca cb (by omega)
    rw[mg_ord hoab (by omega) h1 h2,show(ordL fr to (a++b)).map (fun i=>(a++b).getD i.toNat [])=srtL fr to (a++b) by unfold srtL;rfl] at MG
    have hz:mgC fr to a b=0:=by simp[mgC,hc,hcl,h1,h2,hs]
    rw[show mgV fr to a b=.sl 1 (E cC (srtL fr to (a++b))) by simp[mgV,hz],hz]
    refine fn0 Cd.s_MergeDecks_k fun X=>?_
    repeat' first|simp -dsimp only[go_sem,cC,cFd,eA,eB,hwa,e5,sa,sb]|apply Br.mk<;>intro h<;>try simp -dsimp only[h]|refine CallK.c (by first|exact CC|exact LA|exact LB|exact MG) ?_|refine aC ?_|fail
    all_goals first|exact⟨_,_,rfl,rfl⟩
 ·have eA:decide ((a.length:Int)>0)=false:=decide_eq_false (by omega)
  have hcl:clsB a b=false:=by simp only[clsB,eA];rfl
  cases h1:ascB fr to a
  ·have sa:=stF_asc fr to a
   rw[h1] at sa
   have LA:=l07Step a fr to oa ca ha.1
   have LB:=l07Step b fr to ob cb hb.1
   have hz:mgC fr to a b=6:=by simp[mgC,hc,hcl,h1]
   rw[show mgV fr to a b=.v (.slice none 0 0) by simp[mgV,hz],hz]
   refine fn0 Cd.s_MergeDecks_k fun X=>?_
   repeat' first|simp -dsimp only[go_sem,cC,cFd,eA,sa]|apply Br.mk<;>intro h<;>try simp -dsimp only[h]|refine CallK.c (by first|exact CC|exact LA|exact LB) ?_|refine aC ?_|fail
   all_goals first|exact⟨_,_,rfl,rfl⟩
  cases h2:ascB fr to b
  ·have sa:=stF_asc fr to a
   rw[h1] at sa
   have LA:=l07Step a fr to oa ca ha.1
   have LB:=l07Step b fr to ob cb hb.1
   have sb:=stF_asc fr to b
   rw[h2] at sb
   have hz:mgC fr to a b=6:=by simp[mgC,hc,hcl,h1,h2]
   rw[show mgV fr to a b=.v (.slice none 0 0) by simp[mgV,hz],hz]
   refine fn0 Cd.s_MergeDecks_k fun X=>?_
   repeat' first|simp -dsimp only[go_sem,cC,cFd,eA,sa,sb]|apply Br.mk<;>intro h<;>try simp -dsimp only[h]|refine CallK.c (by first|exact CC|exact LA|exact LB) ?_|refine aC ?_|fail
   all_goals first|exact⟨_,_,rfl,rfl⟩
  by_cases hs:(a.length:Int)+(b.length:Int)>40
  ·have e5:decide ((a.length:Int)+(b.length:Int)>40)=true:=decide_eq_true hs
   have sa:=stF_asc fr to a
   rw[h1] at sa
   have LA:=l07Step a fr to oa ca ha.1
   have LB:=l07Step b fr to ob cb hb.1
   have sb:=stF_asc fr to b
   rw[h2] at sb
   have hz:mgC fr to a b=5:=by simp[mgC,hc,hcl,h1,h2,hs]
   rw[show mgV fr to a b=.v (.slice none 0 0) by simp[mgV,hz],hz]
   refine fn0 Cd.s_MergeDecks_k fun X=>?_
   repeat' first|simp -dsimp only[go_sem,cC,cFd,eA,hwa,e5,sa,sb]|apply Br.mk<;>intro h<;>try simp -dsimp only[h]|refine CallK.c (by first|exact CC|exact LA|exact LB) ?_|refine aC ?_|fail
   all_goals first|exact⟨_,_,rfl,rfl⟩
  ·have e5:decide ((a.length:Int)+(b.length:Int)>40)=false:=decide_eq_false hs
   have sa:=stF_asc fr to a
   rw[h1] at sa
   have LA:=l07Step a fr to oa ca ha.1
   have LB:=l07Step b fr to ob cb hb.1
   have sb:=stF_asc fr to b
   rw[h2] at sb
   have hoab:∀c,c∈a++b→okF fr to c:=fun c hc=>by
    rcases List.mem_append.1 hc with h|h
    ·exact oa c h
    ·exact ob c h
   have MG:=l09Merge a b fr to ha hb oa ob ca cb (by omega)
   rw[mg_ord hoab (by omega) h1 h2,show(ordL fr to (a++b)).map (fun i=>(a++b).getD i.toNat [])=srtL fr to (a++b) by unfold srtL;rfl] at MG
   have hz:mgC fr to a b=0:=by simp[mgC,hc,hcl,h1,h2,hs]
   rw[show mgV fr to a b=.sl 1 (E cC (srtL fr to (a++b))) by simp[mgV,hz],hz]
   refine fn0 Cd.s_MergeDecks_k fun X=>?_
   repeat' first|simp -dsimp only[go_sem,cC,cFd,eA,hwa,e5,sa,sb]|apply Br.mk<;>intro h<;>try simp -dsimp only[h]|refine CallK.c (by first|exact CC|exact LA|exact LB|exact MG) ?_|refine aC ?_|fail
   all_goals first|exact⟨_,_,rfl,rfl⟩
end Go.Proofs.YthfnpdhpefialaaGreat
