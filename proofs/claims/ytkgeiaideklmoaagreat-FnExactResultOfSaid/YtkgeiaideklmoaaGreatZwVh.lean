/- MergeDecks: the reference. -/
import Derived.Test.YtkgeiaideklmoaaGreatZwVg
set_option linter.all false
set_option maxHeartbeats 8000000
namespace Go.Proofs.YtkgeiaideklmoaaGreat
open Go.Vs
variable [Vs.Envs]
attribute [local irreducible] Vs.Fn chOK areCh chTo chAt l03 chB rk cd3 chI stp stpTo stb mgF gQ stF aX iQ bD
attribute [local go_sem] Int.reduceBEq Int.reduceBNe cD aI List.replicate_succ List.replicate_zero List.flatten_cons List.flatten_nil List.cons_append List.nil_append List.set_cons_zero List.set_cons_succ List.length_cons List.length_nil List.length_set List.mem_singleton List.mem_cons List.not_mem_nil or_false false_or Vs.Name.t.injEq List.flatMap_cons List.flatMap_nil bI dF bH List.getD_cons_zero List.append_nil in
theorem vG (a b:List (List Int)) (fr to:Int) (Y:aU a) (hb:aU b):Fz F.mE [.sl 1 (E cC a),.sl 1 (E cC b),.agg (cFd fr to)] (.tup [mgV fr to a b,.v (.int .i64 (mgC fr to a b))]):=by
 have hf:=wrap_add Y.1 hb.1;by_cases J:iQ fr to [a,b]=0
 rotate_left
 ·have e0:(iQ fr to [a,b] != 0)=true:=by simp[J]
  have G:mgC fr to a b=iQ fr to [a,b]:=by simp[mgC,J]
  rw[show mgV fr to a b=.v (.slice none 0 0) by simp[mgV,G,J],G];have CC:=aDJ a b fr to Y hb;rw[show twV fr to a b a=.v (.slice none 0 0) by simp[twV,J],show twV fr to a b b=.v (.slice none 0 0) by simp[twV,J]] at CC;refine fn0 Cd.s_MergeDecks_k fun X=>?_
  repeat' first|simp -dsimp only[go_sem,cC,cFd,e0]|apply Br.mk<;>intro h<;>try simp -dsimp only[h]|refine aD.c (by first|exact CC) ?_|refine aC ?_|fail
  all_goals first|exact⟨_,_,rfl,rfl⟩
 obtain⟨⟨da,db⟩,⟨fa,fb⟩,ca,cb⟩:=aBw J;have oa:=dV da fa;have ob:=dV db fb;have CC:=aDJ a b fr to Y hb;rw[show twV fr to a b a=.sl 1 (E cSt (bO fr to a)) by simp[twV,J],show twV fr to a b b=.sl 1 (E cSt (bO fr to b)) by simp[twV,J],J] at CC;by_cases hA:0<a.length
 ·have U:decide ((a.length:Int)>0)=true:=decide_eq_true (by omega);have wA:=yZ hA;have gA:=aC8 hA;by_cases hB:0<b.length
  ·have eB:decide ((b.length:Int)>0)=true:=decide_eq_true (by omega);have wB:=yZ hB;have gB:=aC8 hB;cases eW:(bD a != bD b)
   ·have hd:=eW;rw[wA,wB] at hd;have I:wW a b=false:=by simp only[wW,U,eB,eW];rfl
    cases h1:gQ fr to a
    ·have H:=dC fr to a;rw[h1] at H;have M:=bW a fr to oa ca Y.1;have O:=bW b fr to ob cb hb.1;have G:mgC fr to a b=6:=by simp[mgC,J,I,h1]
     rw[show mgV fr to a b=.v (.slice none 0 0) by simp[mgV,G],G];refine fn0 Cd.s_MergeDecks_k fun X=>?_
     repeat' first|simp -dsimp only[go_sem,cC,cFd,U,eB,eW,hd,gA,gB,H]|apply Br.mk<;>intro h<;>try simp -dsimp only[h]|refine aD.c (by first|exact CC|exact M|exact O) ?_|refine aC ?_|fail
     all_goals first|exact⟨_,_,rfl,rfl⟩
    cases h2:gQ fr to b
    ·have H:=dC fr to a;rw[h1] at H;have M:=bW a fr to oa ca Y.1;have O:=bW b fr to ob cb hb.1;have L:=dC fr to b;rw[h2] at L;have G:mgC fr to a b=6:=by simp[mgC,J,I,h1,h2]
     rw[show mgV fr to a b=.v (.slice none 0 0) by simp[mgV,G],G];refine fn0 Cd.s_MergeDecks_k fun X=>?_
     repeat' first|simp -dsimp only[go_sem,cC,cFd,U,eB,eW,hd,gA,gB,H,L]|apply Br.mk<;>intro h<;>try simp -dsimp only[h]|refine aD.c (by first|exact CC|exact M|exact O) ?_|refine aC ?_|fail
     all_goals first|exact⟨_,_,rfl,rfl⟩
    by_cases hs:(a.length:Int)+(b.length:Int)>40
    ·have e5:decide ((a.length:Int)+(b.length:Int)>40)=true:=decide_eq_true hs;have H:=dC fr to a;rw[h1] at H;have M:=bW a fr to oa ca Y.1;have O:=bW b fr to ob cb hb.1;have L:=dC fr to b;rw[h2] at L;have G:mgC fr to a b=5:=by simp[mgC,J,I,h1,h2,hs]
     rw[show mgV fr to a b=.v (.slice none 0 0) by simp[mgV,G],G];refine fn0 Cd.s_MergeDecks_k fun X=>?_
     repeat' first|simp -dsimp only[go_sem,cC,cFd,U,eB,eW,hd,gA,gB,hf,e5,H,L]|apply Br.mk<;>intro h<;>try simp -dsimp only[h]|refine aD.c (by first|exact CC|exact M|exact O) ?_|refine aC ?_|fail
     all_goals first|exact⟨_,_,rfl,rfl⟩
    ·have e5:decide ((a.length:Int)+(b.length:Int)>40)=false:=decide_eq_false hs;have H:=dC fr to a;rw[h1] at H;have M:=bW a fr to oa ca Y.1;have O:=bW b fr to ob cb hb.1;have L:=dC fr to b;rw[h2] at L
     have he:∀c,c∈a++b→okF fr to c:=fun c J=>by
      rcases List.mem_append.1 J with h|h
      ·exact oa c h
      ·exact ob c h
     have MG:=aBZ a b fr to Y hb oa ob ca cb (by omega);rw[aFD he (by omega) h1 h2,show(mJ fr to (a++b)).map (fun i=>(a++b).getD i.toNat [])=eH fr to (a++b) by unfold eH;rfl] at MG;have G:mgC fr to a b=0:=by simp[mgC,J,I,h1,h2,hs]
     rw[show mgV fr to a b=.sl 1 (E cC (eH fr to (a++b))) by simp[mgV,G],G];refine fn0 Cd.s_MergeDecks_k fun X=>?_
     repeat' first|simp -dsimp only[go_sem,cC,cFd,U,eB,eW,hd,gA,gB,hf,e5,H,L]|apply Br.mk<;>intro h<;>try simp -dsimp only[h]|refine aD.c (by first|exact CC|exact M|exact O|exact MG) ?_|refine aC ?_|fail
     all_goals first|exact⟨_,_,rfl,rfl⟩
   ·have hd:=eW;rw[wA,wB] at hd;have I:wW a b=true:=by simp only[wW,U,eB,eW];rfl
    have G:mgC fr to a b=9:=by simp[mgC,J,I]
    rw[show mgV fr to a b=.v (.slice none 0 0) by simp[mgV,G],G];refine fn0 Cd.s_MergeDecks_k fun X=>?_
    repeat' first|simp -dsimp only[go_sem,cC,cFd,U,eB,eW,hd,gA,gB]|apply Br.mk<;>intro h<;>try simp -dsimp only[h]|refine aD.c (by first|exact CC) ?_|refine aC ?_|fail
    all_goals first|exact⟨_,_,rfl,rfl⟩
  ·have eB:decide ((b.length:Int)>0)=false:=decide_eq_false (by omega);have I:wW a b=false:=by simp only[wW,U,eB];rfl
   cases h1:gQ fr to a
   ·have H:=dC fr to a;rw[h1] at H;have M:=bW a fr to oa ca Y.1;have O:=bW b fr to ob cb hb.1;have G:mgC fr to a b=6:=by simp[mgC,J,I,h1]
    rw[show mgV fr to a b=.v (.slice none 0 0) by simp[mgV,G],G];refine fn0 Cd.s_MergeDecks_k fun X=>?_
    repeat' first|simp -dsimp only[go_sem,cC,cFd,U,eB,H]|apply Br.mk<;>intro h<;>try simp -dsimp only[h]|refine aD.c (by first|exact CC|exact M|exact O) ?_|refine aC ?_|fail
    all_goals first|exact⟨_,_,rfl,rfl⟩
   cases h2:gQ fr to b
   ·have H:=dC fr to a;rw[h1] at H;have M:=bW a fr to oa ca Y.1;have O:=bW b fr to ob cb hb.1;have L:=dC fr to b;rw[h2] at L;have G:mgC fr to a b=6:=by simp[mgC,J,I,h1,h2]
    rw[show mgV fr to a b=.v (.slice none 0 0) by simp[mgV,G],G];refine fn0 Cd.s_MergeDecks_k fun X=>?_
    repeat' first|simp -dsimp only[go_sem,cC,cFd,U,eB,H,L]|apply Br.mk<;>intro h<;>try simp -dsimp only[h]|refine aD.c (by first|exact CC|exact M|exact O) ?_|refine aC ?_|fail
    all_goals first|exact⟨_,_,rfl,rfl⟩
   by_cases hs:(a.length:Int)+(b.length:Int)>40
   ·have e5:decide ((a.length:Int)+(b.length:Int)>40)=true:=decide_eq_true hs;have H:=dC fr to a;rw[h1] at H;have M:=bW a fr to oa ca Y.1;have O:=bW b fr to ob cb hb.1;have L:=dC fr to b;rw[h2] at L;have G:mgC fr to a b=5:=by simp[mgC,J,I,h1,h2,hs]
    rw[show mgV fr to a b=.v (.slice none 0 0) by simp[mgV,G],G];refine fn0 Cd.s_MergeDecks_k fun X=>?_
    repeat' first|simp -dsimp only[go_sem,cC,cFd,U,eB,hf,e5,H,L]|apply Br.mk<;>intro h<;>try simp -dsimp only[h]|refine aD.c (by first|exact CC|exact M|exact O) ?_|refine aC ?_|fail
    all_goals first|exact⟨_,_,rfl,rfl⟩
   ·have e5:decide ((a.length:Int)+(b.length:Int)>40)=false:=decide_eq_false hs;have H:=dC fr to a;rw[h1] at H;have M:=bW a fr to oa ca Y.1;have O:=bW b fr to ob cb hb.1;have L:=dC fr to b;rw[h2] at L
    have he:∀c,c∈a++b→okF fr to c:=fun c J=>by
     rcases List.mem_append.1 J with h|h
     ·exact oa c h
     ·exact ob c h
    have MG:=aBZ a b fr to Y hb oa ob ca cb (by omega);rw[aFD he (by omega) h1 h2,show(mJ fr to (a++b)).map (fun i=>(a++b).getD i.toNat [])=eH fr to (a++b) by unfold eH;rfl] at MG;have G:mgC fr to a b=0:=by simp[mgC,J,I,h1,h2,hs]
    rw[show mgV fr to a b=.sl 1 (E cC (eH fr to (a++b))) by simp[mgV,G],G];refine fn0 Cd.s_MergeDecks_k fun X=>?_
    repeat' first|simp -dsimp only[go_sem,cC,cFd,U,eB,hf,e5,H,L]|apply Br.mk<;>intro h<;>try simp -dsimp only[h]|refine aD.c (by first|exact CC|exact M|exact O|exact MG) ?_|refine aC ?_|fail
    all_goals first|exact⟨_,_,rfl,rfl⟩
 ·have U:decide ((a.length:Int)>0)=false:=decide_eq_false (by omega);have I:wW a b=false:=by simp only[wW,U];rfl
  cases h1:gQ fr to a
  ·have H:=dC fr to a;rw[h1] at H;have M:=bW a fr to oa ca Y.1;have O:=bW b fr to ob cb hb.1;have G:mgC fr to a b=6:=by simp[mgC,J,I,h1]
   rw[show mgV fr to a b=.v (.slice none 0 0) by simp[mgV,G],G];refine fn0 Cd.s_MergeDecks_k fun X=>?_
   repeat' first|simp -dsimp only[go_sem,cC,cFd,U,H]|apply Br.mk<;>intro h<;>try simp -dsimp only[h]|refine aD.c (by first|exact CC|exact M|exact O) ?_|refine aC ?_|fail
   all_goals first|exact⟨_,_,rfl,rfl⟩
  cases h2:gQ fr to b
  ·have H:=dC fr to a;rw[h1] at H;have M:=bW a fr to oa ca Y.1;have O:=bW b fr to ob cb hb.1;have L:=dC fr to b;rw[h2] at L;have G:mgC fr to a b=6:=by simp[mgC,J,I,h1,h2]
   rw[show mgV fr to a b=.v (.slice none 0 0) by simp[mgV,G],G];refine fn0 Cd.s_MergeDecks_k fun X=>?_
   repeat' first|simp -dsimp only[go_sem,cC,cFd,U,H,L]|apply Br.mk<;>intro h<;>try simp -dsimp only[h]|refine aD.c (by first|exact CC|exact M|exact O) ?_|refine aC ?_|fail
   all_goals first|exact⟨_,_,rfl,rfl⟩
  by_cases hs:(a.length:Int)+(b.length:Int)>40
  ·have e5:decide ((a.length:Int)+(b.length:Int)>40)=true:=decide_eq_true hs;have H:=dC fr to a;rw[h1] at H;have M:=bW a fr to oa ca Y.1;have O:=bW b fr to ob cb hb.1;have L:=dC fr to b;rw[h2] at L;have G:mgC fr to a b=5:=by simp[mgC,J,I,h1,h2,hs]
   rw[show mgV fr to a b=.v (.slice none 0 0) by simp[mgV,G],G];refine fn0 Cd.s_MergeDecks_k fun X=>?_
   repeat' first|simp -dsimp only[go_sem,cC,cFd,U,hf,e5,H,L]|apply Br.mk<;>intro h<;>try simp -dsimp only[h]|refine aD.c (by first|exact CC|exact M|exact O) ?_|refine aC ?_|fail
   all_goals first|exact⟨_,_,rfl,rfl⟩
  ·have e5:decide ((a.length:Int)+(b.length:Int)>40)=false:=decide_eq_false hs;have H:=dC fr to a;rw[h1] at H;have M:=bW a fr to oa ca Y.1;have O:=bW b fr to ob cb hb.1;have L:=dC fr to b;rw[h2] at L
   have he:∀c,c∈a++b→okF fr to c:=fun c J=>by
    rcases List.mem_append.1 J with h|h
    ·exact oa c h
    ·exact ob c h
   have MG:=aBZ a b fr to Y hb oa ob ca cb (by omega);rw[aFD he (by omega) h1 h2,show(mJ fr to (a++b)).map (fun i=>(a++b).getD i.toNat [])=eH fr to (a++b) by unfold eH;rfl] at MG;have G:mgC fr to a b=0:=by simp[mgC,J,I,h1,h2,hs]
   rw[show mgV fr to a b=.sl 1 (E cC (eH fr to (a++b))) by simp[mgV,G],G];refine fn0 Cd.s_MergeDecks_k fun X=>?_
   repeat' first|simp -dsimp only[go_sem,cC,cFd,U,hf,e5,H,L]|apply Br.mk<;>intro h<;>try simp -dsimp only[h]|refine aD.c (by first|exact CC|exact M|exact O|exact MG) ?_|refine aC ?_|fail
   all_goals first|exact⟨_,_,rfl,rfl⟩
end Go.Proofs.YtkgeiaideklmoaaGreat
