/- Cards of a text are selected: the reference's way. -/
import Derived.Test.YtmiiohemehacjaaGreatDoorXwVg
import Derived.Test.YtmiiohemehacjaaGreatDoorXwSq
import Derived.Test.YtmiiohemehacjaaGreatDoorXwSm
import Derived.Test.YtmiiohemehacjaaGreatDoorXwSh
import Derived.Test.YtmiiohemehacjaaGreatDoorXwVf
import Derived.Test.YtmiiohemehacjaaGreatDoorXwQd
set_option linter.all false
set_option maxHeartbeats 8000000
namespace Go.Proofs.YtmiiohemehacjaaGreatDoor
open Go.Vs
section
variable [Vs.Envs]
attribute [local irreducible] Vs.Fn chOK areCh chTo chAt l03 chB rk cd3 chI stp stpTo stb mgF iE stF aY jN bF
attribute [local go_sem] Int.reduceBEq Int.reduceBNe cD aI List.replicate_succ List.replicate_zero List.flatten_cons List.flatten_nil List.cons_append List.nil_append List.set_cons_zero List.set_cons_succ List.length_cons List.length_nil List.length_set List.mem_singleton List.mem_cons List.not_mem_nil or_false false_or Vs.Name.t.injEq List.flatMap_cons List.flatMap_nil nC uD mO List.getD_cons_zero List.append_nil in
theorem wS (a b:List (List Int)) (fr to:Int) (ha:bJ a) (hb:bJ b):Fz F.mH [.sl 1 (E cC a),.sl 1 (E cC b),.agg (cFd fr to)] (.tup [mgV fr to a b,.v (.int .i64 (mgC fr to a b))]):=by
 have hf:=wrap_add ha.1 hb.1;by_cases L:jN fr to [a,b]=0
 rotate_left
 .have e0:(jN fr to [a,b] != 0)=true:=by simp[L]
  have H:mgC fr to a b=jN fr to [a,b]:=by simp[mgC,L]
  rw[show mgV fr to a b=.v (.slice none 0 0) by simp[mgV,H,L],H];have CC:=aEK a b fr to ha hb;rw[show twV fr to a b a=.v (.slice none 0 0) by simp[twV,L],show twV fr to a b b=.v (.slice none 0 0) by simp[twV,L]] at CC;refine fn0 Cd.s_MergeDecks_k λX=>?_
  repeat' first|simp -dsimp only[go_sem,cC,cFd,e0]|apply Br.mk<;>intro h<;>try simp -dsimp only[h]|refine aD.c (by first|exact CC) ?_|refine aC ?_|fail
  all_goals first|exact⟨_,_,rfl,rfl⟩
 obtain⟨⟨da,db⟩,⟨fa,fb⟩,ca,cb⟩:=aCg L;have oa:=eF da fa;have ob:=eF db fb;have CC:=aEK a b fr to ha hb;rw[show twV fr to a b a=.sl 1 (E cSt (bK fr to a)) by simp[twV,L],show twV fr to a b b=.sl 1 (E cSt (bK fr to b)) by simp[twV,L],L] at CC;by_cases hA:0<a.length
 .have Z:decide ((a.length:Int)>0)=true:=decide_eq_true (by omega);have wA:=aAa hA;have gA:=aEd hA;by_cases hB:0<b.length
  .have eB:decide ((b.length:Int)>0)=true:=decide_eq_true (by omega);have wB:=aAa hB;have gB:=aEd hB;cases eW:(bF a != bF b)
   .have hd:=eW;rw[wA,wB] at hd;have J:yB a b=false:=by simp only[yB,Z,eB,eW];rfl
    cases h1:iE fr to a
    .have I:=dC fr to a;rw[h1] at I;have U:=bT a fr to oa ca ha.1;have Y:=bT b fr to ob cb hb.1;have H:mgC fr to a b=6:=by simp[mgC,L,J,h1]
     rw[show mgV fr to a b=.v (.slice none 0 0) by simp[mgV,H],H];refine fn0 Cd.s_MergeDecks_k λX=>?_
     repeat' first|simp -dsimp only[go_sem,cC,cFd,Z,eB,eW,hd,gA,gB,I]|apply Br.mk<;>intro h<;>try simp -dsimp only[h]|refine aD.c (by first|exact CC|exact U|exact Y) ?_|refine aC ?_|fail
     all_goals first|exact⟨_,_,rfl,rfl⟩
    cases h2:iE fr to b
    .have I:=dC fr to a;rw[h1] at I;have U:=bT a fr to oa ca ha.1;have Y:=bT b fr to ob cb hb.1;have O:=dC fr to b;rw[h2] at O;have H:mgC fr to a b=6:=by simp[mgC,L,J,h1,h2]
     rw[show mgV fr to a b=.v (.slice none 0 0) by simp[mgV,H],H];refine fn0 Cd.s_MergeDecks_k λX=>?_
     repeat' first|simp -dsimp only[go_sem,cC,cFd,Z,eB,eW,hd,gA,gB,I,O]|apply Br.mk<;>intro h<;>try simp -dsimp only[h]|refine aD.c (by first|exact CC|exact U|exact Y) ?_|refine aC ?_|fail
     all_goals first|exact⟨_,_,rfl,rfl⟩
    by_cases hs:(a.length:Int)+(b.length:Int)>40
    .have e5:decide ((a.length:Int)+(b.length:Int)>40)=true:=decide_eq_true hs;have I:=dC fr to a;rw[h1] at I;have U:=bT a fr to oa ca ha.1;have Y:=bT b fr to ob cb hb.1;have O:=dC fr to b;rw[h2] at O;have H:mgC fr to a b=5:=by simp[mgC,L,J,h1,h2,hs]
     rw[show mgV fr to a b=.v (.slice none 0 0) by simp[mgV,H],H];refine fn0 Cd.s_MergeDecks_k λX=>?_
     repeat' first|simp -dsimp only[go_sem,cC,cFd,Z,eB,eW,hd,gA,gB,hf,e5,I,O]|apply Br.mk<;>intro h<;>try simp -dsimp only[h]|refine aD.c (by first|exact CC|exact U|exact Y) ?_|refine aC ?_|fail
     all_goals first|exact⟨_,_,rfl,rfl⟩
    .have e5:decide ((a.length:Int)+(b.length:Int)>40)=false:=decide_eq_false hs;have I:=dC fr to a;rw[h1] at I;have U:=bT a fr to oa ca ha.1;have Y:=bT b fr to ob cb hb.1;have O:=dC fr to b;rw[h2] at O
     have he:∀c,c∈a++b->okF fr to c:=λc L=>by
      rcases List.mem_append.1 L with h|h
      .exact oa c h
      .exact ob c h
     have MG:=aCO a b fr to ha hb oa ob ca cb (by omega);rw[aGT he (by omega) h1 h2,show(oV fr to (a++b)).map (λi=>(a++b).getD i.toNat [])=gQ fr to (a++b) by unfold gQ;rfl] at MG;have H:mgC fr to a b=0:=by simp[mgC,L,J,h1,h2,hs]
     rw[show mgV fr to a b=.sl 1 (E cC (gQ fr to (a++b))) by simp[mgV,H],H];refine fn0 Cd.s_MergeDecks_k λX=>?_
     repeat' first|simp -dsimp only[go_sem,cC,cFd,Z,eB,eW,hd,gA,gB,hf,e5,I,O]|apply Br.mk<;>intro h<;>try simp -dsimp only[h]|refine aD.c (by first|exact CC|exact U|exact Y|exact MG) ?_|refine aC ?_|fail
     all_goals first|exact⟨_,_,rfl,rfl⟩
   .have hd:=eW;rw[wA,wB] at hd;have J:yB a b=true:=by simp only[yB,Z,eB,eW];rfl
    have H:mgC fr to a b=9:=by simp[mgC,L,J]
    rw[show mgV fr to a b=.v (.slice none 0 0) by simp[mgV,H],H];refine fn0 Cd.s_MergeDecks_k λX=>?_
    repeat' first|simp -dsimp only[go_sem,cC,cFd,Z,eB,eW,hd,gA,gB]|apply Br.mk<;>intro h<;>try simp -dsimp only[h]|refine aD.c (by first|exact CC) ?_|refine aC ?_|fail
    all_goals first|exact⟨_,_,rfl,rfl⟩
  .have eB:decide ((b.length:Int)>0)=false:=decide_eq_false (by omega);have J:yB a b=false:=by simp only[yB,Z,eB];rfl
   cases h1:iE fr to a
   .have I:=dC fr to a;rw[h1] at I;have U:=bT a fr to oa ca ha.1;have Y:=bT b fr to ob cb hb.1;have H:mgC fr to a b=6:=by simp[mgC,L,J,h1]
    rw[show mgV fr to a b=.v (.slice none 0 0) by simp[mgV,H],H];refine fn0 Cd.s_MergeDecks_k λX=>?_
    repeat' first|simp -dsimp only[go_sem,cC,cFd,Z,eB,I]|apply Br.mk<;>intro h<;>try simp -dsimp only[h]|refine aD.c (by first|exact CC|exact U|exact Y) ?_|refine aC ?_|fail
    all_goals first|exact⟨_,_,rfl,rfl⟩
   cases h2:iE fr to b
   .have I:=dC fr to a;rw[h1] at I;have U:=bT a fr to oa ca ha.1;have Y:=bT b fr to ob cb hb.1;have O:=dC fr to b;rw[h2] at O;have H:mgC fr to a b=6:=by simp[mgC,L,J,h1,h2]
    rw[show mgV fr to a b=.v (.slice none 0 0) by simp[mgV,H],H];refine fn0 Cd.s_MergeDecks_k λX=>?_
    repeat' first|simp -dsimp only[go_sem,cC,cFd,Z,eB,I,O]|apply Br.mk<;>intro h<;>try simp -dsimp only[h]|refine aD.c (by first|exact CC|exact U|exact Y) ?_|refine aC ?_|fail
    all_goals first|exact⟨_,_,rfl,rfl⟩
   by_cases hs:(a.length:Int)+(b.length:Int)>40
   .have e5:decide ((a.length:Int)+(b.length:Int)>40)=true:=decide_eq_true hs;have I:=dC fr to a;rw[h1] at I;have U:=bT a fr to oa ca ha.1;have Y:=bT b fr to ob cb hb.1;have O:=dC fr to b;rw[h2] at O;have H:mgC fr to a b=5:=by simp[mgC,L,J,h1,h2,hs]
    rw[show mgV fr to a b=.v (.slice none 0 0) by simp[mgV,H],H];refine fn0 Cd.s_MergeDecks_k λX=>?_
    repeat' first|simp -dsimp only[go_sem,cC,cFd,Z,eB,hf,e5,I,O]|apply Br.mk<;>intro h<;>try simp -dsimp only[h]|refine aD.c (by first|exact CC|exact U|exact Y) ?_|refine aC ?_|fail
    all_goals first|exact⟨_,_,rfl,rfl⟩
   .have e5:decide ((a.length:Int)+(b.length:Int)>40)=false:=decide_eq_false hs;have I:=dC fr to a;rw[h1] at I;have U:=bT a fr to oa ca ha.1;have Y:=bT b fr to ob cb hb.1;have O:=dC fr to b;rw[h2] at O
    have he:∀c,c∈a++b->okF fr to c:=λc L=>by
     rcases List.mem_append.1 L with h|h
     .exact oa c h
     .exact ob c h
    have MG:=aCO a b fr to ha hb oa ob ca cb (by omega);rw[aGT he (by omega) h1 h2,show(oV fr to (a++b)).map (λi=>(a++b).getD i.toNat [])=gQ fr to (a++b) by unfold gQ;rfl] at MG;have H:mgC fr to a b=0:=by simp[mgC,L,J,h1,h2,hs]
    rw[show mgV fr to a b=.sl 1 (E cC (gQ fr to (a++b))) by simp[mgV,H],H];refine fn0 Cd.s_MergeDecks_k λX=>?_
    repeat' first|simp -dsimp only[go_sem,cC,cFd,Z,eB,hf,e5,I,O]|apply Br.mk<;>intro h<;>try simp -dsimp only[h]|refine aD.c (by first|exact CC|exact U|exact Y|exact MG) ?_|refine aC ?_|fail
    all_goals first|exact⟨_,_,rfl,rfl⟩
 .have Z:decide ((a.length:Int)>0)=false:=decide_eq_false (by omega);have J:yB a b=false:=by simp only[yB,Z];rfl
  cases h1:iE fr to a
  .have I:=dC fr to a;rw[h1] at I;have U:=bT a fr to oa ca ha.1;have Y:=bT b fr to ob cb hb.1;have H:mgC fr to a b=6:=by simp[mgC,L,J,h1]
   rw[show mgV fr to a b=.v (.slice none 0 0) by simp[mgV,H],H];refine fn0 Cd.s_MergeDecks_k λX=>?_
   repeat' first|simp -dsimp only[go_sem,cC,cFd,Z,I]|apply Br.mk<;>intro h<;>try simp -dsimp only[h]|refine aD.c (by first|exact CC|exact U|exact Y) ?_|refine aC ?_|fail
   all_goals first|exact⟨_,_,rfl,rfl⟩
  cases h2:iE fr to b
  .have I:=dC fr to a;rw[h1] at I;have U:=bT a fr to oa ca ha.1;have Y:=bT b fr to ob cb hb.1;have O:=dC fr to b;rw[h2] at O;have H:mgC fr to a b=6:=by simp[mgC,L,J,h1,h2]
   rw[show mgV fr to a b=.v (.slice none 0 0) by simp[mgV,H],H];refine fn0 Cd.s_MergeDecks_k λX=>?_
   repeat' first|simp -dsimp only[go_sem,cC,cFd,Z,I,O]|apply Br.mk<;>intro h<;>try simp -dsimp only[h]|refine aD.c (by first|exact CC|exact U|exact Y) ?_|refine aC ?_|fail
   all_goals first|exact⟨_,_,rfl,rfl⟩
  by_cases hs:(a.length:Int)+(b.length:Int)>40
  .have e5:decide ((a.length:Int)+(b.length:Int)>40)=true:=decide_eq_true hs;have I:=dC fr to a;rw[h1] at I;have U:=bT a fr to oa ca ha.1;have Y:=bT b fr to ob cb hb.1;have O:=dC fr to b;rw[h2] at O;have H:mgC fr to a b=5:=by simp[mgC,L,J,h1,h2,hs]
   rw[show mgV fr to a b=.v (.slice none 0 0) by simp[mgV,H],H];refine fn0 Cd.s_MergeDecks_k λX=>?_
   repeat' first|simp -dsimp only[go_sem,cC,cFd,Z,hf,e5,I,O]|apply Br.mk<;>intro h<;>try simp -dsimp only[h]|refine aD.c (by first|exact CC|exact U|exact Y) ?_|refine aC ?_|fail
   all_goals first|exact⟨_,_,rfl,rfl⟩
  .have e5:decide ((a.length:Int)+(b.length:Int)>40)=false:=decide_eq_false hs;have I:=dC fr to a;rw[h1] at I;have U:=bT a fr to oa ca ha.1;have Y:=bT b fr to ob cb hb.1;have O:=dC fr to b;rw[h2] at O
   have he:∀c,c∈a++b->okF fr to c:=λc L=>by
    rcases List.mem_append.1 L with h|h
    .exact oa c h
    .exact ob c h
   have MG:=aCO a b fr to ha hb oa ob ca cb (by omega);rw[aGT he (by omega) h1 h2,show(oV fr to (a++b)).map (λi=>(a++b).getD i.toNat [])=gQ fr to (a++b) by unfold gQ;rfl] at MG;have H:mgC fr to a b=0:=by simp[mgC,L,J,h1,h2,hs]
   rw[show mgV fr to a b=.sl 1 (E cC (gQ fr to (a++b))) by simp[mgV,H],H];refine fn0 Cd.s_MergeDecks_k λX=>?_
   repeat' first|simp -dsimp only[go_sem,cC,cFd,Z,hf,e5,I,O]|apply Br.mk<;>intro h<;>try simp -dsimp only[h]|refine aD.c (by first|exact CC|exact U|exact Y|exact MG) ?_|refine aC ?_|fail
   all_goals first|exact⟨_,_,rfl,rfl⟩
end
section
variable [Vs.Envs]
attribute [local irreducible] Vs.Fn bI chOK areCh chTo chAt l03 chB rk cd3 chI stp stpTo
attribute [local go_sem] aI List.replicate_succ List.replicate_zero List.flatten_cons List.flatten_nil List.cons_append List.nil_append List.set_cons_zero List.set_cons_succ List.length_cons List.length_nil List.length_set in
theorem aDV (l:List (List Int)) (fr to:Int) (ho:∀c,c∈l->okF fr to c) (hall:bP fr to l=true) (hl:l.length<=1048576):Fz F.lV [.sl 1 (E cSt (bK fr to l))] (.sl 1 (E cI (bI fr to l l.length))):=by
 have hkl:(E cSt (bK fr to l)).length=l.length:=by rw[aI];simp[bK]
 have hke:∀i:Nat,i<l.length->(E cSt (bK fr to l)).getD i []=[.v (.string (txt (fH fr to (l.getD i []))))]:=λi hi=>by
  have h:=aKy (fr:=fr) (to:=to) (l:=l) (x:=(i:Int)) ⟨by omega,by omega⟩;rw[Int.toNat_natCast] at h;exact h
 have hin:∀i:Nat,i<l.length->l.getD i []∈l:=λi hi=>by rw[show l.getD i []=l[i] by simp[List.getD,hi]];exact List.getElem_mem hi
 have hne:∀i j:Nat,i<l.length->j<l.length->(!((txt (fH fr to (l.getD i []))).toList==(txt (fH fr to (l.getD j []))).toList))=(cmF fr to (l.getD j []) (l.getD i []) != 0):=λi j hi hj=>by
  have hli:=kR (ho _ (hin i hi));have hlj:=kR (ho _ (hin j hj));have hci:=List.all_eq_true.1 hall _ (hin i hi);have hcj:=List.all_eq_true.1 hall _ (hin j hj);rw[aEl (by rw[hli,hlj]) hci hcj];unfold cmF;rw[aBo (fH fr to (l.getD i [])) (fH fr to (l.getD j [])) (by rw[hli,hlj])];generalize iN (fH fr to (l.getD i [])) (fH fr to (l.getD j []))=c;by_cases h0:c=0
  .subst h0;rfl
  .have h1:(c==0)=false:=by simp[h0]
   have h2:(-c != 0)=true:=by simp;omega
   rw[h1,h2];rfl
 generalize E cSt (bK fr to l)=K at *
 refine fn0 Cd.s_l09Groups_k λX=>?_
 repeat' first|simp -dsimp only[go_sem,hkl]|apply Br.mk<;>intro h<;>try simp -dsimp only[h]|refine aC ?_|fail
 refine aN.at dM (X:={zz:Nat×(Unit) // zz.1<=l.length∧True}) (λzz=>[(3,.loc (.t 3 0) 0 (bI fr to l zz.1.1).length),(4,.v (.int .i64 zz.1.1))]) (λzz=>[(.t 3 0,.arr 1 (E cI (bI fr to l zz.1.1)) false)]) (λzz=>l.length-zz.1.1) ⟨(0,()),by omega,trivial⟩ ?_ ?_
 .simp[Vs.LeL,Vs.look,Vs.aB,Vs.aR,Vs.aK,Vs.hset,Vs.aL,Vs.E,wM]
 .rintro⟨⟨i,_⟩,hi,hg⟩;dsimp only at hi hg;simp -dsimp only[go_sem,hkl];refine Br.mk (λhc=>?_) λhc=>?_
  .have hlt:i<l.length:=Dq;have hw:=aH hlt (by omega);have hgl:=jG fr to l i;have gi:=hke i hlt;have hap:E cI (bI fr to l i)++[[.v (.int .i64 (i:Int))]]=E cI (bI fr to l i++[(i:Int)]):=by rw[aV];rfl
   have hal:(E cI (bI fr to l i)).length=(bI fr to l i).length:=aI ..
   have hgs:=sW fr to l i;by_cases h0:i=0
   .subst h0;rw[if_pos (.inl rfl)] at hgs;have e0:(((0:Nat):Int)==0)=true:=rfl
    repeat' first|simp -dsimp only[go_sem,e0,hw,hap,hal,gi]|apply Br.mk<;>intro h<;>try simp -dsimp only[h]|refine aC ?_|fail
    all_goals first|omega|(exact nx (0+1,()) trivial (h2:=by simp[Vs.LeL,Vs.look,Vs.aB,Vs.aR,Vs.aK,Vs.hset,Vs.aL,hgs]))
   .have e0:((i:Int)==0)=false:=by simp[h0]
    have w0:IntKind.i64.wrap ((i:Int)-1)=((i-1:Nat):Int):=by rw[aO (by omega) (by omega)];omega
    have hl1:i-1<l.length:=by omega
    have gj:=hke (i-1) hl1;have hn:=hne i (i-1) hlt hl1;by_cases hc0:cmF fr to (l.getD (i-1) []) (l.getD i [])=0
    .have e1:(cmF fr to (l.getD (i-1) []) (l.getD i []) != 0)=false:=by rw[hc0];rfl
     rw[e1] at hn;rw[if_neg (by rintro(h|h)<;>contradiction),List.append_nil] at hgs
     repeat' first|simp -dsimp only[go_sem,e0,hn,hkl,w0,hw,hap,hal,gi,gj]|apply Br.mk<;>intro h<;>try simp -dsimp only[h]|refine aC ?_|fail
     all_goals first|omega|(exact nx (i+1,()) trivial (h2:=by simp[Vs.LeL,Vs.look,Vs.aB,Vs.aR,Vs.aK,Vs.hset,Vs.aL,hgs]))
    .have e1:(cmF fr to (l.getD (i-1) []) (l.getD i []) != 0)=true:=bne_iff_ne.2 hc0;rw[e1] at hn;rw[if_pos (.inr hc0)] at hgs
     repeat' first|simp -dsimp only[go_sem,e0,hn,hkl,w0,hw,hap,hal,gi,gj]|apply Br.mk<;>intro h<;>try simp -dsimp only[h]|refine aC ?_|fail
     all_goals first|omega|(exact nx (i+1,()) trivial (h2:=by simp[Vs.LeL,Vs.look,Vs.aB,Vs.aR,Vs.aK,Vs.hset,Vs.aL,hgs]))
  .have hge:i=l.length:=by
    have:¬i<l.length:=Dq;omega
   subst hge;simp -dsimp only[go_sem,hkl];have htk:(E cI (bI fr to l l.length)).take (bI fr to l l.length).length=E cI (bI fr to l l.length):=List.take_of_length_le (by rw[aI];exact Nat.le_refl _)
   first|exact⟨⟨_,_,rfl,rfl⟩,λh=>h rfl⟩|(rw[htk];exact⟨⟨_,_,rfl,rfl⟩,λh=>h rfl⟩)|(simp[htk];done)
end
section
variable [Vs.Envs]
attribute [local irreducible] Vs.Fn bI aY jN chOK areCh chTo chAt l03 chB rk cd3 chI stp stpTo
def uI (fr to:Int) (l:List (List Int)):List (List Int):=(bI fr to l l.length).map λi=>l.getD i.toNat []
def qC (fr to:Int) (l:List (List Int)):AV:=if aY fr to l=0 then .sl 1 (E cC (uI fr to l)) else .v (.slice none 0 0)
theorem aK4 (fr to:Int) (l:List (List Int)):jN fr to [l]=aY fr to l:=by
 unfold jN aY;simp only[List.all_cons,List.all_nil,Bool.and_true]
theorem aBi {fr to:Int}{l:List (List Int)}:∀x,x∈bI fr to l l.length->inO l.length x:=λx F=>vQ l.length x F
attribute [local go_sem] cD aI List.replicate_succ List.replicate_zero List.flatten_cons List.flatten_nil List.cons_append List.nil_append List.set_cons_zero List.set_cons_succ List.length_cons List.length_nil List.length_set in
theorem zU (l:List (List Int)) (fr to:Int) (hk:bJ l):Fz F.iU [.sl 1 (E cC l),.agg (cFd fr to)] (.tup [qC fr to l,.v (.int .i64 (aY fr to l))]):=by
 have CC:=vT fr to [l] ⟨by simp,λd hd=>by simp at hd;subst hd;exact hk⟩;rw[aK4] at CC;by_cases h0:aY fr to l=0
 .obtain⟨hd,hf,ha⟩:=aB7 h0;have ho:=eF hd hf;have h40:=kM hd;rw[show qC fr to l=.sl 1 (E cC (uI fr to l)) by simp[qC,h0],h0];have hol:=jG fr to l l.length;have hoi:=aBi (fr:=fr) (to:=to) (l:=l);rw[show uI fr to l=(bI fr to l l.length).map (λi=>l.getD i.toNat []) from rfl];have GO:=aFZ l fr to ho (by omega);rw[h0] at CC;generalize bI fr to l l.length=o at *
  refine fn0 Cd.i_FirstOfGroups_k λX=>?_
  repeat' first|simp -dsimp only[go_sem,cC,cFd]|apply Br.mk<;>intro h<;>try simp -dsimp only[h]|refine aD.c (by first|exact CC|exact GO) ?_|refine aC ?_|fail
  refine aN.at dM (X:={zz:Nat×(Unit) // zz.1<=o.length∧True}) (λzz=>[(7,.loc (.t 7 0) 0 zz.1.1),(22,.v (.int .i64 zz.1.1))]) (λzz=>[(.t 7 0,.arr 1 (E cC ((o.take zz.1.1).map λi=>l.getD i.toNat [])) false)]) (λzz=>o.length-zz.1.1) ⟨(0,()),by omega,trivial⟩ ?_ ?_
  .simp[Vs.LeL,Vs.look,Vs.aB,Vs.aR,Vs.aK,Vs.hset,Vs.aL,Vs.E]
  .rintro⟨⟨i,_⟩,hi,hg⟩;dsimp only at hi hg;simp -dsimp only[go_sem,cC,cFd];refine Br.mk (λhc=>?_) λhc=>?_
   .have hlt:i<o.length:=Dq;have hw:=aH hlt (by omega);have hx:=hoi _ (List.getElem_mem hlt);have gx:=aBq hx;have hm:=mP hx;have hc20:(l.getD o[i].toNat []).length<=20:=(ho _ hm).2.2.2;have NC:=aBZ (l.getD o[i].toNat []) (by omega);have x0:=hx.1;have x1:=hx.2
    have hap:E cC ((o.take i).map λi=>l.getD i.toNat [])++[[.sl 1 (E cI (l.getD o[i].toNat []))]]=E cC ((o.take (i+1)).map λi=>l.getD i.toNat []):=by
     rw[bB hlt,List.map_append,aV];rfl
    have hal:(E cC ((o.take i).map λi=>l.getD i.toNat [])).length=i:=by rw[aI];simp;omega
    repeat' first|simp -dsimp only[go_sem,bY hlt,hw,hap,hal,gx,cC,cFd]|apply Br.mk<;>intro h<;>try simp -dsimp only[h]|refine aD.c (by first|exact NC) ?_|refine aC ?_|fail
    all_goals first|omega|(exact nx (i+1,()) trivial (h2:=by simp[Vs.LeL,Vs.look,Vs.aB,Vs.aR,Vs.aK,Vs.hset,Vs.aL,hap]))
   .have hge:i=o.length:=by
     have:¬i<o.length:=Dq;omega
    subst hge;simp -dsimp only[go_sem,cC,cFd]
    have htk:(E cC ((o.take o.length).map λi=>l.getD i.toNat [])).take o.length=E cC (o.map λi=>l.getD i.toNat []):=by
     rw[List.take_of_length_le (Nat.le_refl o.length)];exact List.take_of_length_le (by rw[aI];simp)
    first|exact⟨⟨_,_,rfl,rfl⟩,λh=>h rfl⟩|(rw[htk];exact⟨⟨_,_,rfl,rfl⟩,λh=>h rfl⟩)|(simp[htk];done)
 .have e0:(aY fr to l != 0)=true:=by simp[h0]
  rw[show qC fr to l=.v (.slice none 0 0) by simp[qC,h0]];generalize aY fr to l=c at *
  refine fn0 Cd.i_FirstOfGroups_k λX=>?_
  repeat' first|simp -dsimp only[go_sem,cC,cFd,e0]|apply Br.mk<;>intro h<;>try simp -dsimp only[h]|refine aD.c (by first|exact CC) ?_|refine aC ?_|fail
  all_goals first|exact⟨_,_,rfl,rfl⟩
attribute [local go_sem] cD aI List.replicate_succ List.replicate_zero List.flatten_cons List.flatten_nil List.cons_append List.nil_append List.set_cons_zero List.set_cons_succ List.length_cons List.length_nil List.length_set in
theorem rE (l:List (List Int)) (fr to:Int) (hk:bJ l):Fz F.iQ [.sl 1 (E cC l),.agg (cFd fr to)] (.tup [qC fr to l,.v (.int .i64 (aY fr to l))]):=by
 have KS:=jK l fr to hk.2 hk.1;by_cases h0:aY fr to l=0
 .obtain⟨hd,hf,ha⟩:=aB7 h0;have ho:=eF hd hf;have h40:=kM hd;rw[show qC fr to l=.sl 1 (E cC (uI fr to l)) by simp[qC,h0],h0];have hol:=jG fr to l l.length;have hoi:=aBi (fr:=fr) (to:=to) (l:=l);rw[show uI fr to l=(bI fr to l l.length).map (λi=>l.getD i.toNat []) from rfl];have GO:=aDV l fr to ho ha (by omega);rw[show mV fr to l=.sl 1 (E cSt (bK fr to l)) by simp[mV,h0],h0] at KS;generalize bI fr to l l.length=o at *
  refine fn0 Cd.s_FirstOfGroups_k λX=>?_
  repeat' first|simp -dsimp only[go_sem,cC,cFd]|apply Br.mk<;>intro h<;>try simp -dsimp only[h]|refine aD.c (by first|exact KS|exact GO) ?_|refine aC ?_|fail
  refine aN.at dM (X:={zz:Nat×(Unit) // zz.1<=o.length∧True}) (λzz=>[(9,.loc (.t 9 0) 0 zz.1.1),(10,.v (.int .i64 zz.1.1))]) (λzz=>[(.t 9 0,.arr 1 (E cC ((o.take zz.1.1).map λi=>l.getD i.toNat [])) false)]) (λzz=>o.length-zz.1.1) ⟨(0,()),by omega,trivial⟩ ?_ ?_
  .simp[Vs.LeL,Vs.look,Vs.aB,Vs.aR,Vs.aK,Vs.hset,Vs.aL,Vs.E]
  .rintro⟨⟨i,_⟩,hi,hg⟩;dsimp only at hi hg;simp -dsimp only[go_sem,cC,cFd];refine Br.mk (λhc=>?_) λhc=>?_
   .have hlt:i<o.length:=Dq;have hw:=aH hlt (by omega);have hx:=hoi _ (List.getElem_mem hlt);have gx:=aBq hx;have hm:=mP hx;have hc20:(l.getD o[i].toNat []).length<=20:=(ho _ hm).2.2.2;have NC:=xQ (l.getD o[i].toNat []) (by omega);have x0:=hx.1;have x1:=hx.2
    have hap:E cC ((o.take i).map λi=>l.getD i.toNat [])++[[.sl 1 (E cI (l.getD o[i].toNat []))]]=E cC ((o.take (i+1)).map λi=>l.getD i.toNat []):=by
     rw[bB hlt,List.map_append,aV];rfl
    have hal:(E cC ((o.take i).map λi=>l.getD i.toNat [])).length=i:=by rw[aI];simp;omega
    repeat' first|simp -dsimp only[go_sem,bY hlt,hw,hap,hal,gx,cC,cFd]|apply Br.mk<;>intro h<;>try simp -dsimp only[h]|refine aD.c (by first|exact NC) ?_|refine aC ?_|fail
    all_goals first|omega|(exact nx (i+1,()) trivial (h2:=by simp[Vs.LeL,Vs.look,Vs.aB,Vs.aR,Vs.aK,Vs.hset,Vs.aL,hap]))
   .have hge:i=o.length:=by
     have:¬i<o.length:=Dq;omega
    subst hge;simp -dsimp only[go_sem,cC,cFd]
    have htk:(E cC ((o.take o.length).map λi=>l.getD i.toNat [])).take o.length=E cC (o.map λi=>l.getD i.toNat []):=by
     rw[List.take_of_length_le (Nat.le_refl o.length)];exact List.take_of_length_le (by rw[aI];simp)
    first|exact⟨⟨_,_,rfl,rfl⟩,λh=>h rfl⟩|(rw[htk];exact⟨⟨_,_,rfl,rfl⟩,λh=>h rfl⟩)|(simp[htk];done)
 .have e0:(aY fr to l != 0)=true:=by simp[h0]
  rw[show qC fr to l=.v (.slice none 0 0) by simp[qC,h0]];rw[show mV fr to l=.v (.slice none 0 0) by simp[mV,h0]] at KS;generalize aY fr to l=c at *
  refine fn0 Cd.s_FirstOfGroups_k λX=>?_
  repeat' first|simp -dsimp only[go_sem,cC,cFd,e0]|apply Br.mk<;>intro h<;>try simp -dsimp only[h]|refine aD.c (by first|exact KS) ?_|refine aC ?_|fail
  all_goals first|exact⟨_,_,rfl,rfl⟩
end
section
variable [Vs.Envs]
attribute [local irreducible] Vs.Fn flt zR areCh chTo chAt stp stpTo
set_option maxRecDepth 100000 in
theorem aIm:∀n:Nat,n<256->chOK (n:Int)=true->0<=rk (cd3 (n:Int))∧chI (cd3 (n:Int))=(n:Int):=by decide +kernel
attribute [local irreducible] chOK rk cd3 chI
theorem aEf {s:ByteArray} (h:areCh s=true):∀b,b∈s.data.toList->chOK (b.toNat:Int)=true:=by
 unfold areCh at h;exact List.all_eq_true.1 h
theorem aI8 {s:ByteArray} (h:areCh s=true):bU (bcd s)=true:=by
 unfold bU bcd;rw[List.all_eq_true];intro x H;obtain⟨b,F,rfl⟩:=List.mem_map.1 H;exact decide_eq_true (aIm b.toNat (UInt8.toNat_lt _) (aEf h b F)).1
theorem aLn {s:ByteArray} (h:areCh s=true):txt (bcd s)=s:=by
 have e:(bcd s).map chI=s.data.toList.map λb=>(b.toNat:Int):=by
  unfold bcd;rw[List.map_map];refine List.map_congr_left λb H=>?_;exact(aIm b.toNat (UInt8.toNat_lt _) (aEf h b H)).2
 unfold txt aCp;rw[e,List.map_map]
 have F:(s.data.toList.map ((λn:Int=>UInt8.ofNat n.toNat)∘λb:UInt8=>(b.toNat:Int)))=s.data.toList:=by
  rw[show((λn:Int=>UInt8.ofNat n.toNat)∘λb:UInt8=>(b.toNat:Int))=id from funext λb=>by simp];simp
 rw[F]
theorem aLN {s:ByteArray}{w:Nat} (h:s.size=w):pun s w=bcd s:=by
 unfold pun;rw[h,Nat.sub_self];simp
theorem aL9 {fr to:Int}{c:List Int}{s:ByteArray} (L:okF fr to c) (O:bU (fH fr to c)=true) (J:s.size=to.toNat-fr.toNat) (I:areCh s=true) :
  ((txt (fH fr to c)).toList==s.toList) = !iH fr to s c:=by
 have H:=aEl (a:=fH fr to c) (b:=bcd s) (by rw[kR L,aCj,J]) O (aI8 I);rw[aLn I] at H;rw[H];unfold iH cmT;rw[aLN J];generalize iN (fH fr to c) (bcd s)=v;by_cases F:v=0
 .subst F;rfl
 .have e:(v==0)=false:=beq_eq_false_iff_ne.2 F;rw[e];rcases Int.lt_or_gt_of_ne F with h|h<;>simp[h]
theorem aLz {fr to:Int}{s:ByteArray}{l:List (List Int)}:kS fr to s l=if aY fr to l=0∨aY fr to l=8 then(if l09 s fr to=0 then aY fr to l else l09 s fr to) else aY fr to l:=by
 unfold kS zC aY l09;cases h1:bA l<;>cases h2:dR fr to (bF l)<;>cases h5:bP fr to l<;>by_cases F:(s.size:Int)=W (to-fr)<;>cases h4:areCh s<;>simp[h1,h2,F,h4,h5]
end
section
variable [Vs.Envs]
attribute [local irreducible] Vs.Fn pun cmT flt zR iH chOK areCh chTo chAt l03 chB rk cd3 chI stp stpTo
def aJm (fr to:Int) (s:ByteArray) (l:List (List Int)):AV:=if kS fr to s l=0 then .sl 1 (E cSt (bK fr to l)) else .v (.slice none 0 0)
theorem aNp (s:ByteArray) (a b:Int):l09 s a b=2∨l09 s a b=0∨l09 s a b=7:=by
 unfold l09;split
 .exact .inl rfl
 .split
  .exact .inr (.inl rfl)
  .exact .inr (.inr rfl)
theorem aMb (fr to:Int) (l:List (List Int)):aY fr to l=0∨aY fr to l=8∨aY fr to l=1∨aY fr to l=2:=by
 unfold aY;split
 .split
  .split<;>simp
  .simp
 .simp
attribute [local go_sem] Int.reduceBEq Int.reduceBNe List.replicate_succ List.replicate_zero List.flatten_cons List.flatten_nil List.cons_append List.nil_append List.set_cons_zero List.set_cons_succ List.length_cons List.length_nil List.length_set in
theorem aNq (l:List (List Int)) (fr to:Int) (s:ByteArray) (hk:bJ l) (hz:s.size<=1048576):Fz F.xH [.sl 1 (E cC l),.agg (cFd fr to),.sl 1 [[.v (.string s)]]] (.tup [aJm fr to s l,.v (.int .i64 (kS fr to s l))]):=by
 have KS:=jK l fr to hk.2 hk.1;have TX:=aH6 s fr to hz;have hsc:=aLz (fr:=fr) (to:=to) (s:=s) (l:=l);unfold aJm;rcases aMb fr to l with hc|hc|hc|hc<;>rcases aNp s fr to with hb|hb|hb
 all_goals
  have hs0:=hsc;simp[hc,hb] at hs0;simp only[mV,hc,if_true,if_false,Int.reduceEq] at KS;rw[hs0];simp only[if_true,if_false,Int.reduceEq];refine fn0 Cd.s_l09Ask_k λX=>?_
  repeat' first|simp -dsimp only[go_sem,cC,cFd,hb]|apply Br.mk<;>intro h<;>try simp -dsimp only[h]|refine aD.c (by first|exact KS|exact TX) ?_|refine aC ?_|fail
  try all_goals first|exact⟨_,_,rfl,rfl⟩|exact⟨⟨_,_,rfl,rfl⟩,λh=>h rfl⟩
  all_goals
   refine aN.at dM (X:={zz:Nat×(Unit) // zz.1<=1∧True}) (λzz=>[(10,.v (.int .i64 (if zz.1.1=0 then 0 else l09 s fr to))),(11,.v (.int .i64 zz.1.1))]) (λzz=>[]) (λzz=>1-zz.1.1) ⟨(0,()),by omega,trivial⟩ ?_ ?_
   .exact le0
   .rintro⟨⟨i,_⟩,hi,hg⟩;dsimp only at hi hg;simp -dsimp only[go_sem,cC,cFd,hb];refine Br.mk (λhc=>?_) λhc=>?_
    .have hlt:i<1:=Dq;have hw:=aH hlt (by omega);obtain rfl:i=0:=by omega
     repeat' first|simp -dsimp only[go_sem,cC,cFd,hb,hw]|apply Br.mk<;>intro h<;>try simp -dsimp only[h]|refine aD.c (by first|exact TX) ?_|refine aC ?_|fail
     all_goals first|exact λ_=>⟨⟨_,_,rfl,rfl⟩,λh=>h rfl⟩|omega|exact⟨_,_,rfl,rfl⟩|exact⟨⟨_,_,rfl,rfl⟩,λh=>h rfl⟩|exact⟨λ_=>⟨_,_,rfl,rfl⟩,λh=>absurd rfl h⟩|(exact nx (1,()) trivial (h2:=by simp[Vs.LeL,Vs.look,Vs.aB,Vs.aR,Vs.aK,Vs.hset,Vs.aL,hb]))
    .have hge:i=1:=by
      have:¬i<1:=Dq;omega
     subst hge;simp -dsimp only[go_sem,cC,cFd,hb]
     first|exact⟨⟨_,_,rfl,rfl⟩,λh=>h rfl⟩|omega|exact⟨_,_,rfl,rfl⟩|exact⟨⟨_,_,rfl,rfl⟩,λh=>h rfl⟩|exact⟨λ_=>⟨_,_,rfl,rfl⟩,λh=>absurd rfl h⟩
end
end Go.Proofs.YtmiiohemehacjaaGreatDoor
