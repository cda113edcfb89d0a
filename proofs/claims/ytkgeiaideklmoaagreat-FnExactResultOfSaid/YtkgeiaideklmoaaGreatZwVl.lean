/- Offices in new memory: the program and the reference. -/
import Derived.Test.YtkgeiaideklmoaaGreatZwD
import Derived.Test.YtkgeiaideklmoaaGreatZwVg
import Derived.Test.YtkgeiaideklmoaaGreatVtZ
import Derived.Test.YtkgeiaideklmoaaGreatZuS
set_option linter.all false
set_option maxHeartbeats 8000000
namespace Go.Proofs.YtkgeiaideklmoaaGreat
open Go.Vs
variable [Vs.Envs]
attribute [local irreducible] Vs.Fn chOK areCh chTo chAt l03 chB rk cd3 chI stp stpTo
attribute [local go_sem] Int.reduceBEq Int.reduceBNe cO cTs cD aI List.replicate_succ List.replicate_zero List.flatten_cons List.flatten_nil List.cons_append List.nil_append List.set_cons_zero List.set_cons_succ List.length_cons List.length_nil List.length_set List.mem_singleton List.mem_cons List.not_mem_nil or_false false_or Vs.Name.t.injEq in
theorem aBR (l:List (List Int)) (hk:aU l):Fz F.bZ [.sl 1 (E cC l)] (.sl 1 (E cC l)):=by
 refine fn0 Cd.i_newDeck_k fun X=>?_
 repeat' first|simp -dsimp only[go_sem,cC]|apply Br.mk<;>intro h<;>try simp -dsimp only[h]|refine aC ?_|fail
 refine aN.at dM (X:={zz:Nat×(Unit) // zz.1≤l.length∧True}) (fun zz=>[(3,.loc (.t 3 0) 0 zz.1.1),(9,.v (.int .i64 zz.1.1))]) (fun zz=>[(.t 3 0,.arr 1 (E cC (l.take zz.1.1)) false)]) (fun zz=>l.length-zz.1.1) ⟨(0,()),by omega,trivial⟩ ?_ ?_
 ·simp[Vs.LeL,Vs.look,Vs.aB,Vs.aQ,Vs.aL,Vs.hset,Vs.aM,Vs.E]
 ·rintro⟨⟨i,_⟩,hi,hg⟩;dsimp only at hi hg;simp -dsimp only[go_sem,cC];refine Br.mk (fun hc=>?_) fun hc=>?_
  ·have hlt:i<l.length:=Dq;have hw:=aH hlt (hk.1);have hm:(E cC l).getD i []=[.sl 1 (E cI l[i])]:=aS hlt;have NC:=aBl l[i] (hk.2 _ (List.getElem_mem hlt));have hap:E cC (l.take i)++[[.sl 1 (E cI l[i])]]=E cC (l.take (i+1)):=by rw[bJ hlt,aY];rfl
   have hal:(E cC (l.take i)).length=i:=by rw[aI];simp;omega
   have hl:=hk.1
   repeat' first|simp -dsimp only[go_sem,hm,hw,hap,hal,cC]|apply Br.mk<;>intro h<;>try simp -dsimp only[h]|refine aD.c (by first|exact NC) ?_|refine aC ?_|fail
   all_goals first|omega|(exact nx (i+1,()) trivial (h2:=by simp[Vs.LeL,Vs.look,Vs.aB,Vs.aQ,Vs.aL,Vs.hset,Vs.aM,hap]))
  ·have hge:i=l.length:=by
    have:¬i<l.length:=Dq;omega
   subst hge;simp -dsimp only[go_sem,cC]
   have htk:(E cC (l.take l.length)).take l.length=E cC l:=by
    rw[List.take_of_length_le (Nat.le_refl l.length)];exact List.take_of_length_le (by rw[aI];exact Nat.le_refl _)
   first|exact⟨⟨_,_,rfl,rfl⟩,fun h=>h rfl⟩|(rw[htk];exact⟨⟨_,_,rfl,rfl⟩,fun h=>h rfl⟩)|(simp[htk];done)
theorem aJB {l:List (List (List Int))}{i:Nat} (h:i<l.length):(E cD l).getD i []=[.sl 1 (E cC l[i])]:=by rw[aS h];rfl
theorem aCj {l:List (List Tot)}{i:Nat} (h:i<l.length):(E cTs l).getD i []=[.sl 2 (E cT l[i])]:=by rw[aS h];rfl
theorem aD0 {l:List (List (List Int))}{i:Nat} (h:i<l.length):E cD (l.take i)++[[.sl 1 (E cC l[i])]]=E cD (l.take (i+1)):=by rw[bJ h,aY];rfl
theorem aDZ {l:List (List Tot)}{i:Nat} (h:i<l.length):E cTs (l.take i)++[[.sl 2 (E cT l[i])]]=E cTs (l.take (i+1)):=by rw[bJ h,aY];rfl
attribute [local go_sem] Int.reduceBEq Int.reduceBNe cC aI List.replicate_succ List.replicate_zero List.flatten_cons List.flatten_nil List.cons_append List.nil_append List.set_cons_zero List.set_cons_succ List.length_cons List.length_nil List.length_set List.mem_singleton List.mem_cons List.not_mem_nil or_false false_or Vs.Name.t.injEq in
theorem aHv (o:Off) (ho:yJ o):Vs.Fn Tryz.prog F.fE [] [.agg (cO o)] (.agg [.loc (.b 0) 0 o.trays.length,.loc (.b 1) 0 o.totals.length]) [some (.arr 1 (E cD o.trays) false),some (.arr 1 (E cTs o.totals) false)]:=by
 have hn:=ho.1.1;have hm:=ho.2.1;refine fn1 Cd.i_newOffice_k [.t 8 0,.t 9 0] [.arr 1 (E cD o.trays) false,.arr 1 (E cTs o.totals) false] fun X=>?_;unfold Cd.fE
 repeat' first|simp -dsimp only[go_sem,cO,cTs,cD]|apply Br.mk<;>intro h<;>try simp -dsimp only[h]|refine aC ?_|fail
 refine aN.atR dM (X:={i:Nat // i≤o.trays.length}) (fun i=>[(14,.v (.int .i64 (i.1:Nat)))]) (fun i=>[(.t 3 0,.var [.loc (.t 8 0) 0 i.1,.loc (.t 9 0) 0 0] false),(.t 8 0,.arr 1 (E cD (o.trays.take i.1)) false)]) (fun i=>o.trays.length-i.1) ⟨0,by omega⟩ ?_ ?_
 ·simp[Vs.LeL,Vs.look,Vs.aB,Vs.aQ,Vs.aL,Vs.hset,Vs.aM,Vs.E]
 ·rintro⟨i,hi⟩
  try dsimp only at hi
  try simp -dsimp only[go_sem,cO,cTs,cD]
  refine Br.mk (fun hc=>?_) fun hc=>?_
  ·have hlt:i<o.trays.length:=Dq;have hw:=aH hlt (by omega);have hat:=aJB hlt;have hrow:=aD0 hlt;have hal:(E cD (o.trays.take i)).length=i:=by rw[aI];simp;omega
   have ND:=aBR o.trays[i] (ho.1.2 _ (List.getElem_mem hlt))
   repeat' first|simp -dsimp only[go_sem,hw,hrow,hal,hat,cO,cTs,cD]|apply Br.mk<;>intro h<;>try simp -dsimp only[h]|refine aD.c (by first|exact ND) ?_|refine aC ?_|fail
   all_goals first|omega|(refine⟨⟨i+1,by omega⟩,.inr ⟨.t 23 0,.t 8 0,by decide,rfl,?_⟩,by simp only;omega⟩;simp[Vs.mX,Vs.nmF,Vs.rn,Vs.rnL,Vs.rnB,Vs.LeL,Vs.look,Vs.aB,Vs.aQ,Vs.aL,Vs.hset,Vs.aM,hrow];done)
  ·have hge:i=o.trays.length:=by
    have:¬i<o.trays.length:=Dq;omega
   subst hge
   try simp -dsimp only[go_sem,cO,cTs,cD]
   refine⟨?_,fun h=>h rfl⟩
   repeat' first|simp -dsimp only[go_sem,cO,cTs,cD]|apply Br.mk<;>intro h<;>try simp -dsimp only[h]|refine aC ?_|fail
   refine aN.atR dM (X:={i:Nat // i≤o.totals.length}) (fun i=>[(29,.v (.int .i64 (i.1:Nat)))]) (fun i=>[(.t 3 0,.var [.loc (.t 8 0) 0 o.trays.length,.loc (.t 9 0) 0 i.1] false),(.t 9 0,.arr 1 (E cTs (o.totals.take i.1)) false)]) (fun i=>o.totals.length-i.1) ⟨0,by omega⟩ ?_ ?_
   ·simp[Vs.LeL,Vs.look,Vs.aB,Vs.aQ,Vs.aL,Vs.hset,Vs.aM,Vs.E]
   ·rintro⟨i,hi⟩
    try dsimp only at hi
    try simp -dsimp only[go_sem,cO,cTs,cD]
    refine Br.mk (fun hc=>?_) fun hc=>?_
    ·have hlt:i<o.totals.length:=Dq;have hw:=aH hlt (by omega);have hat:=aCj hlt;have hrow:=aDZ hlt;have hal:(E cTs (o.totals.take i)).length=i:=by rw[aI];simp;omega
     have hs:=(ho.2.2 _ (List.getElem_mem hlt)).1
     repeat' first|simp -dsimp only[go_sem,hw,hrow,hal,hat,cO,cTs,cD]|apply Br.mk<;>intro h<;>try simp -dsimp only[h]|refine aC ?_|fail
     all_goals first|omega|(refine⟨⟨i+1,by omega⟩,.inr ⟨.t 39 0,.t 9 0,by decide,rfl,?_⟩,by simp only;omega⟩;simp[Vs.mX,Vs.nmF,Vs.rn,Vs.rnL,Vs.rnB,Vs.LeL,Vs.look,Vs.aB,Vs.aQ,Vs.aL,Vs.hset,Vs.aM,hrow];done)
    ·have hge:i=o.totals.length:=by
      have:¬i<o.totals.length:=Dq;omega
     subst hge
     try simp -dsimp only[go_sem,cO,cTs,cD]
     refine⟨?_,fun h=>h rfl⟩;have ht1:(E cD (o.trays.take o.trays.length))=E cD o.trays:=by rw[List.take_length]
     have ht2:(E cTs (o.totals.take o.totals.length))=E cTs o.totals:=by rw[List.take_length]
     repeat' first|simp -dsimp only[go_sem,ht1,ht2,cO,cTs,cD]|apply Br.mk<;>intro h<;>try simp -dsimp only[h]|refine aC ?_|fail
     all_goals first|omega|exact⟨_,_,rfl,rfl⟩
end Go.Proofs.YtkgeiaideklmoaaGreat
