/- Offices in new memory: the program and the reference. -/
import Derived.Test.YtkgeiaideklmoaaGreatZwD
import Derived.Test.YtkgeiaideklmoaaGreatZwVg
import Derived.Test.YtkgeiaideklmoaaGreatVtZ
import Derived.Test.YtkgeiaideklmoaaGreatZuS
set_option linter.all false
set_option maxHeartbeats 8000000
namespace Go.Proofs.YtkgeiaideklmoaaGreat
open Go.Vs
variable [Vs.Envs]
attribute [local irreducible] Vs.Fn bK aO bL bM l03 chB rk cd3 chI stp aP
attribute [local go_sem] Int.reduceBEq Int.reduceBNe cO cTs cD aH Af Ag Al Aq Ae Ai Ac Ak Ab Ah Am Au Ap Ao AX BH Vs.Name.t.injEq in
theorem aKK (l:List (List Int)) (hk:aZ l):Fz F.dE [.sl 1 (E cC l)] (.sl 1 (E cC l)):=by
 refine fn0 Cd.i_newDeck_k λX=>?_
 repeat' first|simp -dsimp only[go_sem,cC]|apply Br.mk<;>intro h<;>try simp -dsimp only[h]|refine aC ?_|fail
 refine aM.at dM (X:={zz:Nat×(Unit) // zz.1<=l.length∧True}) (λzz=>[(3,.loc (.t 3 0) 0 zz.1.1),(9,.v (.int .i64 zz.1.1))]) (λzz=>[(.t 3 0,.arr 1 (E cC (l.take zz.1.1)) false)]) (λzz=>l.length-zz.1.1) ⟨(0,()),by omega,trivial⟩ ?_ ?_
 .simp[Vs.LeL,Vs.look,aA,aS,aJ,Vs.hset,aK,Vs.E]
 .rintro⟨⟨i,_⟩,hi,hg⟩;dsimp only at hi hg;simp -dsimp only[go_sem,cC];refine Br.mk (λhc=>?_) λhc=>?_
  .have hlt:i<l.length:=Dq;have hw:=aG hlt (hk.1);have hm:(E cC l).getD i []=[.sl 1 (E cI l[i])]:=aN hlt;have NC:=aCe l[i] (hk.2 _ (Aa hlt));have hap:E cC (l.take i)++[[.sl 1 (E cI l[i])]]=E cC (l.take (i+1)):=by rw[aY hlt,bH];rfl
   have hal:(E cC (l.take i)).length=i:=by rw[aH];simp;omega
   have hl:=hk.1
   repeat' first|simp -dsimp only[go_sem,hm,hw,hap,hal,cC]|apply Br.mk<;>intro h<;>try simp -dsimp only[h]|refine aB.c (by first|exact NC) ?_|refine aC ?_|fail
   all_goals first|omega|(exact nx (i+1,()) trivial (h2:=by simp[Vs.LeL,Vs.look,aA,aS,aJ,Vs.hset,aK,hap]))
  .have hge:i=l.length:=by
    have:¬i<l.length:=Dq;omega
   subst hge;simp -dsimp only[go_sem,cC]
   have htk:(E cC (l.take l.length)).take l.length=E cC l:=by
    rw[Aj (Ar l.length)];exact Aj (by rw[aH];exact Ar _)
   first|exact⟨⟨_,_,rfl,rfl⟩,λh=>h rfl⟩|(rw[htk];exact⟨⟨_,_,rfl,rfl⟩,λh=>h rfl⟩)|(simp[htk];done)
theorem aLz {l:List (List (List Int))}{i:Nat} (h:i<l.length):(E cD l).getD i []=[.sl 1 (E cC l[i])]:=by rw[aN h];rfl
theorem aHw {l:List (List Tot)}{i:Nat} (h:i<l.length):(E cTs l).getD i []=[.sl 2 (E cT l[i])]:=by rw[aN h];rfl
theorem aFc {l:List (List (List Int))}{i:Nat} (h:i<l.length):E cD (l.take i)++[[.sl 1 (E cC l[i])]]=E cD (l.take (i+1)):=by rw[aY h,bH];rfl
theorem aFb {l:List (List Tot)}{i:Nat} (h:i<l.length):E cTs (l.take i)++[[.sl 2 (E cT l[i])]]=E cTs (l.take (i+1)):=by rw[aY h,bH];rfl
attribute [local go_sem] Int.reduceBEq Int.reduceBNe cC aH Af Ag Al Aq Ae Ai Ac Ak Ab Ah Am Au Ap Ao AX BH Vs.Name.t.injEq in
theorem aJd (o:Off) (ho:dY o):Vs.Fn Tryz.prog F.iY [] [.agg (cO o)] (.agg [.loc (.b 0) 0 o.trays.length,.loc (.b 1) 0 o.totals.length]) [some (.arr 1 (E cD o.trays) false),some (.arr 1 (E cTs o.totals) false)]:=by
 have hn:=ho.1.1;have hm:=ho.2.1;refine fn1 Cd.i_newOffice_k [.t 8 0,.t 9 0] [.arr 1 (E cD o.trays) false,.arr 1 (E cTs o.totals) false] λX=>?_;unfold Cd.iY
 repeat' first|simp -dsimp only[go_sem,cO,cTs,cD]|apply Br.mk<;>intro h<;>try simp -dsimp only[h]|refine aC ?_|fail
 refine aM.atR dM (X:={i:Nat // i<=o.trays.length}) (λi=>[(14,.v (.int .i64 (i.1:Nat)))]) (λi=>[(.t 3 0,.var [.loc (.t 8 0) 0 i.1,.loc (.t 9 0) 0 0] false),(.t 8 0,.arr 1 (E cD (o.trays.take i.1)) false)]) (λi=>o.trays.length-i.1) ⟨0,by omega⟩ ?_ ?_
 .simp[Vs.LeL,Vs.look,aA,aS,aJ,Vs.hset,aK,Vs.E]
 .rintro⟨i,hi⟩
  try dsimp only at hi
  try simp -dsimp only[go_sem,cO,cTs,cD]
  refine Br.mk (λhc=>?_) λhc=>?_
  .have hlt:i<o.trays.length:=Dq;have hw:=aG hlt (by omega);have hat:=aLz hlt;have hrow:=aFc hlt;have hal:(E cD (o.trays.take i)).length=i:=by rw[aH];simp;omega
   have ND:=aKK o.trays[i] (ho.1.2 _ (Aa hlt))
   repeat' first|simp -dsimp only[go_sem,hw,hrow,hal,hat,cO,cTs,cD]|apply Br.mk<;>intro h<;>try simp -dsimp only[h]|refine aB.c (by first|exact ND) ?_|refine aC ?_|fail
   all_goals first|omega|(refine⟨⟨i+1,by omega⟩,.inr ⟨.t 23 0,.t 8 0,by decide,rfl,?_⟩,by simp only;omega⟩;simp[nN,Vs.nmF,Vs.rn,Vs.rnL,Vs.rnB,Vs.LeL,Vs.look,aA,aS,aJ,Vs.hset,aK,hrow];done)
  .have hge:i=o.trays.length:=by
    have:¬i<o.trays.length:=Dq;omega
   subst hge
   try simp -dsimp only[go_sem,cO,cTs,cD]
   refine⟨?_,λh=>h rfl⟩
   repeat' first|simp -dsimp only[go_sem,cO,cTs,cD]|apply Br.mk<;>intro h<;>try simp -dsimp only[h]|refine aC ?_|fail
   refine aM.atR dM (X:={i:Nat // i<=o.totals.length}) (λi=>[(29,.v (.int .i64 (i.1:Nat)))]) (λi=>[(.t 3 0,.var [.loc (.t 8 0) 0 o.trays.length,.loc (.t 9 0) 0 i.1] false),(.t 9 0,.arr 1 (E cTs (o.totals.take i.1)) false)]) (λi=>o.totals.length-i.1) ⟨0,by omega⟩ ?_ ?_
   .simp[Vs.LeL,Vs.look,aA,aS,aJ,Vs.hset,aK,Vs.E]
   .rintro⟨i,hi⟩
    try dsimp only at hi
    try simp -dsimp only[go_sem,cO,cTs,cD]
    refine Br.mk (λhc=>?_) λhc=>?_
    .have hlt:i<o.totals.length:=Dq;have hw:=aG hlt (by omega);have hat:=aHw hlt;have hrow:=aFb hlt;have hal:(E cTs (o.totals.take i)).length=i:=by rw[aH];simp;omega
     have hs:=(ho.2.2 _ (Aa hlt)).1
     repeat' first|simp -dsimp only[go_sem,hw,hrow,hal,hat,cO,cTs,cD]|apply Br.mk<;>intro h<;>try simp -dsimp only[h]|refine aC ?_|fail
     all_goals first|omega|(refine⟨⟨i+1,by omega⟩,.inr ⟨.t 39 0,.t 9 0,by decide,rfl,?_⟩,by simp only;omega⟩;simp[nN,Vs.nmF,Vs.rn,Vs.rnL,Vs.rnB,Vs.LeL,Vs.look,aA,aS,aJ,Vs.hset,aK,hrow];done)
    .have hge:i=o.totals.length:=by
      have:¬i<o.totals.length:=Dq;omega
     subst hge
     try simp -dsimp only[go_sem,cO,cTs,cD]
     refine⟨?_,λh=>h rfl⟩;have ht1:(E cD (o.trays.take o.trays.length))=E cD o.trays:=by rw[Bv]
     have ht2:(E cTs (o.totals.take o.totals.length))=E cTs o.totals:=by rw[Bv]
     repeat' first|simp -dsimp only[go_sem,ht1,ht2,cO,cTs,cD]|apply Br.mk<;>intro h<;>try simp -dsimp only[h]|refine aC ?_|fail
     all_goals first|omega|exact⟨_,_,rfl,rfl⟩
end Go.Proofs.YtkgeiaideklmoaaGreat
