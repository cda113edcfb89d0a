/- The deck that arises by a step: the program and the reference. -/
import Derived.Test.YtmiiohemehacjaaGreatDoorXwD
import Derived.Test.YtmiiohemehacjaaGreatDoorXwVf
import Derived.Test.YtmiiohemehacjaaGreatDoorVtT
import Derived.Test.YtmiiohemehacjaaGreatDoorXuF
import Derived.Test.YtmiiohemehacjaaGreatDoorXwVg
import Derived.Test.YtmiiohemehacjaaGreatDoorXwVb
import Derived.Test.YtmiiohemehacjaaGreatDoorXwVk
import Derived.Test.YtmiiohemehacjaaGreatDoorXwSm
set_option linter.all false
set_option maxHeartbeats 8000000
namespace Go.Proofs.YtmiiohemehacjaaGreatDoor
open Go.Vs
section
variable [Vs.Envs]
attribute [local irreducible] Vs.Fn chOK areCh chTo chAt l03 chB rk cd3 chI stp stpTo
attribute [local go_sem] Int.reduceBEq Int.reduceBNe cO cTs cD aI List.replicate_succ List.replicate_zero List.flatten_cons List.flatten_nil List.cons_append List.nil_append List.set_cons_zero List.set_cons_succ List.length_cons List.length_nil List.length_set List.mem_singleton List.mem_cons List.not_mem_nil or_false false_or Vs.Name.t.injEq in
theorem aKh (l:List (List Int)) (hk:bJ l):Fz F.jE [.sl 1 (E cC l)] (.sl 1 (E cC l)):=by
 refine fn0 Cd.i_newDeck_k λX=>?_
 repeat' first|simp -dsimp only[go_sem,cC]|apply Br.mk<;>intro h<;>try simp -dsimp only[h]|refine aC ?_|fail
 refine aN.at dM (X:={zz:Nat×(Unit) // zz.1<=l.length∧True}) (λzz=>[(3,.loc (.t 3 0) 0 zz.1.1),(9,.v (.int .i64 zz.1.1))]) (λzz=>[(.t 3 0,.arr 1 (E cC (l.take zz.1.1)) false)]) (λzz=>l.length-zz.1.1) ⟨(0,()),by omega,trivial⟩ ?_ ?_
 .simp[Vs.LeL,Vs.look,Vs.aB,Vs.aR,Vs.aK,Vs.hset,Vs.aL,Vs.E]
 .rintro⟨⟨i,_⟩,hi,hg⟩;dsimp only at hi hg;simp -dsimp only[go_sem,cC];refine Br.mk (λhc=>?_) λhc=>?_
  .have hlt:i<l.length:=Dq;have hw:=aH hlt (hk.1);have hm:(E cC l).getD i []=[.sl 1 (E cI l[i])]:=aQ hlt;have NC:=aBZ l[i] (hk.2 _ (List.getElem_mem hlt));have hap:E cC (l.take i)++[[.sl 1 (E cI l[i])]]=E cC (l.take (i+1)):=by rw[bB hlt,aV];rfl
   have hal:(E cC (l.take i)).length=i:=by rw[aI];simp;omega
   have hl:=hk.1
   repeat' first|simp -dsimp only[go_sem,hm,hw,hap,hal,cC]|apply Br.mk<;>intro h<;>try simp -dsimp only[h]|refine aD.c (by first|exact NC) ?_|refine aC ?_|fail
   all_goals first|omega|(exact nx (i+1,()) trivial (h2:=by simp[Vs.LeL,Vs.look,Vs.aB,Vs.aR,Vs.aK,Vs.hset,Vs.aL,hap]))
  .have hge:i=l.length:=by
    have:¬i<l.length:=Dq;omega
   subst hge;simp -dsimp only[go_sem,cC]
   have htk:(E cC (l.take l.length)).take l.length=E cC l:=by
    rw[List.take_of_length_le (Nat.le_refl l.length)];exact List.take_of_length_le (by rw[aI];exact Nat.le_refl _)
   first|exact⟨⟨_,_,rfl,rfl⟩,λh=>h rfl⟩|(rw[htk];exact⟨⟨_,_,rfl,rfl⟩,λh=>h rfl⟩)|(simp[htk];done)
theorem aK9 {l:List (List (List Int))}{i:Nat} (h:i<l.length):(E cD l).getD i []=[.sl 1 (E cC l[i])]:=by rw[aQ h];rfl
theorem aHm {l:List (List Tot)}{i:Nat} (h:i<l.length):(E cTs l).getD i []=[.sl 2 (E cT l[i])]:=by rw[aQ h];rfl
theorem aE2 {l:List (List (List Int))}{i:Nat} (h:i<l.length):E cD (l.take i)++[[.sl 1 (E cC l[i])]]=E cD (l.take (i+1)):=by rw[bB h,aV];rfl
theorem aE1 {l:List (List Tot)}{i:Nat} (h:i<l.length):E cTs (l.take i)++[[.sl 2 (E cT l[i])]]=E cTs (l.take (i+1)):=by rw[bB h,aV];rfl
attribute [local go_sem] Int.reduceBEq Int.reduceBNe cC aI List.replicate_succ List.replicate_zero List.flatten_cons List.flatten_nil List.cons_append List.nil_append List.set_cons_zero List.set_cons_succ List.length_cons List.length_nil List.length_set List.mem_singleton List.mem_cons List.not_mem_nil or_false false_or Vs.Name.t.injEq in
theorem aIT (o:Off) (ho:dD o):Vs.Fn Tryz.prog F.l8 [] [.agg (cO o)] (.agg [.loc (.b 0) 0 o.trays.length,.loc (.b 1) 0 o.totals.length]) [some (.arr 1 (E cD o.trays) false),some (.arr 1 (E cTs o.totals) false)]:=by
 have hn:=ho.1.1;have hm:=ho.2.1;refine fn1 Cd.i_newOffice_k [.t 8 0,.t 9 0] [.arr 1 (E cD o.trays) false,.arr 1 (E cTs o.totals) false] λX=>?_;unfold Cd.l8
 repeat' first|simp -dsimp only[go_sem,cO,cTs,cD]|apply Br.mk<;>intro h<;>try simp -dsimp only[h]|refine aC ?_|fail
 refine aN.atR dM (X:={i:Nat // i<=o.trays.length}) (λi=>[(14,.v (.int .i64 (i.1:Nat)))]) (λi=>[(.t 3 0,.var [.loc (.t 8 0) 0 i.1,.loc (.t 9 0) 0 0] false),(.t 8 0,.arr 1 (E cD (o.trays.take i.1)) false)]) (λi=>o.trays.length-i.1) ⟨0,by omega⟩ ?_ ?_
 .simp[Vs.LeL,Vs.look,Vs.aB,Vs.aR,Vs.aK,Vs.hset,Vs.aL,Vs.E]
 .rintro⟨i,hi⟩
  try dsimp only at hi
  try simp -dsimp only[go_sem,cO,cTs,cD]
  refine Br.mk (λhc=>?_) λhc=>?_
  .have hlt:i<o.trays.length:=Dq;have hw:=aH hlt (by omega);have hat:=aK9 hlt;have hrow:=aE2 hlt;have hal:(E cD (o.trays.take i)).length=i:=by rw[aI];simp;omega
   have ND:=aKh o.trays[i] (ho.1.2 _ (List.getElem_mem hlt))
   repeat' first|simp -dsimp only[go_sem,hw,hrow,hal,hat,cO,cTs,cD]|apply Br.mk<;>intro h<;>try simp -dsimp only[h]|refine aD.c (by first|exact ND) ?_|refine aC ?_|fail
   all_goals first|omega|(refine⟨⟨i+1,by omega⟩,.inr ⟨.t 23 0,.t 8 0,by decide,rfl,?_⟩,by simp only;omega⟩;simp[Vs.wD,Vs.nmF,Vs.rn,Vs.rnL,Vs.rnB,Vs.LeL,Vs.look,Vs.aB,Vs.aR,Vs.aK,Vs.hset,Vs.aL,hrow];done)
  .have hge:i=o.trays.length:=by
    have:¬i<o.trays.length:=Dq;omega
   subst hge
   try simp -dsimp only[go_sem,cO,cTs,cD]
   refine⟨?_,λh=>h rfl⟩
   repeat' first|simp -dsimp only[go_sem,cO,cTs,cD]|apply Br.mk<;>intro h<;>try simp -dsimp only[h]|refine aC ?_|fail
   refine aN.atR dM (X:={i:Nat // i<=o.totals.length}) (λi=>[(29,.v (.int .i64 (i.1:Nat)))]) (λi=>[(.t 3 0,.var [.loc (.t 8 0) 0 o.trays.length,.loc (.t 9 0) 0 i.1] false),(.t 9 0,.arr 1 (E cTs (o.totals.take i.1)) false)]) (λi=>o.totals.length-i.1) ⟨0,by omega⟩ ?_ ?_
   .simp[Vs.LeL,Vs.look,Vs.aB,Vs.aR,Vs.aK,Vs.hset,Vs.aL,Vs.E]
   .rintro⟨i,hi⟩
    try dsimp only at hi
    try simp -dsimp only[go_sem,cO,cTs,cD]
    refine Br.mk (λhc=>?_) λhc=>?_
    .have hlt:i<o.totals.length:=Dq;have hw:=aH hlt (by omega);have hat:=aHm hlt;have hrow:=aE1 hlt;have hal:(E cTs (o.totals.take i)).length=i:=by rw[aI];simp;omega
     have hs:=(ho.2.2 _ (List.getElem_mem hlt)).1
     repeat' first|simp -dsimp only[go_sem,hw,hrow,hal,hat,cO,cTs,cD]|apply Br.mk<;>intro h<;>try simp -dsimp only[h]|refine aC ?_|fail
     all_goals first|omega|(refine⟨⟨i+1,by omega⟩,.inr ⟨.t 39 0,.t 9 0,by decide,rfl,?_⟩,by simp only;omega⟩;simp[Vs.wD,Vs.nmF,Vs.rn,Vs.rnL,Vs.rnB,Vs.LeL,Vs.look,Vs.aB,Vs.aR,Vs.aK,Vs.hset,Vs.aL,hrow];done)
    .have hge:i=o.totals.length:=by
      have:¬i<o.totals.length:=Dq;omega
     subst hge
     try simp -dsimp only[go_sem,cO,cTs,cD]
     refine⟨?_,λh=>h rfl⟩;have ht1:(E cD (o.trays.take o.trays.length))=E cD o.trays:=by rw[List.take_length]
     have ht2:(E cTs (o.totals.take o.totals.length))=E cTs o.totals:=by rw[List.take_length]
     repeat' first|simp -dsimp only[go_sem,ht1,ht2,cO,cTs,cD]|apply Br.mk<;>intro h<;>try simp -dsimp only[h]|refine aC ?_|fail
     all_goals first|omega|exact⟨_,_,rfl,rfl⟩
end
section
variable [Vs.Envs]
attribute [local irreducible] Vs.Fn aY mgC kS mtC gQ flt iH uI mat chOK areCh chTo chAt l03 chB rk cd3 chI stp stpTo
def tr (T:List (List (List Int))) (i:Int):List (List Int):=T.getD i.toNat []
def dkC (x:Stp) (a b:List (List Int)):Int:=if x.kind=1 then aY x.f0 x.f1 a else if x.kind=2 then mgC x.f0 x.f1 a b else if x.kind=5 then kS x.f0 x.f1 x.text a else if x.kind=6 then aY x.f0 x.f1 a else mtC x.f0 x.f1 a b
def dkL (x:Stp) (a b:List (List Int)):List (List Int):=if x.kind=1 then gQ x.f0 x.f1 a else if x.kind=2 then gQ x.f0 x.f1 (a++b) else if x.kind=5 then flt (iH x.f0 x.f1 x.text) a else if x.kind=6 then uI x.f0 x.f1 a else if x.kind=3 then mat x.f0 x.f1 a b true else mat x.f0 x.f1 a b false
def dkV (x:Stp) (a b:List (List Int)):AV:=if dkC x a b=0 then .sl 1 (E cC (dkL x a b)) else .v (.slice none 0 0)
theorem dS {T:List (List (List Int))}{i:Int} (h:0<=i∧i<(T.length:Int)):(E cD T).getD i.toNat []=[.sl 1 (E cC (tr T i))]:=by
 have F:i.toNat<T.length:=by omega
 rw[aQ F];simp[cD,tr,List.getD,F]
theorem dA {T:List (List (List Int))}{i:Int} (h:0<=i∧i<(T.length:Int)):tr T i∈T:=by
 have F:i.toNat<T.length:=by omega
 rw[show tr T i=T[i.toNat] by simp[tr,List.getD,F]];exact List.getElem_mem F
attribute [local go_sem] Int.reduceBEq Int.reduceBNe cO cFd aI List.replicate_succ List.replicate_zero List.flatten_cons List.flatten_nil List.cons_append List.nil_append List.set_cons_zero List.set_cons_succ List.length_cons List.length_nil List.length_set List.mem_singleton List.mem_cons List.not_mem_nil or_false false_or Vs.Name.t.injEq Vs.Name.b.injEq List.getD_cons_zero List.getD_cons_succ in
theorem aFW (x:Stp) (hz:x.text.size<=1048576) (T:List (List (List Int))) (hs:∀d,d∈T->bJ d) (hl:T.length<=1048576) (iA:0<=x.a∧x.a<(T.length:Int)) (iB:0<=x.b∧x.b<(T.length:Int)) (TV:List (List Tot)):Fz F.xW [.agg [.sl 1 (E cD T),.sl 1 (E cTs TV)],.agg (cS x)] (.tup [dkV x (tr T x.a) (tr T x.b),.v (.int .i64 (dkC x (tr T x.a) (tr T x.b)))]):=by
 have sa:=hs _ (dA iA);have sb:=hs _ (dA iB);have gA:=dS iA;have U:=dS iB;have a0:=iA.1;have a1:=iA.2;have b0:=iB.1;have b1:=iB.2;by_cases Y:x.kind=1
 .have J:=aDx (tr T x.a) x.f0 x.f1 sa.2 sa.1;have I:dkC x (tr T x.a) (tr T x.b)=aY x.f0 x.f1 (tr T x.a):=by simp[dkC,Y]
  have hL:dkL x (tr T x.a) (tr T x.b)=gQ x.f0 x.f1 (tr T x.a):=by simp[dkL,Y]
  have L:dkV x (tr T x.a) (tr T x.b)=pY x.f0 x.f1 (tr T x.a):=by unfold dkV pY;rw[I,hL]
  have H:pY x.f0 x.f1 (tr T x.a)=.sl 1 (E cC (gQ x.f0 x.f1 (tr T x.a)))∨pY x.f0 x.f1 (tr T x.a)=.v (.slice none 0 0):=by unfold pY;split<;>simp
  rw[L,I];generalize aY x.f0 x.f1 (tr T x.a)=c at *
  rcases H with H|H<;>rw[H] at J⊢
  all_goals
   refine fn0 Cd.i_deckOf_k λX=>?_
   repeat' first|simp -dsimp only[go_sem,Y,gA,U,cS]|apply Br.mk<;>intro h<;>try simp -dsimp only[h]|refine aD.c (by first|exact J) ?_|refine aC ?_|fail
   all_goals first|omega|exact⟨_,_,rfl,rfl⟩
 by_cases h2:x.kind=2
 .have J:=aBP (tr T x.a) (tr T x.b) x.f0 x.f1 sa sb;have I:dkC x (tr T x.a) (tr T x.b)=mgC x.f0 x.f1 (tr T x.a) (tr T x.b):=by simp[dkC,h2]
  have hL:dkL x (tr T x.a) (tr T x.b)=gQ x.f0 x.f1 (tr T x.a++tr T x.b):=by simp[dkL,h2]
  have L:dkV x (tr T x.a) (tr T x.b)=mgV x.f0 x.f1 (tr T x.a) (tr T x.b):=by unfold dkV mgV;rw[I,hL]
  have H:mgV x.f0 x.f1 (tr T x.a) (tr T x.b)=.sl 1 (E cC (gQ x.f0 x.f1 (tr T x.a++tr T x.b)))∨mgV x.f0 x.f1 (tr T x.a) (tr T x.b)=.v (.slice none 0 0):=by unfold mgV;split<;>simp
  rw[L,I];generalize mgC x.f0 x.f1 (tr T x.a) (tr T x.b)=c at *
  rcases H with H|H<;>rw[H] at J⊢
  all_goals
   refine fn0 Cd.i_deckOf_k λX=>?_
   repeat' first|simp -dsimp only[go_sem,h2,gA,U,cS]|apply Br.mk<;>intro h<;>try simp -dsimp only[h]|refine aD.c (by first|exact J) ?_|refine aC ?_|fail
   all_goals first|omega|exact⟨_,_,rfl,rfl⟩
 by_cases Z:x.kind=5
 .have J:=aBg (tr T x.a) x.f0 x.f1 x.text sa hz;have I:dkC x (tr T x.a) (tr T x.b)=kS x.f0 x.f1 x.text (tr T x.a):=by simp[dkC,Z]
  have hL:dkL x (tr T x.a) (tr T x.b)=flt (iH x.f0 x.f1 x.text) (tr T x.a):=by simp[dkL,Z]
  have L:dkV x (tr T x.a) (tr T x.b)=mF x.f0 x.f1 x.text (tr T x.a):=by unfold dkV mF;rw[I,hL]
  have H:mF x.f0 x.f1 x.text (tr T x.a)=.sl 1 (E cC (flt (iH x.f0 x.f1 x.text) (tr T x.a)))∨mF x.f0 x.f1 x.text (tr T x.a)=.v (.slice none 0 0):=by unfold mF;split<;>simp
  rw[L,I];generalize kS x.f0 x.f1 x.text (tr T x.a)=c at *
  rcases H with H|H<;>rw[H] at J⊢
  all_goals
   refine fn0 Cd.i_deckOf_k λX=>?_
   repeat' first|simp -dsimp only[go_sem,Z,gA,U,cS]|apply Br.mk<;>intro h<;>try simp -dsimp only[h]|refine aD.c (by first|exact J) ?_|refine aC ?_|fail
   all_goals first|omega|exact⟨_,_,rfl,rfl⟩
 by_cases h6:x.kind=6
 .have J:=zU (tr T x.a) x.f0 x.f1 sa;have I:dkC x (tr T x.a) (tr T x.b)=aY x.f0 x.f1 (tr T x.a):=by simp[dkC,h6]
  have hL:dkL x (tr T x.a) (tr T x.b)=uI x.f0 x.f1 (tr T x.a):=by simp[dkL,h6]
  have L:dkV x (tr T x.a) (tr T x.b)=qC x.f0 x.f1 (tr T x.a):=by unfold dkV qC;rw[I,hL]
  have H:qC x.f0 x.f1 (tr T x.a)=.sl 1 (E cC (uI x.f0 x.f1 (tr T x.a)))∨qC x.f0 x.f1 (tr T x.a)=.v (.slice none 0 0):=by unfold qC;split<;>simp
  rw[L,I];generalize aY x.f0 x.f1 (tr T x.a)=c at *
  rcases H with H|H<;>rw[H] at J⊢
  all_goals
   refine fn0 Cd.i_deckOf_k λX=>?_
   repeat' first|simp -dsimp only[go_sem,h6,gA,U,cS]|apply Br.mk<;>intro h<;>try simp -dsimp only[h]|refine aD.c (by first|exact J) ?_|refine aC ?_|fail
   all_goals first|omega|exact⟨_,_,rfl,rfl⟩
 have I:dkC x (tr T x.a) (tr T x.b)=mtC x.f0 x.f1 (tr T x.a) (tr T x.b):=by simp[dkC,Y,h2,Z,h6]
 have e1:(x.kind==1)=false:=beq_eq_false_iff_ne.2 Y;have e2:(x.kind==2)=false:=beq_eq_false_iff_ne.2 h2;have e5:(x.kind==5)=false:=beq_eq_false_iff_ne.2 Z;have e6:(x.kind==6)=false:=beq_eq_false_iff_ne.2 h6;have J:=aBQ (tr T x.a) (tr T x.b) x.f0 x.f1 sa sb;by_cases O:mtC x.f0 x.f1 (tr T x.a) (tr T x.b)=0
 .rw[show mtV x.f0 x.f1 (tr T x.a) (tr T x.b)=.sl 1 (E cD (mtL x.f0 x.f1 (tr T x.a) (tr T x.b))) by simp[mtV,O],O] at J;have ha:(mtL x.f0 x.f1 (tr T x.a) (tr T x.b)).length=4:=rfl;have m0:(E cD (mtL x.f0 x.f1 (tr T x.a) (tr T x.b))).getD 0 []=[.sl 1 (E cC (mat x.f0 x.f1 (tr T x.a) (tr T x.b) true))]:=rfl;have m2:(E cD (mtL x.f0 x.f1 (tr T x.a) (tr T x.b))).getD 2 []=[.sl 1 (E cC (mat x.f0 x.f1 (tr T x.a) (tr T x.b) false))]:=rfl;generalize mtL x.f0 x.f1 (tr T x.a) (tr T x.b)=ML at *
  by_cases h3:x.kind=3
  .have e3:(x.kind==3)=true:=beq_iff_eq.2 h3;have L:dkV x (tr T x.a) (tr T x.b)=.sl 1 (E cC (mat x.f0 x.f1 (tr T x.a) (tr T x.b) true)):=by unfold dkV;rw[I,O];simp[dkL,Y,h2,Z,h6,h3]
   rw[L,I,O];refine fn0 Cd.i_deckOf_k λX=>?_
   repeat' first|simp -dsimp only[go_sem,e1,e2,e5,e6,e3,gA,U,m0,m2,ha,cS]|apply Br.mk<;>intro h<;>try simp -dsimp only[h]|refine aD.c (by first|exact J) ?_|refine aC ?_|fail
   all_goals first|omega|exact⟨_,_,rfl,rfl⟩
  .have e3:(x.kind==3)=false:=beq_eq_false_iff_ne.2 h3;have L:dkV x (tr T x.a) (tr T x.b)=.sl 1 (E cC (mat x.f0 x.f1 (tr T x.a) (tr T x.b) false)):=by unfold dkV;rw[I,O];simp[dkL,Y,h2,Z,h6,h3]
   rw[L,I,O];refine fn0 Cd.i_deckOf_k λX=>?_
   repeat' first|simp -dsimp only[go_sem,e1,e2,e5,e6,e3,gA,U,m0,m2,ha,cS]|apply Br.mk<;>intro h<;>try simp -dsimp only[h]|refine aD.c (by first|exact J) ?_|refine aC ?_|fail
   all_goals first|omega|exact⟨_,_,rfl,rfl⟩
 .have e0:(mtC x.f0 x.f1 (tr T x.a) (tr T x.b) != 0)=true:=by simp[O]
  rw[show mtV x.f0 x.f1 (tr T x.a) (tr T x.b)=.v (.slice none 0 0) by simp[mtV,O]] at J;have L:dkV x (tr T x.a) (tr T x.b)=.v (.slice none 0 0):=by unfold dkV;rw[I,if_neg O]
  rw[L,I];generalize mtC x.f0 x.f1 (tr T x.a) (tr T x.b)=c at *
  refine fn0 Cd.i_deckOf_k λX=>?_
  repeat' first|simp -dsimp only[go_sem,e1,e2,e5,e6,e0,gA,U,cS]|apply Br.mk<;>intro h<;>try simp -dsimp only[h]|refine aD.c (by first|exact J) ?_|refine aC ?_|fail
  all_goals first|omega|exact⟨_,_,rfl,rfl⟩
end
end Go.Proofs.YtmiiohemehacjaaGreatDoor
