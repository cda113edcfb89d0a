/- The deck that arises by a step: the program and the reference. -/
import Derived.Test.YtmiiohemehacjaaGreatDoorXwD
import Derived.Test.YtmiiohemehacjaaGreatDoorXwVf
import Derived.Test.YtmiiohemehacjaaGreatDoorVtT
import Derived.Test.YtmiiohemehacjaaGreatDoorXuF
import Derived.Test.YtmiiohemehacjaaGreatDoorXwVb
import Derived.Test.YtmiiohemehacjaaGreatDoorXwVk
import Derived.Test.YtmiiohemehacjaaGreatDoorXwSm
set_option linter.all false
set_option maxHeartbeats 8000000
namespace Go.Proofs.YtmiiohemehacjaaGreatDoor
open Go.Vs
section
variable [Vs.Envs]
attribute [local irreducible] Vs.Fn chOK areCh chTo chAt l03 chB rk cd3 chI stp stpTo
attribute [local go_sem] Int.reduceBEq Int.reduceBNe cO cTs cD aH Ai Ah Al Aq Ad Af Ac Ae Aa Ab Ao Ar Ay Az Bo Bq Vs.Name.t.injEq in
theorem aJP (l:List (List Int)) (hk:bE l):Fz F.jT [.sl 1 (E cC l)] (.sl 1 (E cC l)):=by
 refine fn0 Cd.i_newDeck_k λX=>?_
 repeat' first|simp -dsimp only[go_sem,cC]|apply Br.mk<;>intro h<;>try simp -dsimp only[h]|refine aC ?_|fail
 refine aO.at dM (X:={zz:Nat×(Unit) // zz.1<=l.length∧True}) (λzz=>[(3,.loc (.t 3 0) 0 zz.1.1),(9,.v (.int .i64 zz.1.1))]) (λzz=>[(.t 3 0,.arr 1 (E cC (l.take zz.1.1)) false)]) (λzz=>l.length-zz.1.1) ⟨(0,()),by omega,trivial⟩ ?_ ?_
 .simp[Vs.LeL,Vs.look,aB,aP,aJ,Vs.hset,aK,Vs.E]
 .rintro⟨⟨i,_⟩,hi,hg⟩;dsimp only at hi hg;simp -dsimp only[go_sem,cC];refine Br.mk (λhc=>?_) λhc=>?_
  .have hlt:i<l.length:=Dq;have hw:=aI hlt (hk.1);have hm:(E cC l).getD i []=[.sl 1 (E cI l[i])]:=aR hlt;have NC:=aCo l[i] (hk.2 _ (Am hlt));have hap:E cC (l.take i)++[[.sl 1 (E cI l[i])]]=E cC (l.take (i+1)):=by rw[bU hlt,aS];rfl
   have hal:(E cC (l.take i)).length=i:=by rw[aH];simp;omega
   have hl:=hk.1
   repeat' first|simp -dsimp only[go_sem,hm,hw,hap,hal,cC]|apply Br.mk<;>intro h<;>try simp -dsimp only[h]|refine aA.c (by first|exact NC) ?_|refine aC ?_|fail
   all_goals first|omega|(exact nx (i+1,()) trivial (h2:=by simp[Vs.LeL,Vs.look,aB,aP,aJ,Vs.hset,aK,hap]))
  .have hge:i=l.length:=by
    have:¬i<l.length:=Dq;omega
   subst hge;simp -dsimp only[go_sem,cC]
   have htk:(E cC (l.take l.length)).take l.length=E cC l:=by
    rw[Ag (AL l.length)];exact Ag (by rw[aH];exact AL _)
   first|exact⟨⟨_,_,rfl,rfl⟩,λh=>h rfl⟩|(rw[htk];exact⟨⟨_,_,rfl,rfl⟩,λh=>h rfl⟩)|(simp[htk];done)
theorem aKN {l:List (List (List Int))}{i:Nat} (h:i<l.length):(E cD l).getD i []=[.sl 1 (E cC l[i])]:=by rw[aR h];rfl
theorem aG2 {l:List (List Tot)}{i:Nat} (h:i<l.length):(E cTs l).getD i []=[.sl 2 (E cT l[i])]:=by rw[aR h];rfl
theorem aE8 {l:List (List (List Int))}{i:Nat} (h:i<l.length):E cD (l.take i)++[[.sl 1 (E cC l[i])]]=E cD (l.take (i+1)):=by rw[bU h,aS];rfl
theorem aE7 {l:List (List Tot)}{i:Nat} (h:i<l.length):E cTs (l.take i)++[[.sl 2 (E cT l[i])]]=E cTs (l.take (i+1)):=by rw[bU h,aS];rfl
attribute [local go_sem] Int.reduceBEq Int.reduceBNe cC aH Ai Ah Al Aq Ad Af Ac Ae Aa Ab Ao Ar Ay Az Bo Bq Vs.Name.t.injEq in
theorem aIz (o:Off) (ho:fC o):Vs.Fn Tryz.prog F.mX [] [.agg (cO o)] (.agg [.loc (.b 0) 0 o.trays.length,.loc (.b 1) 0 o.totals.length]) [some (.arr 1 (E cD o.trays) false),some (.arr 1 (E cTs o.totals) false)]:=by
 have hn:=ho.1.1;have hm:=ho.2.1;refine fn1 Cd.i_newOffice_k [.t 8 0,.t 9 0] [.arr 1 (E cD o.trays) false,.arr 1 (E cTs o.totals) false] λX=>?_;unfold Cd.mX
 repeat' first|simp -dsimp only[go_sem,cO,cTs,cD]|apply Br.mk<;>intro h<;>try simp -dsimp only[h]|refine aC ?_|fail
 refine aO.atR dM (X:={i:Nat // i<=o.trays.length}) (λi=>[(14,.v (.int .i64 (i.1:Nat)))]) (λi=>[(.t 3 0,.var [.loc (.t 8 0) 0 i.1,.loc (.t 9 0) 0 0] false),(.t 8 0,.arr 1 (E cD (o.trays.take i.1)) false)]) (λi=>o.trays.length-i.1) ⟨0,by omega⟩ ?_ ?_
 .simp[Vs.LeL,Vs.look,aB,aP,aJ,Vs.hset,aK,Vs.E]
 .rintro⟨i,hi⟩
  try dsimp only at hi
  try simp -dsimp only[go_sem,cO,cTs,cD]
  refine Br.mk (λhc=>?_) λhc=>?_
  .have hlt:i<o.trays.length:=Dq;have hw:=aI hlt (by omega);have hat:=aKN hlt;have hrow:=aE8 hlt;have hal:(E cD (o.trays.take i)).length=i:=by rw[aH];simp;omega
   have ND:=aJP o.trays[i] (ho.1.2 _ (Am hlt))
   repeat' first|simp -dsimp only[go_sem,hw,hrow,hal,hat,cO,cTs,cD]|apply Br.mk<;>intro h<;>try simp -dsimp only[h]|refine aA.c (by first|exact ND) ?_|refine aC ?_|fail
   all_goals first|omega|(refine⟨⟨i+1,by omega⟩,.inr ⟨.t 23 0,.t 8 0,by decide,rfl,?_⟩,by simp only;omega⟩;simp[oU,Vs.nmF,Vs.rn,Vs.rnL,Vs.rnB,Vs.LeL,Vs.look,aB,aP,aJ,Vs.hset,aK,hrow];done)
  .have hge:i=o.trays.length:=by
    have:¬i<o.trays.length:=Dq;omega
   subst hge
   try simp -dsimp only[go_sem,cO,cTs,cD]
   refine⟨?_,λh=>h rfl⟩
   repeat' first|simp -dsimp only[go_sem,cO,cTs,cD]|apply Br.mk<;>intro h<;>try simp -dsimp only[h]|refine aC ?_|fail
   refine aO.atR dM (X:={i:Nat // i<=o.totals.length}) (λi=>[(29,.v (.int .i64 (i.1:Nat)))]) (λi=>[(.t 3 0,.var [.loc (.t 8 0) 0 o.trays.length,.loc (.t 9 0) 0 i.1] false),(.t 9 0,.arr 1 (E cTs (o.totals.take i.1)) false)]) (λi=>o.totals.length-i.1) ⟨0,by omega⟩ ?_ ?_
   .simp[Vs.LeL,Vs.look,aB,aP,aJ,Vs.hset,aK,Vs.E]
   .rintro⟨i,hi⟩
    try dsimp only at hi
    try simp -dsimp only[go_sem,cO,cTs,cD]
    refine Br.mk (λhc=>?_) λhc=>?_
    .have hlt:i<o.totals.length:=Dq;have hw:=aI hlt (by omega);have hat:=aG2 hlt;have hrow:=aE7 hlt;have hal:(E cTs (o.totals.take i)).length=i:=by rw[aH];simp;omega
     have hs:=(ho.2.2 _ (Am hlt)).1
     repeat' first|simp -dsimp only[go_sem,hw,hrow,hal,hat,cO,cTs,cD]|apply Br.mk<;>intro h<;>try simp -dsimp only[h]|refine aC ?_|fail
     all_goals first|omega|(refine⟨⟨i+1,by omega⟩,.inr ⟨.t 39 0,.t 9 0,by decide,rfl,?_⟩,by simp only;omega⟩;simp[oU,Vs.nmF,Vs.rn,Vs.rnL,Vs.rnB,Vs.LeL,Vs.look,aB,aP,aJ,Vs.hset,aK,hrow];done)
    .have hge:i=o.totals.length:=by
      have:¬i<o.totals.length:=Dq;omega
     subst hge
     try simp -dsimp only[go_sem,cO,cTs,cD]
     refine⟨?_,λh=>h rfl⟩;have ht1:(E cD (o.trays.take o.trays.length))=E cD o.trays:=by rw[Ce]
     have ht2:(E cTs (o.totals.take o.totals.length))=E cTs o.totals:=by rw[Ce]
     repeat' first|simp -dsimp only[go_sem,ht1,ht2,cO,cTs,cD]|apply Br.mk<;>intro h<;>try simp -dsimp only[h]|refine aC ?_|fail
     all_goals first|omega|exact⟨_,_,rfl,rfl⟩
end
section
variable [Vs.Envs]
attribute [local irreducible] Vs.Fn bD mgC lM mtC eU flt jA uB mat chOK areCh chTo chAt l03 chB rk cd3 chI stp stpTo
def tr (T:List (List (List Int))) (i:Int):List (List Int):=T.getD i.toNat []
def dkC (x:Stp) (a b:List (List Int)):Int:=if x.kind=1 then bD x.f0 x.f1 a else if x.kind=2 then mgC x.f0 x.f1 a b else if x.kind=5 then lM x.f0 x.f1 x.text a else if x.kind=6 then bD x.f0 x.f1 a else mtC x.f0 x.f1 a b
def dkL (x:Stp) (a b:List (List Int)):List (List Int):=if x.kind=1 then eU x.f0 x.f1 a else if x.kind=2 then eU x.f0 x.f1 (a++b) else if x.kind=5 then flt (jA x.f0 x.f1 x.text) a else if x.kind=6 then uB x.f0 x.f1 a else if x.kind=3 then mat x.f0 x.f1 a b true else mat x.f0 x.f1 a b false
def dkV (x:Stp) (a b:List (List Int)):AV:=if dkC x a b=0 then .sl 1 (E cC (dkL x a b)) else .v (.slice none 0 0)
theorem dN {T:List (List (List Int))}{i:Int} (h:0<=i∧i<(T.length:Int)):(E cD T).getD i.toNat []=[.sl 1 (E cC (tr T i))]:=by
 have u:i.toNat<T.length:=by omega
 rw[aR u];simp[cD,tr,List.getD,u]
theorem dB {T:List (List (List Int))}{i:Int} (h:0<=i∧i<(T.length:Int)):tr T i∈T:=by
 have u:i.toNat<T.length:=by omega
 rw[show tr T i=T[i.toNat] by simp[tr,List.getD,u]];exact Am u
attribute [local go_sem] Int.reduceBEq Int.reduceBNe cO cFd aH Ai Ah Al Aq Ad Af Ac Ae Aa Ab Ao Ar Ay Az Bo Bq Vs.Name.t.injEq Vs.Name.b.injEq Ak AB in
theorem aFP (x:Stp) (hz:x.text.size<=1048576) (T:List (List (List Int))) (hs:∀d,d∈T->bE d) (hl:T.length<=1048576) (iA:0<=x.a∧x.a<(T.length:Int)) (iB:0<=x.b∧x.b<(T.length:Int)) (TV:List (List Tot)):Fz F.x8 [.agg [.sl 1 (E cD T),.sl 1 (E cTs TV)],.agg (cS x)] (.tup [dkV x (tr T x.a) (tr T x.b),.v (.int .i64 (dkC x (tr T x.a) (tr T x.b)))]):=by
 have Y:=hs _ (dB iA);have sb:=hs _ (dB iB);have gA:=dN iA;have L:=dN iB;have a0:=iA.1;have a1:=iA.2;have b0:=iB.1;have b1:=iB.2;by_cases M:x.kind=1
 .have H:=aDL (tr T x.a) x.f0 x.f1 Y.2 Y.1;have G:dkC x (tr T x.a) (tr T x.b)=bD x.f0 x.f1 (tr T x.a):=by simp[dkC,M]
  have V:dkL x (tr T x.a) (tr T x.b)=eU x.f0 x.f1 (tr T x.a):=by simp[dkL,M]
  have I:dkV x (tr T x.a) (tr T x.b)=oF x.f0 x.f1 (tr T x.a):=by unfold dkV oF;rw[G,V]
  have u:oF x.f0 x.f1 (tr T x.a)=.sl 1 (E cC (eU x.f0 x.f1 (tr T x.a)))∨oF x.f0 x.f1 (tr T x.a)=.v (.slice none 0 0):=by unfold oF;split<;>simp
  rw[I,G];generalize bD x.f0 x.f1 (tr T x.a)=c at *
  rcases u with u|u<;>rw[u] at H⊢
  all_goals
   refine fn0 Cd.i_deckOf_k λX=>?_
   repeat' first|simp -dsimp only[go_sem,M,gA,L,cS]|apply Br.mk<;>intro h<;>try simp -dsimp only[h]|refine aA.c (by first|exact H) ?_|refine aC ?_|fail
   all_goals first|omega|exact⟨_,_,rfl,rfl⟩
 by_cases h2:x.kind=2
 .have H:=aCf (tr T x.a) (tr T x.b) x.f0 x.f1 Y sb;have G:dkC x (tr T x.a) (tr T x.b)=mgC x.f0 x.f1 (tr T x.a) (tr T x.b):=by simp[dkC,h2]
  have V:dkL x (tr T x.a) (tr T x.b)=eU x.f0 x.f1 (tr T x.a++tr T x.b):=by simp[dkL,h2]
  have I:dkV x (tr T x.a) (tr T x.b)=mgV x.f0 x.f1 (tr T x.a) (tr T x.b):=by unfold dkV mgV;rw[G,V]
  have u:mgV x.f0 x.f1 (tr T x.a) (tr T x.b)=.sl 1 (E cC (eU x.f0 x.f1 (tr T x.a++tr T x.b)))∨mgV x.f0 x.f1 (tr T x.a) (tr T x.b)=.v (.slice none 0 0):=by unfold mgV;split<;>simp
  rw[I,G];generalize mgC x.f0 x.f1 (tr T x.a) (tr T x.b)=c at *
  rcases u with u|u<;>rw[u] at H⊢
  all_goals
   refine fn0 Cd.i_deckOf_k λX=>?_
   repeat' first|simp -dsimp only[go_sem,h2,gA,L,cS]|apply Br.mk<;>intro h<;>try simp -dsimp only[h]|refine aA.c (by first|exact H) ?_|refine aC ?_|fail
   all_goals first|omega|exact⟨_,_,rfl,rfl⟩
 by_cases O:x.kind=5
 .have H:=aBw (tr T x.a) x.f0 x.f1 x.text Y hz;have G:dkC x (tr T x.a) (tr T x.b)=lM x.f0 x.f1 x.text (tr T x.a):=by simp[dkC,O]
  have V:dkL x (tr T x.a) (tr T x.b)=flt (jA x.f0 x.f1 x.text) (tr T x.a):=by simp[dkL,O]
  have I:dkV x (tr T x.a) (tr T x.b)=nD x.f0 x.f1 x.text (tr T x.a):=by unfold dkV nD;rw[G,V]
  have u:nD x.f0 x.f1 x.text (tr T x.a)=.sl 1 (E cC (flt (jA x.f0 x.f1 x.text) (tr T x.a)))∨nD x.f0 x.f1 x.text (tr T x.a)=.v (.slice none 0 0):=by unfold nD;split<;>simp
  rw[I,G];generalize lM x.f0 x.f1 x.text (tr T x.a)=c at *
  rcases u with u|u<;>rw[u] at H⊢
  all_goals
   refine fn0 Cd.i_deckOf_k λX=>?_
   repeat' first|simp -dsimp only[go_sem,O,gA,L,cS]|apply Br.mk<;>intro h<;>try simp -dsimp only[h]|refine aA.c (by first|exact H) ?_|refine aC ?_|fail
   all_goals first|omega|exact⟨_,_,rfl,rfl⟩
 by_cases U:x.kind=6
 .have H:=aAq (tr T x.a) x.f0 x.f1 Y;have G:dkC x (tr T x.a) (tr T x.b)=bD x.f0 x.f1 (tr T x.a):=by simp[dkC,U]
  have V:dkL x (tr T x.a) (tr T x.b)=uB x.f0 x.f1 (tr T x.a):=by simp[dkL,U]
  have I:dkV x (tr T x.a) (tr T x.b)=qG x.f0 x.f1 (tr T x.a):=by unfold dkV qG;rw[G,V]
  have u:qG x.f0 x.f1 (tr T x.a)=.sl 1 (E cC (uB x.f0 x.f1 (tr T x.a)))∨qG x.f0 x.f1 (tr T x.a)=.v (.slice none 0 0):=by unfold qG;split<;>simp
  rw[I,G];generalize bD x.f0 x.f1 (tr T x.a)=c at *
  rcases u with u|u<;>rw[u] at H⊢
  all_goals
   refine fn0 Cd.i_deckOf_k λX=>?_
   repeat' first|simp -dsimp only[go_sem,U,gA,L,cS]|apply Br.mk<;>intro h<;>try simp -dsimp only[h]|refine aA.c (by first|exact H) ?_|refine aC ?_|fail
   all_goals first|omega|exact⟨_,_,rfl,rfl⟩
 have G:dkC x (tr T x.a) (tr T x.b)=mtC x.f0 x.f1 (tr T x.a) (tr T x.b):=by simp[dkC,M,h2,O,U]
 have e1:(x.kind==1)=false:=Ap.2 M;have e2:(x.kind==2)=false:=Ap.2 h2;have e5:(x.kind==5)=false:=Ap.2 O;have e6:(x.kind==6)=false:=Ap.2 U;have H:=qF (tr T x.a) (tr T x.b) x.f0 x.f1 Y sb;by_cases J:mtC x.f0 x.f1 (tr T x.a) (tr T x.b)=0
 .rw[show mtV x.f0 x.f1 (tr T x.a) (tr T x.b)=.sl 1 (E cD (mtL x.f0 x.f1 (tr T x.a) (tr T x.b))) by simp[mtV,J],J] at H;have Z:(mtL x.f0 x.f1 (tr T x.a) (tr T x.b)).length=4:=rfl;have m0:(E cD (mtL x.f0 x.f1 (tr T x.a) (tr T x.b))).getD 0 []=[.sl 1 (E cC (mat x.f0 x.f1 (tr T x.a) (tr T x.b) true))]:=rfl;have m2:(E cD (mtL x.f0 x.f1 (tr T x.a) (tr T x.b))).getD 2 []=[.sl 1 (E cC (mat x.f0 x.f1 (tr T x.a) (tr T x.b) false))]:=rfl;generalize mtL x.f0 x.f1 (tr T x.a) (tr T x.b)=ML at *
  by_cases h3:x.kind=3
  .have e3:(x.kind==3)=true:=Bj.2 h3;have I:dkV x (tr T x.a) (tr T x.b)=.sl 1 (E cC (mat x.f0 x.f1 (tr T x.a) (tr T x.b) true)):=by unfold dkV;rw[G,J];simp[dkL,M,h2,O,U,h3]
   rw[I,G,J];refine fn0 Cd.i_deckOf_k λX=>?_
   repeat' first|simp -dsimp only[go_sem,e1,e2,e5,e6,e3,gA,L,m0,m2,Z,cS]|apply Br.mk<;>intro h<;>try simp -dsimp only[h]|refine aA.c (by first|exact H) ?_|refine aC ?_|fail
   all_goals first|omega|exact⟨_,_,rfl,rfl⟩
  .have e3:(x.kind==3)=false:=Ap.2 h3;have I:dkV x (tr T x.a) (tr T x.b)=.sl 1 (E cC (mat x.f0 x.f1 (tr T x.a) (tr T x.b) false)):=by unfold dkV;rw[G,J];simp[dkL,M,h2,O,U,h3]
   rw[I,G,J];refine fn0 Cd.i_deckOf_k λX=>?_
   repeat' first|simp -dsimp only[go_sem,e1,e2,e5,e6,e3,gA,L,m0,m2,Z,cS]|apply Br.mk<;>intro h<;>try simp -dsimp only[h]|refine aA.c (by first|exact H) ?_|refine aC ?_|fail
   all_goals first|omega|exact⟨_,_,rfl,rfl⟩
 .have e0:(mtC x.f0 x.f1 (tr T x.a) (tr T x.b) != 0)=true:=by simp[J]
  rw[show mtV x.f0 x.f1 (tr T x.a) (tr T x.b)=.v (.slice none 0 0) by simp[mtV,J]] at H;have I:dkV x (tr T x.a) (tr T x.b)=.v (.slice none 0 0):=by unfold dkV;rw[G,AJ J]
  rw[I,G];generalize mtC x.f0 x.f1 (tr T x.a) (tr T x.b)=c at *
  refine fn0 Cd.i_deckOf_k λX=>?_
  repeat' first|simp -dsimp only[go_sem,e1,e2,e5,e6,e0,gA,L,cS]|apply Br.mk<;>intro h<;>try simp -dsimp only[h]|refine aA.c (by first|exact H) ?_|refine aC ?_|fail
  all_goals first|omega|exact⟨_,_,rfl,rfl⟩
end
end Go.Proofs.YtmiiohemehacjaaGreatDoor
