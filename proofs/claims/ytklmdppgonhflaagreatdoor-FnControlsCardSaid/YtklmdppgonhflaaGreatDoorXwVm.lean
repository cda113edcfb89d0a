/- The deck that arises by a step: the program and the reference. -/
import Derived.Test.YtklmdppgonhflaaGreatDoorXwD
import Derived.Test.YtklmdppgonhflaaGreatDoorXwVf
import Derived.Test.YtklmdppgonhflaaGreatDoorVtT
import Derived.Test.YtklmdppgonhflaaGreatDoorXuF
import Derived.Test.YtklmdppgonhflaaGreatDoorXwVb
import Derived.Test.YtklmdppgonhflaaGreatDoorXwVk
import Derived.Test.YtklmdppgonhflaaGreatDoorXwSm
set_option linter.all false
set_option maxHeartbeats 8000000
namespace Go.Proofs.YtklmdppgonhflaaGreatDoor
open Go.Vs
section
variable [Vs.Envs]
attribute [local irreducible] Vs.Fn dJ bB dK dL l03 chB rk cd3 chI stp bD
attribute [local go_sem] Int.reduceBEq Int.reduceBNe cO cTs cD aH Af Ag Ao Aq Ae Aj Ad Al Ac Ai Ap Av Am Ak AR BQ Vs.Name.t.injEq in
theorem aK6 (l:List (List Int)) (hk:bO l):Fz F.kG [.sl 1 (E cC l)] (.sl 1 (E cC l)):=by
 refine fn0 Cd.i_newDeck_k λX=>?_
 repeat' first|simp -dsimp only[go_sem,cC]|apply Br.mk<;>intro h<;>try simp -dsimp only[h]|refine aC ?_|refine aC9 ?_|fail
 refine aP.at dM (X:={zz:Nat×(Unit) // zz.1<=l.length∧True}) (λzz=>[(3,.loc (.t 3 0) 0 zz.1.1),(9,.v (.int .i64 zz.1.1))]) (λzz=>[(.t 3 0,.arr 1 (E cC (l.take zz.1.1)) false)]) (λzz=>l.length-zz.1.1) ⟨(0,()),by omega,trivial⟩ ?_ ?_
 .simp[Vs.LeL,Vs.look,aB,aQ,aK,Vs.hset,aL,Vs.E]
 .rintro⟨⟨i,_⟩,hi,hg⟩;dsimp only at hi hg;simp -dsimp only[go_sem,cC];refine Br.mk (λhc=>?_) λhc=>?_
  .have hlt:i<l.length:=Dq;have hw:=aJ hlt (hk.1);have hm:(E cC l).getD i []=[.sl 1 (E cI l[i])]:=aW hlt;have NC:=aCN l[i] (hk.2 _ (Aa hlt));have hap:E cC (l.take i)++[[.sl 1 (E cI l[i])]]=E cC (l.take (i+1)):=by rw[bM hlt,aV];rfl
   have hal:(E cC (l.take i)).length=i:=by rw[aH];simp;omega
   have hl:=hk.1
   repeat' first|simp -dsimp only[go_sem,hm,hw,hap,hal,cC]|apply Br.mk<;>intro h<;>try simp -dsimp only[h]|refine aA.c (by first|exact NC) ?_|refine aC ?_|refine aC9 ?_|fail
   all_goals first|omega|(exact nx (i+1,()) trivial (h2:=by simp[Vs.LeL,Vs.look,aB,aQ,aK,Vs.hset,aL,hap]))
  .have hge:i=l.length:=by
    have:¬i<l.length:=Dq;omega
   subst hge;simp -dsimp only[go_sem,cC]
   have htk:(E cC (l.take l.length)).take l.length=E cC l:=by
    rw[Ah (Au l.length)];exact Ah (by rw[aH];exact Au _)
   first|exact⟨⟨_,_,rfl,rfl⟩,λh=>h rfl⟩|(rw[htk];exact⟨⟨_,_,rfl,rfl⟩,λh=>h rfl⟩)|(simp[htk];done)
theorem aNS {l:List (List (List Int))}{i:Nat} (h:i<l.length):(E cD l).getD i []=[.sl 1 (E cC l[i])]:=by rw[aW h];rfl
theorem aL5 {l:List (List Tot)}{i:Nat} (h:i<l.length):(E cTs l).getD i []=[.sl 2 (E cT l[i])]:=by rw[aW h];rfl
theorem aI8 {l:List (List (List Int))}{i:Nat} (h:i<l.length):E cD (l.take i)++[[.sl 1 (E cC l[i])]]=E cD (l.take (i+1)):=by rw[bM h,aV];rfl
theorem aI7 {l:List (List Tot)}{i:Nat} (h:i<l.length):E cTs (l.take i)++[[.sl 2 (E cT l[i])]]=E cTs (l.take (i+1)):=by rw[bM h,aV];rfl
attribute [local go_sem] Int.reduceBEq Int.reduceBNe cC aH Af Ag Ao Aq Ae Aj Ad Al Ac Ai Ap Av Am Ak AR BQ Vs.Name.t.injEq in
theorem aJA (o:Off) (ho:kP o):Vs.Fn Tryz.prog F.nT [] [.agg (cO o)] (.agg [.loc (.b 0) 0 o.trays.length,.loc (.b 1) 0 o.totals.length]) [some (.arr 1 (E cD o.trays) false),some (.arr 1 (E cTs o.totals) false)]:=by
 have hn:=ho.1.1;have hm:=ho.2.1;refine fn1 Cd.i_newOffice_k [.t 8 0,.t 9 0] [.arr 1 (E cD o.trays) false,.arr 1 (E cTs o.totals) false] λX=>?_;unfold Cd.nT
 repeat' first|simp -dsimp only[go_sem,cO,cTs,cD]|apply Br.mk<;>intro h<;>try simp -dsimp only[h]|refine aC ?_|refine aC9 ?_|fail
 refine aP.atR dM (X:={i:Nat // i<=o.trays.length}) (λi=>[(14,.v (.int .i64 (i.1:Nat)))]) (λi=>[(.t 3 0,.var [.loc (.t 8 0) 0 i.1,.loc (.t 9 0) 0 0] false),(.t 8 0,.arr 1 (E cD (o.trays.take i.1)) false)]) (λi=>o.trays.length-i.1) ⟨0,by omega⟩ ?_ ?_
 .simp[Vs.LeL,Vs.look,aB,aQ,aK,Vs.hset,aL,Vs.E]
 .rintro⟨i,hi⟩
  try dsimp only at hi
  try simp -dsimp only[go_sem,cO,cTs,cD]
  refine Br.mk (λhc=>?_) λhc=>?_
  .have hlt:i<o.trays.length:=Dq;have hw:=aJ hlt (by omega);have hat:=aNS hlt;have hrow:=aI8 hlt;have hal:(E cD (o.trays.take i)).length=i:=by rw[aH];simp;omega
   have ND:=aK6 o.trays[i] (ho.1.2 _ (Aa hlt))
   repeat' first|simp -dsimp only[go_sem,hw,hrow,hal,hat,cO,cTs,cD]|apply Br.mk<;>intro h<;>try simp -dsimp only[h]|refine aA.c (by first|exact ND) ?_|refine aC ?_|refine aC9 ?_|fail
   all_goals first|omega|(refine⟨⟨i+1,by omega⟩,.inr ⟨.t 23 0,.t 8 0,by decide,rfl,?_⟩,by simp only;omega⟩;simp[uS,Vs.nmF,Vs.rn,Vs.rnL,Vs.rnB,Vs.LeL,Vs.look,aB,aQ,aK,Vs.hset,aL,hrow];done)
  .have hge:i=o.trays.length:=by
    have:¬i<o.trays.length:=Dq;omega
   subst hge
   try simp -dsimp only[go_sem,cO,cTs,cD]
   refine⟨?_,λh=>h rfl⟩
   repeat' first|simp -dsimp only[go_sem,cO,cTs,cD]|apply Br.mk<;>intro h<;>try simp -dsimp only[h]|refine aC ?_|refine aC9 ?_|fail
   refine aP.atR dM (X:={i:Nat // i<=o.totals.length}) (λi=>[(29,.v (.int .i64 (i.1:Nat)))]) (λi=>[(.t 3 0,.var [.loc (.t 8 0) 0 o.trays.length,.loc (.t 9 0) 0 i.1] false),(.t 9 0,.arr 1 (E cTs (o.totals.take i.1)) false)]) (λi=>o.totals.length-i.1) ⟨0,by omega⟩ ?_ ?_
   .simp[Vs.LeL,Vs.look,aB,aQ,aK,Vs.hset,aL,Vs.E]
   .rintro⟨i,hi⟩
    try dsimp only at hi
    try simp -dsimp only[go_sem,cO,cTs,cD]
    refine Br.mk (λhc=>?_) λhc=>?_
    .have hlt:i<o.totals.length:=Dq;have hw:=aJ hlt (by omega);have hat:=aL5 hlt;have hrow:=aI7 hlt;have hal:(E cTs (o.totals.take i)).length=i:=by rw[aH];simp;omega
     have hs:=(ho.2.2 _ (Aa hlt)).1
     repeat' first|simp -dsimp only[go_sem,hw,hrow,hal,hat,cO,cTs,cD]|apply Br.mk<;>intro h<;>try simp -dsimp only[h]|refine aC ?_|refine aC9 ?_|fail
     all_goals first|omega|(refine⟨⟨i+1,by omega⟩,.inr ⟨.t 39 0,.t 9 0,by decide,rfl,?_⟩,by simp only;omega⟩;simp[uS,Vs.nmF,Vs.rn,Vs.rnL,Vs.rnB,Vs.LeL,Vs.look,aB,aQ,aK,Vs.hset,aL,hrow];done)
    .have hge:i=o.totals.length:=by
      have:¬i<o.totals.length:=Dq;omega
     subst hge
     try simp -dsimp only[go_sem,cO,cTs,cD]
     refine⟨?_,λh=>h rfl⟩;have ht1:(E cD (o.trays.take o.trays.length))=E cD o.trays:=by rw[Bw]
     have ht2:(E cTs (o.totals.take o.totals.length))=E cTs o.totals:=by rw[Bw]
     repeat' first|simp -dsimp only[go_sem,ht1,ht2,cO,cTs,cD]|apply Br.mk<;>intro h<;>try simp -dsimp only[h]|refine aC ?_|refine aC9 ?_|fail
     all_goals first|omega|exact⟨_,_,rfl,rfl⟩
end
section
variable [Vs.Envs]
attribute [local irreducible] Vs.Fn bL mgC oC mtC jH flt kQ xN mat dJ bB dK dL l03 chB rk cd3 chI stp bD
def tr (T:List (List (List Int))) (i:Int):List (List Int):=T.getD i.toNat []
def dkC (x:Stp) (a b:List (List Int)):Int:=if x.kind=1 then bL x.f0 x.f1 a else if x.kind=2 then mgC x.f0 x.f1 a b else if x.kind=5 then oC x.f0 x.f1 x.text a else if x.kind=6 then bL x.f0 x.f1 a else mtC x.f0 x.f1 a b
def dkL (x:Stp) (a b:List (List Int)):List (List Int):=if x.kind=1 then jH x.f0 x.f1 a else if x.kind=2 then jH x.f0 x.f1 (a++b) else if x.kind=5 then flt (kQ x.f0 x.f1 x.text) a else if x.kind=6 then xN x.f0 x.f1 a else if x.kind=3 then mat x.f0 x.f1 a b true else mat x.f0 x.f1 a b false
def dkV (x:Stp) (a b:List (List Int)):AV:=if dkC x a b=0 then .sl 1 (E cC (dkL x a b)) else .v (.slice none 0 0)
theorem jE {T:List (List (List Int))}{i:Int} (h:0<=i∧i<(T.length:Int)):(E cD T).getD i.toNat []=[.sl 1 (E cC (tr T i))]:=by
 have F:i.toNat<T.length:=by omega
 rw[aW F];simp[cD,tr,List.getD,F]
theorem fM {T:List (List (List Int))}{i:Int} (h:0<=i∧i<(T.length:Int)):tr T i∈T:=by
 have F:i.toNat<T.length:=by omega
 rw[show tr T i=T[i.toNat] by simp[tr,List.getD,F]];exact Aa F
attribute [local go_sem] Int.reduceBEq Int.reduceBNe cO cFd aH Af Ag Ao Aq Ae Aj Ad Al Ac Ai Ap Av Am Ak AR BQ Vs.Name.t.injEq Vs.Name.b.injEq Ar AY in
theorem aGu (x:Stp) (hz:x.text.size<=1048576) (T:List (List (List Int))) (hs:∀d,d∈T->bO d) (hl:T.length<=1048576) (iA:0<=x.a∧x.a<(T.length:Int)) (iB:0<=x.b∧x.b<(T.length:Int)) (TV:List (List Tot)):Fz F.zG [.agg [.sl 1 (E cD T),.sl 1 (E cTs TV)],.agg (cS x)] (.tup [dkV x (tr T x.a) (tr T x.b),.v (.int .i64 (dkC x (tr T x.a) (tr T x.b)))]):=by
 have sa:=hs _ (fM iA);have sb:=hs _ (fM iB);have gA:=jE iA;have O:=jE iB;have a0:=iA.1;have a1:=iA.2;have b0:=iB.1;have b1:=iB.2;by_cases U:x.kind=1
 .have I:=aEd (tr T x.a) x.f0 x.f1 sa.2 sa.1;have H:dkC x (tr T x.a) (tr T x.b)=bL x.f0 x.f1 (tr T x.a):=by simp[dkC,U]
  have Z:dkL x (tr T x.a) (tr T x.b)=jH x.f0 x.f1 (tr T x.a):=by simp[dkL,U]
  have J:dkV x (tr T x.a) (tr T x.b)=u6 x.f0 x.f1 (tr T x.a):=by unfold dkV u6;rw[H,Z]
  have G:u6 x.f0 x.f1 (tr T x.a)=.sl 1 (E cC (jH x.f0 x.f1 (tr T x.a)))∨u6 x.f0 x.f1 (tr T x.a)=.v (.slice none 0 0):=by unfold u6;split<;>simp
  rw[J,H];generalize bL x.f0 x.f1 (tr T x.a)=c at *
  rcases G with G|G<;>rw[G] at I⊢
  all_goals
   refine fn0 Cd.i_deckOf_k λX=>?_
   repeat' first|simp -dsimp only[go_sem,U,gA,O,cS]|apply Br.mk<;>intro h<;>try simp -dsimp only[h]|refine aA.c (by first|exact I) ?_|refine aC ?_|refine aC9 ?_|fail
   all_goals first|omega|exact⟨_,_,rfl,rfl⟩
 by_cases h2:x.kind=2
 .have I:=aCA (tr T x.a) (tr T x.b) x.f0 x.f1 sa sb;have H:dkC x (tr T x.a) (tr T x.b)=mgC x.f0 x.f1 (tr T x.a) (tr T x.b):=by simp[dkC,h2]
  have Z:dkL x (tr T x.a) (tr T x.b)=jH x.f0 x.f1 (tr T x.a++tr T x.b):=by simp[dkL,h2]
  have J:dkV x (tr T x.a) (tr T x.b)=mgV x.f0 x.f1 (tr T x.a) (tr T x.b):=by unfold dkV mgV;rw[H,Z]
  have G:mgV x.f0 x.f1 (tr T x.a) (tr T x.b)=.sl 1 (E cC (jH x.f0 x.f1 (tr T x.a++tr T x.b)))∨mgV x.f0 x.f1 (tr T x.a) (tr T x.b)=.v (.slice none 0 0):=by unfold mgV;split<;>simp
  rw[J,H];generalize mgC x.f0 x.f1 (tr T x.a) (tr T x.b)=c at *
  rcases G with G|G<;>rw[G] at I⊢
  all_goals
   refine fn0 Cd.i_deckOf_k λX=>?_
   repeat' first|simp -dsimp only[go_sem,h2,gA,O,cS]|apply Br.mk<;>intro h<;>try simp -dsimp only[h]|refine aA.c (by first|exact I) ?_|refine aC ?_|refine aC9 ?_|fail
   all_goals first|omega|exact⟨_,_,rfl,rfl⟩
 by_cases V:x.kind=5
 .have I:=aBU (tr T x.a) x.f0 x.f1 x.text sa hz;have H:dkC x (tr T x.a) (tr T x.b)=oC x.f0 x.f1 x.text (tr T x.a):=by simp[dkC,V]
  have Z:dkL x (tr T x.a) (tr T x.b)=flt (kQ x.f0 x.f1 x.text) (tr T x.a):=by simp[dkL,V]
  have J:dkV x (tr T x.a) (tr T x.b)=rR x.f0 x.f1 x.text (tr T x.a):=by unfold dkV rR;rw[H,Z]
  have G:rR x.f0 x.f1 x.text (tr T x.a)=.sl 1 (E cC (flt (kQ x.f0 x.f1 x.text) (tr T x.a)))∨rR x.f0 x.f1 x.text (tr T x.a)=.v (.slice none 0 0):=by unfold rR;split<;>simp
  rw[J,H];generalize oC x.f0 x.f1 x.text (tr T x.a)=c at *
  rcases G with G|G<;>rw[G] at I⊢
  all_goals
   refine fn0 Cd.i_deckOf_k λX=>?_
   repeat' first|simp -dsimp only[go_sem,V,gA,O,cS]|apply Br.mk<;>intro h<;>try simp -dsimp only[h]|refine aA.c (by first|exact I) ?_|refine aC ?_|refine aC9 ?_|fail
   all_goals first|omega|exact⟨_,_,rfl,rfl⟩
 by_cases Y:x.kind=6
 .have I:=aAG (tr T x.a) x.f0 x.f1 sa;have H:dkC x (tr T x.a) (tr T x.b)=bL x.f0 x.f1 (tr T x.a):=by simp[dkC,Y]
  have Z:dkL x (tr T x.a) (tr T x.b)=xN x.f0 x.f1 (tr T x.a):=by simp[dkL,Y]
  have J:dkV x (tr T x.a) (tr T x.b)=wL x.f0 x.f1 (tr T x.a):=by unfold dkV wL;rw[H,Z]
  have G:wL x.f0 x.f1 (tr T x.a)=.sl 1 (E cC (xN x.f0 x.f1 (tr T x.a)))∨wL x.f0 x.f1 (tr T x.a)=.v (.slice none 0 0):=by unfold wL;split<;>simp
  rw[J,H];generalize bL x.f0 x.f1 (tr T x.a)=c at *
  rcases G with G|G<;>rw[G] at I⊢
  all_goals
   refine fn0 Cd.i_deckOf_k λX=>?_
   repeat' first|simp -dsimp only[go_sem,Y,gA,O,cS]|apply Br.mk<;>intro h<;>try simp -dsimp only[h]|refine aA.c (by first|exact I) ?_|refine aC ?_|refine aC9 ?_|fail
   all_goals first|omega|exact⟨_,_,rfl,rfl⟩
 have H:dkC x (tr T x.a) (tr T x.b)=mtC x.f0 x.f1 (tr T x.a) (tr T x.b):=by simp[dkC,U,h2,V,Y]
 have e1:(x.kind==1)=false:=AB.2 U;have e2:(x.kind==2)=false:=AB.2 h2;have e5:(x.kind==5)=false:=AB.2 V;have e6:(x.kind==6)=false:=AB.2 Y;have I:=aCB (tr T x.a) (tr T x.b) x.f0 x.f1 sa sb;by_cases M:mtC x.f0 x.f1 (tr T x.a) (tr T x.b)=0
 .rw[show mtV x.f0 x.f1 (tr T x.a) (tr T x.b)=.sl 1 (E cD (mtL x.f0 x.f1 (tr T x.a) (tr T x.b))) by simp[mtV,M],M] at I;have ha:(mtL x.f0 x.f1 (tr T x.a) (tr T x.b)).length=4:=rfl;have m0:(E cD (mtL x.f0 x.f1 (tr T x.a) (tr T x.b))).getD 0 []=[.sl 1 (E cC (mat x.f0 x.f1 (tr T x.a) (tr T x.b) true))]:=rfl;have m2:(E cD (mtL x.f0 x.f1 (tr T x.a) (tr T x.b))).getD 2 []=[.sl 1 (E cC (mat x.f0 x.f1 (tr T x.a) (tr T x.b) false))]:=rfl;generalize mtL x.f0 x.f1 (tr T x.a) (tr T x.b)=ML at *
  by_cases h3:x.kind=3
  .have e3:(x.kind==3)=true:=BO.2 h3;have J:dkV x (tr T x.a) (tr T x.b)=.sl 1 (E cC (mat x.f0 x.f1 (tr T x.a) (tr T x.b) true)):=by unfold dkV;rw[H,M];simp[dkL,U,h2,V,Y,h3]
   rw[J,H,M];refine fn0 Cd.i_deckOf_k λX=>?_
   repeat' first|simp -dsimp only[go_sem,e1,e2,e5,e6,e3,gA,O,m0,m2,ha,cS]|apply Br.mk<;>intro h<;>try simp -dsimp only[h]|refine aA.c (by first|exact I) ?_|refine aC ?_|refine aC9 ?_|fail
   all_goals first|omega|exact⟨_,_,rfl,rfl⟩
  .have e3:(x.kind==3)=false:=AB.2 h3;have J:dkV x (tr T x.a) (tr T x.b)=.sl 1 (E cC (mat x.f0 x.f1 (tr T x.a) (tr T x.b) false)):=by unfold dkV;rw[H,M];simp[dkL,U,h2,V,Y,h3]
   rw[J,H,M];refine fn0 Cd.i_deckOf_k λX=>?_
   repeat' first|simp -dsimp only[go_sem,e1,e2,e5,e6,e3,gA,O,m0,m2,ha,cS]|apply Br.mk<;>intro h<;>try simp -dsimp only[h]|refine aA.c (by first|exact I) ?_|refine aC ?_|refine aC9 ?_|fail
   all_goals first|omega|exact⟨_,_,rfl,rfl⟩
 .have e0:(mtC x.f0 x.f1 (tr T x.a) (tr T x.b) != 0)=true:=by simp[M]
  rw[show mtV x.f0 x.f1 (tr T x.a) (tr T x.b)=.v (.slice none 0 0) by simp[mtV,M]] at I;have J:dkV x (tr T x.a) (tr T x.b)=.v (.slice none 0 0):=by unfold dkV;rw[H,AC M]
  rw[J,H];generalize mtC x.f0 x.f1 (tr T x.a) (tr T x.b)=c at *
  refine fn0 Cd.i_deckOf_k λX=>?_
  repeat' first|simp -dsimp only[go_sem,e1,e2,e5,e6,e0,gA,O,cS]|apply Br.mk<;>intro h<;>try simp -dsimp only[h]|refine aA.c (by first|exact I) ?_|refine aC ?_|refine aC9 ?_|fail
  all_goals first|omega|exact⟨_,_,rfl,rfl⟩
end
end Go.Proofs.YtklmdppgonhflaaGreatDoor
