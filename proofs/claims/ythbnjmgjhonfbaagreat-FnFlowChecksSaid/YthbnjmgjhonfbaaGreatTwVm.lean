/- The deck that arises by a step: the program and the reference. -/
import Derived.Test.YthbnjmgjhonfbaaGreatTwD
import Derived.Test.YthbnjmgjhonfbaaGreatTwVf
import Derived.Test.YthbnjmgjhonfbaaGreatVtT
import Derived.Test.YthbnjmgjhonfbaaGreatTuS
import Derived.Test.YthbnjmgjhonfbaaGreatTwVh
import Derived.Test.YthbnjmgjhonfbaaGreatTwVi
import Derived.Test.YthbnjmgjhonfbaaGreatTwSq
set_option linter.all false
set_option maxHeartbeats 8000000
namespace Go.Proofs.YthbnjmgjhonfbaaGreat
open Go.Vs
section
variable [Vs.Envs]
attribute [local irreducible] Vs.Fn cZ aW dB dC l03 chB rk cd3 chI stp aZ
attribute [local go_sem] Int.reduceBEq Int.reduceBNe cO cTs cD aH List.replicate_succ List.replicate_zero List.flatten_cons List.flatten_nil List.cons_append List.nil_append List.set_cons_zero List.set_cons_succ List.length_cons List.length_nil List.length_set List.mem_singleton List.mem_cons List.not_mem_nil or_false false_or Vs.Name.t.injEq in
theorem aB6 (l:List (List Int)) (hk:bA l):Fz F.fZ [.sl 1 (E cC l)] (.sl 1 (E cC l)):=by
 refine fn0 Cd.i_newDeck_k fun X=>?_
 repeat' first|simp -dsimp only[go_sem,cC]|apply Br.mk<;>intro h<;>try simp -dsimp only[h]|refine aC ?_|fail
 refine aN.at dM (X:={zz:Nat×(Unit) // zz.1≤l.length∧True}) (fun zz=>[(3,.loc (.t 3 0) 0 zz.1.1),(9,.v (.int .i64 zz.1.1))]) (fun zz=>[(.t 3 0,.arr 1 (E cC (l.take zz.1.1)) false)]) (fun zz=>l.length-zz.1.1) ⟨(0,()),by omega,trivial⟩ ?_ ?_
 ·simp[Vs.LeL,Vs.look,Vs.aB,Vs.aP,Vs.aK,Vs.hset,Vs.aL,Vs.E]
 ·rintro⟨⟨i,_⟩,hi,hg⟩;dsimp only at hi hg;simp -dsimp only[go_sem,cC];refine Br.mk (fun hc=>?_) fun hc=>?_
  ·have hlt:i<l.length:=Dq;have hw:=aG hlt (hk.1);have hm:(E cC l).getD i []=[.sl 1 (E cI l[i])]:=aX hlt;have NC:=aAg l[i] (hk.2 _ (List.getElem_mem hlt));have hap:E cC (l.take i)++[[.sl 1 (E cI l[i])]]=E cC (l.take (i+1)):=by rw[bL hlt,aY];rfl
   have hal:(E cC (l.take i)).length=i:=by rw[aH];simp;omega
   have hl:=hk.1
   repeat' first|simp -dsimp only[go_sem,hm,hw,hap,hal,cC]|apply Br.mk<;>intro h<;>try simp -dsimp only[h]|refine aA.c (by first|exact NC) ?_|refine aC ?_|fail
   all_goals first|omega|(exact nx (i+1,()) trivial (h2:=by simp[Vs.LeL,Vs.look,Vs.aB,Vs.aP,Vs.aK,Vs.hset,Vs.aL,hap]))
  ·have hge:i=l.length:=by
    have:¬i<l.length:=Dq;omega
   subst hge;simp -dsimp only[go_sem,cC]
   have htk:(E cC (l.take l.length)).take l.length=E cC l:=by
    rw[List.take_of_length_le (Nat.le_refl l.length)];exact List.take_of_length_le (by rw[aH];exact Nat.le_refl _)
   first|exact⟨⟨_,_,rfl,rfl⟩,fun h=>h rfl⟩|(rw[htk];exact⟨⟨_,_,rfl,rfl⟩,fun h=>h rfl⟩)|(simp[htk];done)
theorem aJN {l:List (List (List Int))}{i:Nat} (h:i<l.length):(E cD l).getD i []=[.sl 1 (E cC l[i])]:=by rw[aX h];rfl
theorem aCB {l:List (List Tot)}{i:Nat} (h:i<l.length):(E cTs l).getD i []=[.sl 2 (E cT l[i])]:=by rw[aX h];rfl
theorem aEj {l:List (List (List Int))}{i:Nat} (h:i<l.length):E cD (l.take i)++[[.sl 1 (E cC l[i])]]=E cD (l.take (i+1)):=by rw[bL h,aY];rfl
theorem aEi {l:List (List Tot)}{i:Nat} (h:i<l.length):E cTs (l.take i)++[[.sl 2 (E cT l[i])]]=E cTs (l.take (i+1)):=by rw[bL h,aY];rfl
attribute [local go_sem] Int.reduceBEq Int.reduceBNe cC aH List.replicate_succ List.replicate_zero List.flatten_cons List.flatten_nil List.cons_append List.nil_append List.set_cons_zero List.set_cons_succ List.length_cons List.length_nil List.length_set List.mem_singleton List.mem_cons List.not_mem_nil or_false false_or Vs.Name.t.injEq in
theorem aHy (o:Off) (ho:yS o):Vs.Fn Tryz.prog F.iC [] [.agg (cO o)] (.agg [.loc (.b 0) 0 o.trays.length,.loc (.b 1) 0 o.totals.length]) [some (.arr 1 (E cD o.trays) false),some (.arr 1 (E cTs o.totals) false)]:=by
 have hn:=ho.1.1;have hm:=ho.2.1;refine fn1 Cd.i_newOffice_k [.t 8 0,.t 9 0] [.arr 1 (E cD o.trays) false,.arr 1 (E cTs o.totals) false] fun X=>?_;unfold Cd.iC
 repeat' first|simp -dsimp only[go_sem,cO,cTs,cD]|apply Br.mk<;>intro h<;>try simp -dsimp only[h]|refine aC ?_|fail
 refine aN.atR dM (X:={i:Nat // i≤o.trays.length}) (fun i=>[(14,.v (.int .i64 (i.1:Nat)))]) (fun i=>[(.t 3 0,.var [.loc (.t 8 0) 0 i.1,.loc (.t 9 0) 0 0] false),(.t 8 0,.arr 1 (E cD (o.trays.take i.1)) false)]) (fun i=>o.trays.length-i.1) ⟨0,by omega⟩ ?_ ?_
 ·simp[Vs.LeL,Vs.look,Vs.aB,Vs.aP,Vs.aK,Vs.hset,Vs.aL,Vs.E]
 ·rintro⟨i,hi⟩
  try dsimp only at hi
  try simp -dsimp only[go_sem,cO,cTs,cD]
  refine Br.mk (fun hc=>?_) fun hc=>?_
  ·have hlt:i<o.trays.length:=Dq;have hw:=aG hlt (by omega);have hat:=aJN hlt;have hrow:=aEj hlt;have hal:(E cD (o.trays.take i)).length=i:=by rw[aH];simp;omega
   have ND:=aB6 o.trays[i] (ho.1.2 _ (List.getElem_mem hlt))
   repeat' first|simp -dsimp only[go_sem,hw,hrow,hal,hat,cO,cTs,cD]|apply Br.mk<;>intro h<;>try simp -dsimp only[h]|refine aA.c (by first|exact ND) ?_|refine aC ?_|fail
   all_goals first|omega|(refine⟨⟨i+1,by omega⟩,.inr ⟨.t 23 0,.t 8 0,by decide,rfl,?_⟩,by simp only;omega⟩;simp[Vs.vB,Vs.nmF,Vs.rn,Vs.rnL,Vs.rnB,Vs.LeL,Vs.look,Vs.aB,Vs.aP,Vs.aK,Vs.hset,Vs.aL,hrow];done)
  ·have hge:i=o.trays.length:=by
    have:¬i<o.trays.length:=Dq;omega
   subst hge
   try simp -dsimp only[go_sem,cO,cTs,cD]
   refine⟨?_,fun h=>h rfl⟩
   repeat' first|simp -dsimp only[go_sem,cO,cTs,cD]|apply Br.mk<;>intro h<;>try simp -dsimp only[h]|refine aC ?_|fail
   refine aN.atR dM (X:={i:Nat // i≤o.totals.length}) (fun i=>[(29,.v (.int .i64 (i.1:Nat)))]) (fun i=>[(.t 3 0,.var [.loc (.t 8 0) 0 o.trays.length,.loc (.t 9 0) 0 i.1] false),(.t 9 0,.arr 1 (E cTs (o.totals.take i.1)) false)]) (fun i=>o.totals.length-i.1) ⟨0,by omega⟩ ?_ ?_
   ·simp[Vs.LeL,Vs.look,Vs.aB,Vs.aP,Vs.aK,Vs.hset,Vs.aL,Vs.E]
   ·rintro⟨i,hi⟩
    try dsimp only at hi
    try simp -dsimp only[go_sem,cO,cTs,cD]
    refine Br.mk (fun hc=>?_) fun hc=>?_
    ·have hlt:i<o.totals.length:=Dq;have hw:=aG hlt (by omega);have hat:=aCB hlt;have hrow:=aEi hlt;have hal:(E cTs (o.totals.take i)).length=i:=by rw[aH];simp;omega
     have hs:=(ho.2.2 _ (List.getElem_mem hlt)).1
     repeat' first|simp -dsimp only[go_sem,hw,hrow,hal,hat,cO,cTs,cD]|apply Br.mk<;>intro h<;>try simp -dsimp only[h]|refine aC ?_|fail
     all_goals first|omega|(refine⟨⟨i+1,by omega⟩,.inr ⟨.t 39 0,.t 9 0,by decide,rfl,?_⟩,by simp only;omega⟩;simp[Vs.vB,Vs.nmF,Vs.rn,Vs.rnL,Vs.rnB,Vs.LeL,Vs.look,Vs.aB,Vs.aP,Vs.aK,Vs.hset,Vs.aL,hrow];done)
    ·have hge:i=o.totals.length:=by
      have:¬i<o.totals.length:=Dq;omega
     subst hge
     try simp -dsimp only[go_sem,cO,cTs,cD]
     refine⟨?_,fun h=>h rfl⟩;have ht1:(E cD (o.trays.take o.trays.length))=E cD o.trays:=by rw[List.take_length]
     have ht2:(E cTs (o.totals.take o.totals.length))=E cTs o.totals:=by rw[List.take_length]
     repeat' first|simp -dsimp only[go_sem,ht1,ht2,cO,cTs,cD]|apply Br.mk<;>intro h<;>try simp -dsimp only[h]|refine aC ?_|fail
     all_goals first|omega|exact⟨_,_,rfl,rfl⟩
end
section
variable [Vs.Envs]
attribute [local irreducible] Vs.Fn bG mgC gF mtC bQ flt iI sZ mat cZ aW dB dC l03 chB rk cd3 chI stp aZ
def tr (T:List (List (List Int))) (i:Int):List (List Int):=T.getD i.toNat []
def dkC (x:Stp) (a b:List (List Int)):Int:=if x.kind=1 then bG x.f0 x.f1 a else if x.kind=2 then mgC x.f0 x.f1 a b else if x.kind=5 then gF x.f0 x.f1 x.text a else if x.kind=6 then bG x.f0 x.f1 a else mtC x.f0 x.f1 a b
def dkL (x:Stp) (a b:List (List Int)):List (List Int):=if x.kind=1 then bQ x.f0 x.f1 a else if x.kind=2 then bQ x.f0 x.f1 (a++b) else if x.kind=5 then flt (iI x.f0 x.f1 x.text) a else if x.kind=6 then sZ x.f0 x.f1 a else if x.kind=3 then mat x.f0 x.f1 a b true else mat x.f0 x.f1 a b false
def dkV (x:Stp) (a b:List (List Int)):AV:=if dkC x a b=0 then .sl 1 (E cC (dkL x a b)) else .v (.slice none 0 0)
theorem iO {T:List (List (List Int))}{i:Int} (h:0≤i∧i<(T.length:Int)):(E cD T).getD i.toNat []=[.sl 1 (E cC (tr T i))]:=by
 have hlt:i.toNat<T.length:=by omega
 rw[aX hlt];simp[cD,tr,List.getD,hlt]
theorem gN {T:List (List (List Int))}{i:Int} (h:0≤i∧i<(T.length:Int)):tr T i∈T:=by
 have hlt:i.toNat<T.length:=by omega
 rw[show tr T i=T[i.toNat] by simp[tr,List.getD,hlt]];exact List.getElem_mem hlt
attribute [local go_sem] Int.reduceBEq Int.reduceBNe cO cFd aH List.replicate_succ List.replicate_zero List.flatten_cons List.flatten_nil List.cons_append List.nil_append List.set_cons_zero List.set_cons_succ List.length_cons List.length_nil List.length_set List.mem_singleton List.mem_cons List.not_mem_nil or_false false_or Vs.Name.t.injEq Vs.Name.b.injEq List.getD_cons_zero List.getD_cons_succ in
theorem aE5 (x:Stp) (hz:x.text.size≤1048576) (T:List (List (List Int))) (hs:∀d,d∈T→bA d) (hl:T.length≤1048576) (iA:0≤x.a∧x.a<(T.length:Int)) (iB:0≤x.b∧x.b<(T.length:Int)) (TV:List (List Tot)):Fz F.xD [.agg [.sl 1 (E cD T),.sl 1 (E cTs TV)],.agg (cS x)] (.tup [dkV x (tr T x.a) (tr T x.b),.v (.int .i64 (dkC x (tr T x.a) (tr T x.b)))]):=by
 have sa:=hs _ (gN iA);have sb:=hs _ (gN iB);have gA:=iO iA;have gB:=iO iB;have a0:=iA.1;have a1:=iA.2;have b0:=iB.1;have b1:=iB.2;by_cases h1:x.kind=1
 ·have CT:=aCO (tr T x.a) x.f0 x.f1 sa.2 sa.1;have hC:dkC x (tr T x.a) (tr T x.b)=bG x.f0 x.f1 (tr T x.a):=by simp[dkC,h1]
  have hL:dkL x (tr T x.a) (tr T x.b)=bQ x.f0 x.f1 (tr T x.a):=by simp[dkL,h1]
  have hV:dkV x (tr T x.a) (tr T x.b)=mJ x.f0 x.f1 (tr T x.a):=by unfold dkV mJ;rw[hC,hL]
  have hv2:mJ x.f0 x.f1 (tr T x.a)=.sl 1 (E cC (bQ x.f0 x.f1 (tr T x.a)))∨mJ x.f0 x.f1 (tr T x.a)=.v (.slice none 0 0):=by unfold mJ;split<;>simp
  rw[hV,hC];generalize bG x.f0 x.f1 (tr T x.a)=c at *
  rcases hv2 with hv2|hv2<;>rw[hv2] at CT⊢
  all_goals
   refine fn0 Cd.i_deckOf_k fun X=>?_
   repeat' first|simp -dsimp only[go_sem,h1,gA,gB,cS]|apply Br.mk<;>intro h<;>try simp -dsimp only[h]|refine aA.c (by first|exact CT) ?_|refine aC ?_|fail
   all_goals first|omega|exact⟨_,_,rfl,rfl⟩
 by_cases h2:x.kind=2
 ·have CT:=aBs (tr T x.a) (tr T x.b) x.f0 x.f1 sa sb;have hC:dkC x (tr T x.a) (tr T x.b)=mgC x.f0 x.f1 (tr T x.a) (tr T x.b):=by simp[dkC,h2]
  have hL:dkL x (tr T x.a) (tr T x.b)=bQ x.f0 x.f1 (tr T x.a++tr T x.b):=by simp[dkL,h2]
  have hV:dkV x (tr T x.a) (tr T x.b)=mgV x.f0 x.f1 (tr T x.a) (tr T x.b):=by unfold dkV mgV;rw[hC,hL]
  have hv2:mgV x.f0 x.f1 (tr T x.a) (tr T x.b)=.sl 1 (E cC (bQ x.f0 x.f1 (tr T x.a++tr T x.b)))∨mgV x.f0 x.f1 (tr T x.a) (tr T x.b)=.v (.slice none 0 0):=by unfold mgV;split<;>simp
  rw[hV,hC];generalize mgC x.f0 x.f1 (tr T x.a) (tr T x.b)=c at *
  rcases hv2 with hv2|hv2<;>rw[hv2] at CT⊢
  all_goals
   refine fn0 Cd.i_deckOf_k fun X=>?_
   repeat' first|simp -dsimp only[go_sem,h2,gA,gB,cS]|apply Br.mk<;>intro h<;>try simp -dsimp only[h]|refine aA.c (by first|exact CT) ?_|refine aC ?_|fail
   all_goals first|omega|exact⟨_,_,rfl,rfl⟩
 by_cases h5:x.kind=5
 ·have CT:=uC (tr T x.a) x.f0 x.f1 x.text sa hz;have hC:dkC x (tr T x.a) (tr T x.b)=gF x.f0 x.f1 x.text (tr T x.a):=by simp[dkC,h5]
  have hL:dkL x (tr T x.a) (tr T x.b)=flt (iI x.f0 x.f1 x.text) (tr T x.a):=by simp[dkL,h5]
  have hV:dkV x (tr T x.a) (tr T x.b)=iZ x.f0 x.f1 x.text (tr T x.a):=by unfold dkV iZ;rw[hC,hL]
  have hv2:iZ x.f0 x.f1 x.text (tr T x.a)=.sl 1 (E cC (flt (iI x.f0 x.f1 x.text) (tr T x.a)))∨iZ x.f0 x.f1 x.text (tr T x.a)=.v (.slice none 0 0):=by unfold iZ;split<;>simp
  rw[hV,hC];generalize gF x.f0 x.f1 x.text (tr T x.a)=c at *
  rcases hv2 with hv2|hv2<;>rw[hv2] at CT⊢
  all_goals
   refine fn0 Cd.i_deckOf_k fun X=>?_
   repeat' first|simp -dsimp only[go_sem,h5,gA,gB,cS]|apply Br.mk<;>intro h<;>try simp -dsimp only[h]|refine aA.c (by first|exact CT) ?_|refine aC ?_|fail
   all_goals first|omega|exact⟨_,_,rfl,rfl⟩
 by_cases h6:x.kind=6
 ·have CT:=zD (tr T x.a) x.f0 x.f1 sa;have hC:dkC x (tr T x.a) (tr T x.b)=bG x.f0 x.f1 (tr T x.a):=by simp[dkC,h6]
  have hL:dkL x (tr T x.a) (tr T x.b)=sZ x.f0 x.f1 (tr T x.a):=by simp[dkL,h6]
  have hV:dkV x (tr T x.a) (tr T x.b)=pW x.f0 x.f1 (tr T x.a):=by unfold dkV pW;rw[hC,hL]
  have hv2:pW x.f0 x.f1 (tr T x.a)=.sl 1 (E cC (sZ x.f0 x.f1 (tr T x.a)))∨pW x.f0 x.f1 (tr T x.a)=.v (.slice none 0 0):=by unfold pW;split<;>simp
  rw[hV,hC];generalize bG x.f0 x.f1 (tr T x.a)=c at *
  rcases hv2 with hv2|hv2<;>rw[hv2] at CT⊢
  all_goals
   refine fn0 Cd.i_deckOf_k fun X=>?_
   repeat' first|simp -dsimp only[go_sem,h6,gA,gB,cS]|apply Br.mk<;>intro h<;>try simp -dsimp only[h]|refine aA.c (by first|exact CT) ?_|refine aC ?_|fail
   all_goals first|omega|exact⟨_,_,rfl,rfl⟩
 have hC:dkC x (tr T x.a) (tr T x.b)=mtC x.f0 x.f1 (tr T x.a) (tr T x.b):=by simp[dkC,h1,h2,h5,h6]
 have e1:(x.kind==1)=false:=beq_eq_false_iff_ne.2 h1;have e2:(x.kind==2)=false:=beq_eq_false_iff_ne.2 h2;have e5:(x.kind==5)=false:=beq_eq_false_iff_ne.2 h5;have e6:(x.kind==6)=false:=beq_eq_false_iff_ne.2 h6;have CT:=aBt (tr T x.a) (tr T x.b) x.f0 x.f1 sa sb;by_cases h0:mtC x.f0 x.f1 (tr T x.a) (tr T x.b)=0
 ·rw[show mtV x.f0 x.f1 (tr T x.a) (tr T x.b)=.sl 1 (E cD (mtL x.f0 x.f1 (tr T x.a) (tr T x.b))) by simp[mtV,h0],h0] at CT;have hl4:(mtL x.f0 x.f1 (tr T x.a) (tr T x.b)).length=4:=rfl;have m0:(E cD (mtL x.f0 x.f1 (tr T x.a) (tr T x.b))).getD 0 []=[.sl 1 (E cC (mat x.f0 x.f1 (tr T x.a) (tr T x.b) true))]:=rfl;have m2:(E cD (mtL x.f0 x.f1 (tr T x.a) (tr T x.b))).getD 2 []=[.sl 1 (E cC (mat x.f0 x.f1 (tr T x.a) (tr T x.b) false))]:=rfl;generalize mtL x.f0 x.f1 (tr T x.a) (tr T x.b)=ML at *
  by_cases h3:x.kind=3
  ·have e3:(x.kind==3)=true:=beq_iff_eq.2 h3;have hV:dkV x (tr T x.a) (tr T x.b)=.sl 1 (E cC (mat x.f0 x.f1 (tr T x.a) (tr T x.b) true)):=by unfold dkV;rw[hC,h0];simp[dkL,h1,h2,h5,h6,h3]
   rw[hV,hC,h0];refine fn0 Cd.i_deckOf_k fun X=>?_
   repeat' first|simp -dsimp only[go_sem,e1,e2,e5,e6,e3,gA,gB,m0,m2,hl4,cS]|apply Br.mk<;>intro h<;>try simp -dsimp only[h]|refine aA.c (by first|exact CT) ?_|refine aC ?_|fail
   all_goals first|omega|exact⟨_,_,rfl,rfl⟩
  ·have e3:(x.kind==3)=false:=beq_eq_false_iff_ne.2 h3;have hV:dkV x (tr T x.a) (tr T x.b)=.sl 1 (E cC (mat x.f0 x.f1 (tr T x.a) (tr T x.b) false)):=by unfold dkV;rw[hC,h0];simp[dkL,h1,h2,h5,h6,h3]
   rw[hV,hC,h0];refine fn0 Cd.i_deckOf_k fun X=>?_
   repeat' first|simp -dsimp only[go_sem,e1,e2,e5,e6,e3,gA,gB,m0,m2,hl4,cS]|apply Br.mk<;>intro h<;>try simp -dsimp only[h]|refine aA.c (by first|exact CT) ?_|refine aC ?_|fail
   all_goals first|omega|exact⟨_,_,rfl,rfl⟩
 ·have e0:(mtC x.f0 x.f1 (tr T x.a) (tr T x.b) != 0)=true:=by simp[h0]
  rw[show mtV x.f0 x.f1 (tr T x.a) (tr T x.b)=.v (.slice none 0 0) by simp[mtV,h0]] at CT;have hV:dkV x (tr T x.a) (tr T x.b)=.v (.slice none 0 0):=by unfold dkV;rw[hC,if_neg h0]
  rw[hV,hC];generalize mtC x.f0 x.f1 (tr T x.a) (tr T x.b)=c at *
  refine fn0 Cd.i_deckOf_k fun X=>?_
  repeat' first|simp -dsimp only[go_sem,e1,e2,e5,e6,e0,gA,gB,cS]|apply Br.mk<;>intro h<;>try simp -dsimp only[h]|refine aA.c (by first|exact CT) ?_|refine aC ?_|fail
  all_goals first|omega|exact⟨_,_,rfl,rfl⟩
end
end Go.Proofs.YthbnjmgjhonfbaaGreat
