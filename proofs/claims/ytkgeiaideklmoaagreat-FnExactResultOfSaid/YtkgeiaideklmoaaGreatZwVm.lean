/- The deck that arises by a step: the program and the reference. -/
import Derived.Test.YtkgeiaideklmoaaGreatZwVg
import Derived.Test.YtkgeiaideklmoaaGreatZwVh
import Derived.Test.YtkgeiaideklmoaaGreatZwSq
import Derived.Test.YtkgeiaideklmoaaGreatZwMd
import Derived.Test.YtkgeiaideklmoaaGreatZwVl
set_option linter.all false
set_option maxHeartbeats 8000000
namespace Go.Proofs.YtkgeiaideklmoaaGreat
open Go.Vs
variable [Vs.Envs]
attribute [local irreducible] Vs.Fn aX mgC fI mtC eH flt gY mY mat chOK areCh chTo chAt l03 chB rk cd3 chI stp stpTo
def tr (T:List (List (List Int))) (i:Int):List (List Int):=T.getD i.toNat []
def dkC (x:Stp) (a b:List (List Int)):Int:=if x.kind=1 then aX x.f0 x.f1 a else if x.kind=2 then mgC x.f0 x.f1 a b else if x.kind=5 then fI x.f0 x.f1 x.text a else if x.kind=6 then aX x.f0 x.f1 a else mtC x.f0 x.f1 a b
def dkL (x:Stp) (a b:List (List Int)):List (List Int):=if x.kind=1 then eH x.f0 x.f1 a else if x.kind=2 then eH x.f0 x.f1 (a++b) else if x.kind=5 then flt (gY x.f0 x.f1 x.text) a else if x.kind=6 then mY x.f0 x.f1 a else if x.kind=3 then mat x.f0 x.f1 a b true else mat x.f0 x.f1 a b false
def dkV (x:Stp) (a b:List (List Int)):AV:=if dkC x a b=0 then .sl 1 (E cC (dkL x a b)) else .v (.slice none 0 0)
theorem gW {T:List (List (List Int))}{i:Int} (h:0≤i∧i<(T.length:Int)):(E cD T).getD i.toNat []=[.sl 1 (E cC (tr T i))]:=by
 have F:i.toNat<T.length:=by omega
 rw[aS F];simp[cD,tr,List.getD,F]
theorem fK {T:List (List (List Int))}{i:Int} (h:0≤i∧i<(T.length:Int)):tr T i∈T:=by
 have F:i.toNat<T.length:=by omega
 rw[show tr T i=T[i.toNat] by simp[tr,List.getD,F]];exact List.getElem_mem F
attribute [local go_sem] Int.reduceBEq Int.reduceBNe cO cFd aI List.replicate_succ List.replicate_zero List.flatten_cons List.flatten_nil List.cons_append List.nil_append List.set_cons_zero List.set_cons_succ List.length_cons List.length_nil List.length_set List.mem_singleton List.mem_cons List.not_mem_nil or_false false_or Vs.Name.t.injEq Vs.Name.b.injEq List.getD_cons_zero List.getD_cons_succ in
theorem aA3 (x:Stp) (hz:x.text.size≤1048576) (T:List (List (List Int))) (hs:∀d,d∈T→aU d) (hl:T.length≤1048576) (iA:0≤x.a∧x.a<(T.length:Int)) (iB:0≤x.b∧x.b<(T.length:Int)) (TV:List (List Tot)):Fz F.wP [.agg [.sl 1 (E cD T),.sl 1 (E cTs TV)],.agg (cS x)] (.tup [dkV x (tr T x.a) (tr T x.b),.v (.int .i64 (dkC x (tr T x.a) (tr T x.b)))]):=by
 have sa:=hs _ (fK iA);have sb:=hs _ (fK iB);have gA:=gW iA;have M:=gW iB;have a0:=iA.1;have a1:=iA.2;have b0:=iB.1;have b1:=iB.2;by_cases O:x.kind=1
 ·have I:=aCw (tr T x.a) x.f0 x.f1 sa.2 sa.1;have H:dkC x (tr T x.a) (tr T x.b)=aX x.f0 x.f1 (tr T x.a):=by simp[dkC,O]
  have hL:dkL x (tr T x.a) (tr T x.b)=eH x.f0 x.f1 (tr T x.a):=by simp[dkL,O]
  have J:dkV x (tr T x.a) (tr T x.b)=oZ x.f0 x.f1 (tr T x.a):=by unfold dkV oZ;rw[H,hL]
  have G:oZ x.f0 x.f1 (tr T x.a)=.sl 1 (E cC (eH x.f0 x.f1 (tr T x.a)))∨oZ x.f0 x.f1 (tr T x.a)=.v (.slice none 0 0):=by unfold oZ;split<;>simp
  rw[J,H];generalize aX x.f0 x.f1 (tr T x.a)=c at *
  rcases G with G|G<;>rw[G] at I⊢
  all_goals
   refine fn0 Cd.i_deckOf_k fun X=>?_
   repeat' first|simp -dsimp only[go_sem,O,gA,M,cS]|apply Br.mk<;>intro h<;>try simp -dsimp only[h]|refine aD.c (by first|exact I) ?_|refine aC ?_|fail
   all_goals first|omega|exact⟨_,_,rfl,rfl⟩
 by_cases h2:x.kind=2
 ·have I:=aBe (tr T x.a) (tr T x.b) x.f0 x.f1 sa sb;have H:dkC x (tr T x.a) (tr T x.b)=mgC x.f0 x.f1 (tr T x.a) (tr T x.b):=by simp[dkC,h2]
  have hL:dkL x (tr T x.a) (tr T x.b)=eH x.f0 x.f1 (tr T x.a++tr T x.b):=by simp[dkL,h2]
  have J:dkV x (tr T x.a) (tr T x.b)=mgV x.f0 x.f1 (tr T x.a) (tr T x.b):=by unfold dkV mgV;rw[H,hL]
  have G:mgV x.f0 x.f1 (tr T x.a) (tr T x.b)=.sl 1 (E cC (eH x.f0 x.f1 (tr T x.a++tr T x.b)))∨mgV x.f0 x.f1 (tr T x.a) (tr T x.b)=.v (.slice none 0 0):=by unfold mgV;split<;>simp
  rw[J,H];generalize mgC x.f0 x.f1 (tr T x.a) (tr T x.b)=c at *
  rcases G with G|G<;>rw[G] at I⊢
  all_goals
   refine fn0 Cd.i_deckOf_k fun X=>?_
   repeat' first|simp -dsimp only[go_sem,h2,gA,M,cS]|apply Br.mk<;>intro h<;>try simp -dsimp only[h]|refine aD.c (by first|exact I) ?_|refine aC ?_|fail
   all_goals first|omega|exact⟨_,_,rfl,rfl⟩
 by_cases U:x.kind=5
 ·have I:=aAH (tr T x.a) x.f0 x.f1 x.text sa hz;have H:dkC x (tr T x.a) (tr T x.b)=fI x.f0 x.f1 x.text (tr T x.a):=by simp[dkC,U]
  have hL:dkL x (tr T x.a) (tr T x.b)=flt (gY x.f0 x.f1 x.text) (tr T x.a):=by simp[dkL,U]
  have J:dkV x (tr T x.a) (tr T x.b)=l8 x.f0 x.f1 x.text (tr T x.a):=by unfold dkV l8;rw[H,hL]
  have G:l8 x.f0 x.f1 x.text (tr T x.a)=.sl 1 (E cC (flt (gY x.f0 x.f1 x.text) (tr T x.a)))∨l8 x.f0 x.f1 x.text (tr T x.a)=.v (.slice none 0 0):=by unfold l8;split<;>simp
  rw[J,H];generalize fI x.f0 x.f1 x.text (tr T x.a)=c at *
  rcases G with G|G<;>rw[G] at I⊢
  all_goals
   refine fn0 Cd.i_deckOf_k fun X=>?_
   repeat' first|simp -dsimp only[go_sem,U,gA,M,cS]|apply Br.mk<;>intro h<;>try simp -dsimp only[h]|refine aD.c (by first|exact I) ?_|refine aC ?_|fail
   all_goals first|omega|exact⟨_,_,rfl,rfl⟩
 by_cases Y:x.kind=6
 ·have I:=yP (tr T x.a) x.f0 x.f1 sa;have H:dkC x (tr T x.a) (tr T x.b)=aX x.f0 x.f1 (tr T x.a):=by simp[dkC,Y]
  have hL:dkL x (tr T x.a) (tr T x.b)=mY x.f0 x.f1 (tr T x.a):=by simp[dkL,Y]
  have J:dkV x (tr T x.a) (tr T x.b)=pI x.f0 x.f1 (tr T x.a):=by unfold dkV pI;rw[H,hL]
  have G:pI x.f0 x.f1 (tr T x.a)=.sl 1 (E cC (mY x.f0 x.f1 (tr T x.a)))∨pI x.f0 x.f1 (tr T x.a)=.v (.slice none 0 0):=by unfold pI;split<;>simp
  rw[J,H];generalize aX x.f0 x.f1 (tr T x.a)=c at *
  rcases G with G|G<;>rw[G] at I⊢
  all_goals
   refine fn0 Cd.i_deckOf_k fun X=>?_
   repeat' first|simp -dsimp only[go_sem,Y,gA,M,cS]|apply Br.mk<;>intro h<;>try simp -dsimp only[h]|refine aD.c (by first|exact I) ?_|refine aC ?_|fail
   all_goals first|omega|exact⟨_,_,rfl,rfl⟩
 have H:dkC x (tr T x.a) (tr T x.b)=mtC x.f0 x.f1 (tr T x.a) (tr T x.b):=by simp[dkC,O,h2,U,Y]
 have e1:(x.kind==1)=false:=beq_eq_false_iff_ne.2 O;have e2:(x.kind==2)=false:=beq_eq_false_iff_ne.2 h2;have e5:(x.kind==5)=false:=beq_eq_false_iff_ne.2 U;have e6:(x.kind==6)=false:=beq_eq_false_iff_ne.2 Y;have I:=aBf (tr T x.a) (tr T x.b) x.f0 x.f1 sa sb;by_cases L:mtC x.f0 x.f1 (tr T x.a) (tr T x.b)=0
 ·rw[show mtV x.f0 x.f1 (tr T x.a) (tr T x.b)=.sl 1 (E cD (mtL x.f0 x.f1 (tr T x.a) (tr T x.b))) by simp[mtV,L],L] at I;have ha:(mtL x.f0 x.f1 (tr T x.a) (tr T x.b)).length=4:=rfl;have m0:(E cD (mtL x.f0 x.f1 (tr T x.a) (tr T x.b))).getD 0 []=[.sl 1 (E cC (mat x.f0 x.f1 (tr T x.a) (tr T x.b) true))]:=rfl;have m2:(E cD (mtL x.f0 x.f1 (tr T x.a) (tr T x.b))).getD 2 []=[.sl 1 (E cC (mat x.f0 x.f1 (tr T x.a) (tr T x.b) false))]:=rfl;generalize mtL x.f0 x.f1 (tr T x.a) (tr T x.b)=ML at *
  by_cases h3:x.kind=3
  ·have e3:(x.kind==3)=true:=beq_iff_eq.2 h3;have J:dkV x (tr T x.a) (tr T x.b)=.sl 1 (E cC (mat x.f0 x.f1 (tr T x.a) (tr T x.b) true)):=by unfold dkV;rw[H,L];simp[dkL,O,h2,U,Y,h3]
   rw[J,H,L];refine fn0 Cd.i_deckOf_k fun X=>?_
   repeat' first|simp -dsimp only[go_sem,e1,e2,e5,e6,e3,gA,M,m0,m2,ha,cS]|apply Br.mk<;>intro h<;>try simp -dsimp only[h]|refine aD.c (by first|exact I) ?_|refine aC ?_|fail
   all_goals first|omega|exact⟨_,_,rfl,rfl⟩
  ·have e3:(x.kind==3)=false:=beq_eq_false_iff_ne.2 h3;have J:dkV x (tr T x.a) (tr T x.b)=.sl 1 (E cC (mat x.f0 x.f1 (tr T x.a) (tr T x.b) false)):=by unfold dkV;rw[H,L];simp[dkL,O,h2,U,Y,h3]
   rw[J,H,L];refine fn0 Cd.i_deckOf_k fun X=>?_
   repeat' first|simp -dsimp only[go_sem,e1,e2,e5,e6,e3,gA,M,m0,m2,ha,cS]|apply Br.mk<;>intro h<;>try simp -dsimp only[h]|refine aD.c (by first|exact I) ?_|refine aC ?_|fail
   all_goals first|omega|exact⟨_,_,rfl,rfl⟩
 ·have e0:(mtC x.f0 x.f1 (tr T x.a) (tr T x.b) != 0)=true:=by simp[L]
  rw[show mtV x.f0 x.f1 (tr T x.a) (tr T x.b)=.v (.slice none 0 0) by simp[mtV,L]] at I;have J:dkV x (tr T x.a) (tr T x.b)=.v (.slice none 0 0):=by unfold dkV;rw[H,if_neg L]
  rw[J,H];generalize mtC x.f0 x.f1 (tr T x.a) (tr T x.b)=c at *
  refine fn0 Cd.i_deckOf_k fun X=>?_
  repeat' first|simp -dsimp only[go_sem,e1,e2,e5,e6,e0,gA,M,cS]|apply Br.mk<;>intro h<;>try simp -dsimp only[h]|refine aD.c (by first|exact I) ?_|refine aC ?_|fail
  all_goals first|omega|exact⟨_,_,rfl,rfl⟩
end Go.Proofs.YtkgeiaideklmoaaGreat
