/- A flow run by the program. -/
import Derived.Test.YtkgeiaideklmoaaGreatZwVm
import Derived.Test.YtkgeiaideklmoaaGreatZwVl
import Derived.Test.YtkgeiaideklmoaaGreatZwVq
set_option linter.all false
set_option maxHeartbeats 8000000
namespace Go.Proofs.YtkgeiaideklmoaaGreat
open Go.Vs
section
variable [Vs.Envs]
attribute [local irreducible] Vs.Fn aX mgC fI mtC eH flt gY mY mat chOK areCh chTo chAt l03 chB rk cd3 chI stp stpTo
attribute [local go_sem] Int.reduceBEq Int.reduceBNe cO cFd aI List.replicate_succ List.replicate_zero List.flatten_cons List.flatten_nil List.cons_append List.nil_append List.set_cons_zero List.set_cons_succ List.length_cons List.length_nil List.length_set List.mem_singleton List.mem_cons List.not_mem_nil or_false false_or Vs.Name.t.injEq Vs.Name.b.injEq List.getD_cons_zero List.getD_cons_succ in
theorem aEI (x:Stp) (hz:x.text.size≤1048576) (T:List (List (List Int))) (hs:∀d,d∈T→aU d) (hl:T.length≤1048576) (iA:0≤x.a∧x.a<(T.length:Int)) (iB:0≤x.b∧x.b<(T.length:Int)):Vs.Fn Tryz.prog F.bU [.var [.loc (.b 1) 0 T.length,.v (.slice none 0 0)] false,.arr 1 (E cD T) false] [.ptr (.b 0) 0 0,.ro (cS x)] (.tup [dkV x (tr T x.a) (tr T x.b),.v (.int .i64 (dkC x (tr T x.a) (tr T x.b)))]) ([.var [.loc (.b 1) 0 T.length,.v (.slice none 0 0)] false,.arr 1 (E cD T) false].map some):=by
 have sa:=hs _ (fK iA);have sb:=hs _ (fK iB);have gA:=gW iA;have M:=gW iB;have a0:=iA.1;have a1:=iA.2;have b0:=iB.1;have b1:=iB.2;by_cases O:x.kind=1
 ·have I:=yA (tr T x.a) x.f0 x.f1 sa.2 sa.1;have H:dkC x (tr T x.a) (tr T x.b)=aX x.f0 x.f1 (tr T x.a):=by simp[dkC,O]
  have hL:dkL x (tr T x.a) (tr T x.b)=eH x.f0 x.f1 (tr T x.a):=by simp[dkL,O]
  have J:dkV x (tr T x.a) (tr T x.b)=oZ x.f0 x.f1 (tr T x.a):=by unfold dkV oZ;rw[H,hL]
  have G:oZ x.f0 x.f1 (tr T x.a)=.sl 1 (E cC (eH x.f0 x.f1 (tr T x.a)))∨oZ x.f0 x.f1 (tr T x.a)=.v (.slice none 0 0):=by unfold oZ;split<;>simp
  rw[J,H];generalize aX x.f0 x.f1 (tr T x.a)=c at *
  rcases G with G|G<;>rw[G] at I⊢
  all_goals
   refine fn1 Cd.s_l15Make_k [.b 0,.b 1] [.var [.loc (.b 1) 0 T.length,.v (.slice none 0 0)] false,.arr 1 (E cD T) false] fun X=>?_;unfold Cd.bU
   repeat' first|simp -dsimp only[go_sem,O,gA,M,cS]|apply Br.mk<;>intro h<;>try simp -dsimp only[h]|refine aD.c (by first|exact I) ?_|refine aC ?_|fail
   all_goals first|omega|exact⟨_,_,rfl,rfl⟩
 by_cases h2:x.kind=2
 ·have I:=vG (tr T x.a) (tr T x.b) x.f0 x.f1 sa sb;have H:dkC x (tr T x.a) (tr T x.b)=mgC x.f0 x.f1 (tr T x.a) (tr T x.b):=by simp[dkC,h2]
  have hL:dkL x (tr T x.a) (tr T x.b)=eH x.f0 x.f1 (tr T x.a++tr T x.b):=by simp[dkL,h2]
  have J:dkV x (tr T x.a) (tr T x.b)=mgV x.f0 x.f1 (tr T x.a) (tr T x.b):=by unfold dkV mgV;rw[H,hL]
  have G:mgV x.f0 x.f1 (tr T x.a) (tr T x.b)=.sl 1 (E cC (eH x.f0 x.f1 (tr T x.a++tr T x.b)))∨mgV x.f0 x.f1 (tr T x.a) (tr T x.b)=.v (.slice none 0 0):=by unfold mgV;split<;>simp
  rw[J,H];generalize mgC x.f0 x.f1 (tr T x.a) (tr T x.b)=c at *
  rcases G with G|G<;>rw[G] at I⊢
  all_goals
   refine fn1 Cd.s_l15Make_k [.b 0,.b 1] [.var [.loc (.b 1) 0 T.length,.v (.slice none 0 0)] false,.arr 1 (E cD T) false] fun X=>?_;unfold Cd.bU
   repeat' first|simp -dsimp only[go_sem,h2,gA,M,cS]|apply Br.mk<;>intro h<;>try simp -dsimp only[h]|refine aD.c (by first|exact I) ?_|refine aC ?_|fail
   all_goals first|omega|exact⟨_,_,rfl,rfl⟩
 by_cases U:x.kind=5
 ·have I:=sN (tr T x.a) x.f0 x.f1 x.text sa hz;have H:dkC x (tr T x.a) (tr T x.b)=fI x.f0 x.f1 x.text (tr T x.a):=by simp[dkC,U]
  have hL:dkL x (tr T x.a) (tr T x.b)=flt (gY x.f0 x.f1 x.text) (tr T x.a):=by simp[dkL,U]
  have J:dkV x (tr T x.a) (tr T x.b)=l8 x.f0 x.f1 x.text (tr T x.a):=by unfold dkV l8;rw[H,hL]
  have G:l8 x.f0 x.f1 x.text (tr T x.a)=.sl 1 (E cC (flt (gY x.f0 x.f1 x.text) (tr T x.a)))∨l8 x.f0 x.f1 x.text (tr T x.a)=.v (.slice none 0 0):=by unfold l8;split<;>simp
  rw[J,H];generalize fI x.f0 x.f1 x.text (tr T x.a)=c at *
  rcases G with G|G<;>rw[G] at I⊢
  all_goals
   refine fn1 Cd.s_l15Make_k [.b 0,.b 1] [.var [.loc (.b 1) 0 T.length,.v (.slice none 0 0)] false,.arr 1 (E cD T) false] fun X=>?_;unfold Cd.bU
   repeat' first|simp -dsimp only[go_sem,U,gA,M,cS]|apply Br.mk<;>intro h<;>try simp -dsimp only[h]|refine aD.c (by first|exact I) ?_|refine aC ?_|fail
   all_goals first|omega|exact⟨_,_,rfl,rfl⟩
 by_cases Y:x.kind=6
 ·have I:=qH (tr T x.a) x.f0 x.f1 sa;have H:dkC x (tr T x.a) (tr T x.b)=aX x.f0 x.f1 (tr T x.a):=by simp[dkC,Y]
  have hL:dkL x (tr T x.a) (tr T x.b)=mY x.f0 x.f1 (tr T x.a):=by simp[dkL,Y]
  have J:dkV x (tr T x.a) (tr T x.b)=pI x.f0 x.f1 (tr T x.a):=by unfold dkV pI;rw[H,hL]
  have G:pI x.f0 x.f1 (tr T x.a)=.sl 1 (E cC (mY x.f0 x.f1 (tr T x.a)))∨pI x.f0 x.f1 (tr T x.a)=.v (.slice none 0 0):=by unfold pI;split<;>simp
  rw[J,H];generalize aX x.f0 x.f1 (tr T x.a)=c at *
  rcases G with G|G<;>rw[G] at I⊢
  all_goals
   refine fn1 Cd.s_l15Make_k [.b 0,.b 1] [.var [.loc (.b 1) 0 T.length,.v (.slice none 0 0)] false,.arr 1 (E cD T) false] fun X=>?_;unfold Cd.bU
   repeat' first|simp -dsimp only[go_sem,Y,gA,M,cS]|apply Br.mk<;>intro h<;>try simp -dsimp only[h]|refine aD.c (by first|exact I) ?_|refine aC ?_|fail
   all_goals first|omega|exact⟨_,_,rfl,rfl⟩
 have H:dkC x (tr T x.a) (tr T x.b)=mtC x.f0 x.f1 (tr T x.a) (tr T x.b):=by simp[dkC,O,h2,U,Y]
 have e1:(x.kind==1)=false:=beq_eq_false_iff_ne.2 O;have e2:(x.kind==2)=false:=beq_eq_false_iff_ne.2 h2;have e5:(x.kind==5)=false:=beq_eq_false_iff_ne.2 U;have e6:(x.kind==6)=false:=beq_eq_false_iff_ne.2 Y;have I:=vH (tr T x.a) (tr T x.b) x.f0 x.f1 sa sb;by_cases L:mtC x.f0 x.f1 (tr T x.a) (tr T x.b)=0
 ·rw[show mtV x.f0 x.f1 (tr T x.a) (tr T x.b)=.sl 1 (E cD (mtL x.f0 x.f1 (tr T x.a) (tr T x.b))) by simp[mtV,L],L] at I;have ha:(mtL x.f0 x.f1 (tr T x.a) (tr T x.b)).length=4:=rfl;have m0:(E cD (mtL x.f0 x.f1 (tr T x.a) (tr T x.b))).getD 0 []=[.sl 1 (E cC (mat x.f0 x.f1 (tr T x.a) (tr T x.b) true))]:=rfl;have m2:(E cD (mtL x.f0 x.f1 (tr T x.a) (tr T x.b))).getD 2 []=[.sl 1 (E cC (mat x.f0 x.f1 (tr T x.a) (tr T x.b) false))]:=rfl;generalize mtL x.f0 x.f1 (tr T x.a) (tr T x.b)=ML at *
  by_cases h3:x.kind=3
  ·have e3:(x.kind==3)=true:=beq_iff_eq.2 h3;have J:dkV x (tr T x.a) (tr T x.b)=.sl 1 (E cC (mat x.f0 x.f1 (tr T x.a) (tr T x.b) true)):=by unfold dkV;rw[H,L];simp[dkL,O,h2,U,Y,h3]
   rw[J,H,L];refine fn1 Cd.s_l15Make_k [.b 0,.b 1] [.var [.loc (.b 1) 0 T.length,.v (.slice none 0 0)] false,.arr 1 (E cD T) false] fun X=>?_;unfold Cd.bU
   repeat' first|simp -dsimp only[go_sem,e1,e2,e5,e6,e3,gA,M,m0,m2,ha,cS]|apply Br.mk<;>intro h<;>try simp -dsimp only[h]|refine aD.c (by first|exact I) ?_|refine aC ?_|fail
   all_goals first|omega|exact⟨_,_,rfl,rfl⟩
  ·have e3:(x.kind==3)=false:=beq_eq_false_iff_ne.2 h3;have J:dkV x (tr T x.a) (tr T x.b)=.sl 1 (E cC (mat x.f0 x.f1 (tr T x.a) (tr T x.b) false)):=by unfold dkV;rw[H,L];simp[dkL,O,h2,U,Y,h3]
   rw[J,H,L];refine fn1 Cd.s_l15Make_k [.b 0,.b 1] [.var [.loc (.b 1) 0 T.length,.v (.slice none 0 0)] false,.arr 1 (E cD T) false] fun X=>?_;unfold Cd.bU
   repeat' first|simp -dsimp only[go_sem,e1,e2,e5,e6,e3,gA,M,m0,m2,ha,cS]|apply Br.mk<;>intro h<;>try simp -dsimp only[h]|refine aD.c (by first|exact I) ?_|refine aC ?_|fail
   all_goals first|omega|exact⟨_,_,rfl,rfl⟩
 ·have e0:(mtC x.f0 x.f1 (tr T x.a) (tr T x.b) != 0)=true:=by simp[L]
  rw[show mtV x.f0 x.f1 (tr T x.a) (tr T x.b)=.v (.slice none 0 0) by simp[mtV,L]] at I;have J:dkV x (tr T x.a) (tr T x.b)=.v (.slice none 0 0):=by unfold dkV;rw[H,if_neg L]
  rw[J,H];generalize mtC x.f0 x.f1 (tr T x.a) (tr T x.b)=c at *
  refine fn1 Cd.s_l15Make_k [.b 0,.b 1] [.var [.loc (.b 1) 0 T.length,.v (.slice none 0 0)] false,.arr 1 (E cD T) false] fun X=>?_;unfold Cd.bU
  repeat' first|simp -dsimp only[go_sem,e1,e2,e5,e6,e0,gA,M,cS]|apply Br.mk<;>intro h<;>try simp -dsimp only[h]|refine aD.c (by first|exact I) ?_|refine aC ?_|fail
  all_goals first|omega|exact⟨_,_,rfl,rfl⟩
attribute [local go_sem] Int.reduceBEq Int.reduceBNe cO cFd aI List.replicate_succ List.replicate_zero List.flatten_cons List.flatten_nil List.cons_append List.nil_append List.set_cons_zero List.set_cons_succ List.length_cons List.length_nil List.length_set List.mem_singleton List.mem_cons List.not_mem_nil or_false false_or Vs.Name.t.injEq Vs.Name.b.injEq List.getD_cons_zero List.getD_cons_succ in
theorem aEJ (x:Stp) (hz:x.text.size≤1048576) (T:List (List (List Int))) (hs:∀d,d∈T→aU d) (hl:T.length≤1048576) (iA:0≤x.a∧x.a<(T.length:Int)) (iB:0≤x.b∧x.b<(T.length:Int)) (H:List (List Tot)):Vs.Fn Tryz.prog F.bU [.var [.loc (.b 1) 0 T.length,.loc (.b 2) 0 H.length] false,.arr 1 (E cD T) false,.arr 1 (E cTs H) false] [.ptr (.b 0) 0 0,.ro (cS x)] (.tup [dkV x (tr T x.a) (tr T x.b),.v (.int .i64 (dkC x (tr T x.a) (tr T x.b)))]) ([.var [.loc (.b 1) 0 T.length,.loc (.b 2) 0 H.length] false,.arr 1 (E cD T) false,.arr 1 (E cTs H) false].map some):=by
 have sa:=hs _ (fK iA);have sb:=hs _ (fK iB);have gA:=gW iA;have O:=gW iB;have a0:=iA.1;have a1:=iA.2;have b0:=iB.1;have b1:=iB.2;by_cases U:x.kind=1
 ·have J:=yA (tr T x.a) x.f0 x.f1 sa.2 sa.1;have I:dkC x (tr T x.a) (tr T x.b)=aX x.f0 x.f1 (tr T x.a):=by simp[dkC,U]
  have hL:dkL x (tr T x.a) (tr T x.b)=eH x.f0 x.f1 (tr T x.a):=by simp[dkL,U]
  have L:dkV x (tr T x.a) (tr T x.b)=oZ x.f0 x.f1 (tr T x.a):=by unfold dkV oZ;rw[I,hL]
  have G:oZ x.f0 x.f1 (tr T x.a)=.sl 1 (E cC (eH x.f0 x.f1 (tr T x.a)))∨oZ x.f0 x.f1 (tr T x.a)=.v (.slice none 0 0):=by unfold oZ;split<;>simp
  rw[L,I];generalize aX x.f0 x.f1 (tr T x.a)=c at *
  rcases G with G|G<;>rw[G] at J⊢
  all_goals
   refine fn1 Cd.s_l15Make_k [.b 0,.b 1,.b 2] [.var [.loc (.b 1) 0 T.length,.loc (.b 2) 0 H.length] false,.arr 1 (E cD T) false,.arr 1 (E cTs H) false] fun X=>?_;unfold Cd.bU
   repeat' first|simp -dsimp only[go_sem,U,gA,O,cS]|apply Br.mk<;>intro h<;>try simp -dsimp only[h]|refine aD.c (by first|exact J) ?_|refine aC ?_|fail
   all_goals first|omega|exact⟨_,_,rfl,rfl⟩
 by_cases h2:x.kind=2
 ·have J:=vG (tr T x.a) (tr T x.b) x.f0 x.f1 sa sb;have I:dkC x (tr T x.a) (tr T x.b)=mgC x.f0 x.f1 (tr T x.a) (tr T x.b):=by simp[dkC,h2]
  have hL:dkL x (tr T x.a) (tr T x.b)=eH x.f0 x.f1 (tr T x.a++tr T x.b):=by simp[dkL,h2]
  have L:dkV x (tr T x.a) (tr T x.b)=mgV x.f0 x.f1 (tr T x.a) (tr T x.b):=by unfold dkV mgV;rw[I,hL]
  have G:mgV x.f0 x.f1 (tr T x.a) (tr T x.b)=.sl 1 (E cC (eH x.f0 x.f1 (tr T x.a++tr T x.b)))∨mgV x.f0 x.f1 (tr T x.a) (tr T x.b)=.v (.slice none 0 0):=by unfold mgV;split<;>simp
  rw[L,I];generalize mgC x.f0 x.f1 (tr T x.a) (tr T x.b)=c at *
  rcases G with G|G<;>rw[G] at J⊢
  all_goals
   refine fn1 Cd.s_l15Make_k [.b 0,.b 1,.b 2] [.var [.loc (.b 1) 0 T.length,.loc (.b 2) 0 H.length] false,.arr 1 (E cD T) false,.arr 1 (E cTs H) false] fun X=>?_;unfold Cd.bU
   repeat' first|simp -dsimp only[go_sem,h2,gA,O,cS]|apply Br.mk<;>intro h<;>try simp -dsimp only[h]|refine aD.c (by first|exact J) ?_|refine aC ?_|fail
   all_goals first|omega|exact⟨_,_,rfl,rfl⟩
 by_cases Y:x.kind=5
 ·have J:=sN (tr T x.a) x.f0 x.f1 x.text sa hz;have I:dkC x (tr T x.a) (tr T x.b)=fI x.f0 x.f1 x.text (tr T x.a):=by simp[dkC,Y]
  have hL:dkL x (tr T x.a) (tr T x.b)=flt (gY x.f0 x.f1 x.text) (tr T x.a):=by simp[dkL,Y]
  have L:dkV x (tr T x.a) (tr T x.b)=l8 x.f0 x.f1 x.text (tr T x.a):=by unfold dkV l8;rw[I,hL]
  have G:l8 x.f0 x.f1 x.text (tr T x.a)=.sl 1 (E cC (flt (gY x.f0 x.f1 x.text) (tr T x.a)))∨l8 x.f0 x.f1 x.text (tr T x.a)=.v (.slice none 0 0):=by unfold l8;split<;>simp
  rw[L,I];generalize fI x.f0 x.f1 x.text (tr T x.a)=c at *
  rcases G with G|G<;>rw[G] at J⊢
  all_goals
   refine fn1 Cd.s_l15Make_k [.b 0,.b 1,.b 2] [.var [.loc (.b 1) 0 T.length,.loc (.b 2) 0 H.length] false,.arr 1 (E cD T) false,.arr 1 (E cTs H) false] fun X=>?_;unfold Cd.bU
   repeat' first|simp -dsimp only[go_sem,Y,gA,O,cS]|apply Br.mk<;>intro h<;>try simp -dsimp only[h]|refine aD.c (by first|exact J) ?_|refine aC ?_|fail
   all_goals first|omega|exact⟨_,_,rfl,rfl⟩
 by_cases h6:x.kind=6
 ·have J:=qH (tr T x.a) x.f0 x.f1 sa;have I:dkC x (tr T x.a) (tr T x.b)=aX x.f0 x.f1 (tr T x.a):=by simp[dkC,h6]
  have hL:dkL x (tr T x.a) (tr T x.b)=mY x.f0 x.f1 (tr T x.a):=by simp[dkL,h6]
  have L:dkV x (tr T x.a) (tr T x.b)=pI x.f0 x.f1 (tr T x.a):=by unfold dkV pI;rw[I,hL]
  have G:pI x.f0 x.f1 (tr T x.a)=.sl 1 (E cC (mY x.f0 x.f1 (tr T x.a)))∨pI x.f0 x.f1 (tr T x.a)=.v (.slice none 0 0):=by unfold pI;split<;>simp
  rw[L,I];generalize aX x.f0 x.f1 (tr T x.a)=c at *
  rcases G with G|G<;>rw[G] at J⊢
  all_goals
   refine fn1 Cd.s_l15Make_k [.b 0,.b 1,.b 2] [.var [.loc (.b 1) 0 T.length,.loc (.b 2) 0 H.length] false,.arr 1 (E cD T) false,.arr 1 (E cTs H) false] fun X=>?_;unfold Cd.bU
   repeat' first|simp -dsimp only[go_sem,h6,gA,O,cS]|apply Br.mk<;>intro h<;>try simp -dsimp only[h]|refine aD.c (by first|exact J) ?_|refine aC ?_|fail
   all_goals first|omega|exact⟨_,_,rfl,rfl⟩
 have I:dkC x (tr T x.a) (tr T x.b)=mtC x.f0 x.f1 (tr T x.a) (tr T x.b):=by simp[dkC,U,h2,Y,h6]
 have e1:(x.kind==1)=false:=beq_eq_false_iff_ne.2 U;have e2:(x.kind==2)=false:=beq_eq_false_iff_ne.2 h2;have e5:(x.kind==5)=false:=beq_eq_false_iff_ne.2 Y;have e6:(x.kind==6)=false:=beq_eq_false_iff_ne.2 h6;have J:=vH (tr T x.a) (tr T x.b) x.f0 x.f1 sa sb;by_cases M:mtC x.f0 x.f1 (tr T x.a) (tr T x.b)=0
 ·rw[show mtV x.f0 x.f1 (tr T x.a) (tr T x.b)=.sl 1 (E cD (mtL x.f0 x.f1 (tr T x.a) (tr T x.b))) by simp[mtV,M],M] at J;have ha:(mtL x.f0 x.f1 (tr T x.a) (tr T x.b)).length=4:=rfl;have m0:(E cD (mtL x.f0 x.f1 (tr T x.a) (tr T x.b))).getD 0 []=[.sl 1 (E cC (mat x.f0 x.f1 (tr T x.a) (tr T x.b) true))]:=rfl;have m2:(E cD (mtL x.f0 x.f1 (tr T x.a) (tr T x.b))).getD 2 []=[.sl 1 (E cC (mat x.f0 x.f1 (tr T x.a) (tr T x.b) false))]:=rfl;generalize mtL x.f0 x.f1 (tr T x.a) (tr T x.b)=ML at *
  by_cases h3:x.kind=3
  ·have e3:(x.kind==3)=true:=beq_iff_eq.2 h3;have L:dkV x (tr T x.a) (tr T x.b)=.sl 1 (E cC (mat x.f0 x.f1 (tr T x.a) (tr T x.b) true)):=by unfold dkV;rw[I,M];simp[dkL,U,h2,Y,h6,h3]
   rw[L,I,M];refine fn1 Cd.s_l15Make_k [.b 0,.b 1,.b 2] [.var [.loc (.b 1) 0 T.length,.loc (.b 2) 0 H.length] false,.arr 1 (E cD T) false,.arr 1 (E cTs H) false] fun X=>?_;unfold Cd.bU
   repeat' first|simp -dsimp only[go_sem,e1,e2,e5,e6,e3,gA,O,m0,m2,ha,cS]|apply Br.mk<;>intro h<;>try simp -dsimp only[h]|refine aD.c (by first|exact J) ?_|refine aC ?_|fail
   all_goals first|omega|exact⟨_,_,rfl,rfl⟩
  ·have e3:(x.kind==3)=false:=beq_eq_false_iff_ne.2 h3;have L:dkV x (tr T x.a) (tr T x.b)=.sl 1 (E cC (mat x.f0 x.f1 (tr T x.a) (tr T x.b) false)):=by unfold dkV;rw[I,M];simp[dkL,U,h2,Y,h6,h3]
   rw[L,I,M];refine fn1 Cd.s_l15Make_k [.b 0,.b 1,.b 2] [.var [.loc (.b 1) 0 T.length,.loc (.b 2) 0 H.length] false,.arr 1 (E cD T) false,.arr 1 (E cTs H) false] fun X=>?_;unfold Cd.bU
   repeat' first|simp -dsimp only[go_sem,e1,e2,e5,e6,e3,gA,O,m0,m2,ha,cS]|apply Br.mk<;>intro h<;>try simp -dsimp only[h]|refine aD.c (by first|exact J) ?_|refine aC ?_|fail
   all_goals first|omega|exact⟨_,_,rfl,rfl⟩
 ·have e0:(mtC x.f0 x.f1 (tr T x.a) (tr T x.b) != 0)=true:=by simp[M]
  rw[show mtV x.f0 x.f1 (tr T x.a) (tr T x.b)=.v (.slice none 0 0) by simp[mtV,M]] at J;have L:dkV x (tr T x.a) (tr T x.b)=.v (.slice none 0 0):=by unfold dkV;rw[I,if_neg M]
  rw[L,I];generalize mtC x.f0 x.f1 (tr T x.a) (tr T x.b)=c at *
  refine fn1 Cd.s_l15Make_k [.b 0,.b 1,.b 2] [.var [.loc (.b 1) 0 T.length,.loc (.b 2) 0 H.length] false,.arr 1 (E cD T) false,.arr 1 (E cTs H) false] fun X=>?_;unfold Cd.bU
  repeat' first|simp -dsimp only[go_sem,e1,e2,e5,e6,e0,gA,O,cS]|apply Br.mk<;>intro h<;>try simp -dsimp only[h]|refine aD.c (by first|exact J) ?_|refine aC ?_|fail
  all_goals first|omega|exact⟨_,_,rfl,rfl⟩
end
section
variable [Vs.Envs]
attribute [local irreducible] Vs.Fn chOK areCh chTo chAt l03 chB rk cd3 chI stp stpTo
theorem aAz {k:Nat}{S:Nat→Prop}{w:World}{v:Value} (h:RC S w (.v (.slice none 0 0)) v):RC S w (.sl k []) v:=by
 cases h;exact RC.sl k [] none 0 0 0 (fun _=>undef) (fun h=>absurd rfl h) (fun i j h=>by simp at h) (fun i j h=>by simp at h) (fun i j h=>by simp at h) (fun i h=>by simp at h) ⟨Nat.le_refl _,by decide⟩
theorem aDQ {P:Program}{f:FuncId}{hin:List Blk}{args args':List AV}{r:AV}{F:List (Option Blk)} (L:args.length=args'.length)
  (h:∀(S:Nat→Prop) (w:World) (j:Nat) (v:Value),j<args.length→(∀ρ κ hh,RV S w ρ κ hh (args.getD j .junk) v→RV S w ρ κ hh (args'.getD j .junk) v)) (G:Vs.Fn P f hin args' r F):Vs.Fn P f hin args r F:=by
 unfold Vs.Fn at G⊢;exact⟨G.1,fun S w ρ κ vs H h2 I J=>G.2 S w ρ κ vs H h2 (I.trans L) fun j M=>h S w j _ (by omega) ρ κ _ (J j (by omega))⟩
theorem aLr {S:Nat→Prop}{w:World}{x:AV}{k:Nat}{v:Value}{ρ:Vs.Name→Option Nat}{κ:Vs.Name→Nat}{hh:Vs.Name→Option Blk} (h:RV S w ρ κ hh (.ro [x,.v (.slice none 0 0)]) v):RV S w ρ κ hh (.ro [x,.sl k []]) v:=by
 have h:=pF h;refine .clo ?_;generalize F:[x,AV.v (.slice none 0 0)]=c at h;cases h with
 | ro c y off xs hS h1 h2 h3 =>
  subst F;refine .ro _ y off xs hS h1 h2 fun j G=>?_
  match j,G with
  |0,_=>exact h3 0 (by simp)
  |1,_=>exact aAz (h3 1 (by simp))
def gA (n:Vs.Name) (i:Nat):AV:=if i=0 then .v (.slice none 0 0) else .loc n 0 i
def gH (n:Vs.Name) (rows:List (List AV)) (i:Nat):List (Vs.Name×Blk):=if i=0 then[] else[(n,.arr 1 rows false)]
attribute [local go_sem] Int.reduceBEq Int.reduceBNe cC cTs aI List.replicate_succ List.replicate_zero List.flatten_cons List.flatten_nil List.cons_append List.nil_append List.set_cons_zero List.set_cons_succ List.length_cons List.length_nil List.length_set List.mem_singleton List.mem_cons List.not_mem_nil or_false false_or Vs.Name.t.injEq in
theorem aKq (o:Off) (ho:yJ o) (hd:0<o.trays.length) (hb:o.totals.length=0):Vs.Fn Tryz.prog F.qI [] [.ro (cO o)] (.agg [.loc (.b 0) 0 o.trays.length,.v (.slice none 0 0)]) [some (.arr 1 (E cD o.trays) false)]:=by
 have hn:=ho.1.1;have hm:=ho.2.1;refine fn1 Cd.s_l15Own_k [.t 27 0] [.arr 1 (E cD o.trays) false] fun X=>?_;unfold Cd.qI
 repeat' first|simp -dsimp only[go_sem,cO,cD]|apply Br.mk<;>intro h<;>try simp -dsimp only[h]|refine aC ?_|fail
 refine aN.at dM (X:={i:Nat // i≤o.trays.length}) (fun i=>[(4,.v (.int .i64 (i.1:Nat)))]) (fun i=>(.t 3 0,.var [gA (.t 27 0) i.1,.v (.slice none 0 0)] false)::gH (.t 27 0) (E cD (o.trays.take i.1)) i.1) (fun i=>o.trays.length-i.1) ⟨0,by omega⟩ ?_ ?_
 ·simp[Vs.LeL,Vs.look,Vs.aB,Vs.aQ,Vs.aL,Vs.hset,Vs.aM,gA,gH]
 ·rintro⟨i,hi⟩
  try dsimp only at hi
  by_cases J:i<o.trays.length
  ·have L:decide ((i:Int)<(o.trays.length:Int))=true:=decide_eq_true (by omega);have hw:=aH J (by omega);have I:=aJB J;have G:=aD0 J;have Y:(E cD (o.trays.take i)).length=i:=by rw[aI];simp;omega
   have U:(o.trays.take i).length=i:=by simp;omega
   have CP:=aDM o.trays[i] (ho.1.2 _ (List.getElem_mem J));by_cases H:i=0
   ·have M:gA (.t 27 0) i=.v (.slice none 0 0):=by simp[gA,H]
    have O:gH (.t 27 0) (E cD (o.trays.take i)) i=[]:=by simp[gH,H]
    have ha:E cD (o.trays.take i)=[]:=by rw[H];rfl
    rw[ha,List.nil_append] at G;rw[M,O];simp -dsimp only[go_sem,L,I,cO,cD]
    repeat' first|simp -dsimp only[go_sem,L,I,hw,G,cO,cD]|apply Br.mk<;>intro h<;>try simp -dsimp only[h]|refine aD.c (by first|exact CP) ?_|refine aC ?_|fail
    all_goals first|omega|(exact⟨⟨i+1,by omega⟩,by simp[Vs.LeL,Vs.look,Vs.aB,Vs.aQ,Vs.aL,Vs.hset,Vs.aM,gA,gH,G,H],by simp only;omega⟩)
   ·have M:gA (.t 27 0) i=.loc (.t 27 0) 0 i:=by simp[gA,H]
    have O:gH (.t 27 0) (E cD (o.trays.take i)) i=[(.t 27 0,.arr 1 (E cD (o.trays.take i)) false)]:=by simp[gH,H]
    rw[M,O];simp -dsimp only[go_sem,L,I,cO,cD]
    repeat' first|simp -dsimp only[go_sem,L,I,hw,G,Y,U,cO,cD]|apply Br.mk<;>intro h<;>try simp -dsimp only[h]|refine aD.c (by first|exact CP) ?_|refine aC ?_|fail
    all_goals first|omega|(exact⟨⟨i+1,by omega⟩,by simp[Vs.LeL,Vs.look,Vs.aB,Vs.aQ,Vs.aL,Vs.hset,Vs.aM,gA,gH,G,H],by simp only;omega⟩)
  ·obtain rfl:i=o.trays.length:=by omega
   have L:decide ((o.trays.length:Int)<(o.trays.length:Int))=false:=by simp
   have M:gA (.t 27 0) o.trays.length=.loc (.t 27 0) 0 o.trays.length:=by unfold gA;rw[if_neg (by omega)]
   have O:gH (.t 27 0) (E cD (o.trays.take o.trays.length)) o.trays.length=[(.t 27 0,.arr 1 (E cD (o.trays.take o.trays.length)) false)]:=by unfold gH;rw[if_neg (by omega)]
   rw[M,O];simp -dsimp only[go_sem,L,cO,cD];refine And.intro ?_ (fun h=>absurd rfl h);refine aN.at dM (X:={i:Nat // i≤o.totals.length}) (fun i=>[(5,.v (.int .i64 (i.1:Nat)))]) (fun i=>(.t 3 0,.var [.loc (.t 27 0) 0 o.trays.length,gA (.t 50 0) i.1] false)::gH (.t 50 0) (E cTs (o.totals.take i.1)) i.1) (fun i=>o.totals.length-i.1) ⟨0,by omega⟩ ?_ ?_
   ·simp[Vs.LeL,Vs.look,Vs.aB,Vs.aQ,Vs.aL,Vs.hset,Vs.aM,gA,gH]
   ·rintro⟨i,hi⟩
    try dsimp only at hi
    by_cases J:i<o.totals.length
    ·have L:decide ((i:Int)<(o.totals.length:Int))=true:=decide_eq_true (by omega);have hw:=aH J (by omega);have I:=aCj J;have G:=aDZ J;have Y:(E cTs (o.totals.take i)).length=i:=by rw[aI];simp;omega
     have U:(o.totals.take i).length=i:=by simp;omega
     have hs:=(ho.2.2 _ (List.getElem_mem J)).1;by_cases H:i=0
     ·have M:gA (.t 50 0) i=.v (.slice none 0 0):=by simp[gA,H]
      have O:gH (.t 50 0) (E cTs (o.totals.take i)) i=[]:=by simp[gH,H]
      have ha:E cTs (o.totals.take i)=[]:=by rw[H];rfl
      rw[ha,List.nil_append] at G;rw[M,O];simp -dsimp only[go_sem,L,I,cO,cD]
      repeat' first|simp -dsimp only[go_sem,L,I,hw,G,cO,cD]|apply Br.mk<;>intro h<;>try simp -dsimp only[h]|refine aC ?_|fail
      all_goals first|omega|(exact⟨⟨i+1,by omega⟩,by simp[Vs.LeL,Vs.look,Vs.aB,Vs.aQ,Vs.aL,Vs.hset,Vs.aM,gA,gH,G,H],by simp only;omega⟩)
     ·have M:gA (.t 50 0) i=.loc (.t 50 0) 0 i:=by simp[gA,H]
      have O:gH (.t 50 0) (E cTs (o.totals.take i)) i=[(.t 50 0,.arr 1 (E cTs (o.totals.take i)) false)]:=by simp[gH,H]
      rw[M,O];simp -dsimp only[go_sem,L,I,cO,cD]
      repeat' first|simp -dsimp only[go_sem,L,I,hw,G,Y,U,cO,cD]|apply Br.mk<;>intro h<;>try simp -dsimp only[h]|refine aC ?_|fail
      all_goals first|omega|(exact⟨⟨i+1,by omega⟩,by simp[Vs.LeL,Vs.look,Vs.aB,Vs.aQ,Vs.aL,Vs.hset,Vs.aM,gA,gH,G,H],by simp only;omega⟩)
    ·obtain rfl:i=o.totals.length:=by omega
     have L:decide ((o.totals.length:Int)<(o.totals.length:Int))=false:=by simp
     have hc:(E cD (o.trays.take o.trays.length))=E cD o.trays:=by rw[List.take_length]
     have M:gA (.t 50 0) o.totals.length=.v (.slice none 0 0):=by simp[gA,hb]
     have O:gH (.t 50 0) (E cTs (o.totals.take o.totals.length)) o.totals.length=[]:=by simp[gH,hb]
     rw[M,O]
     repeat' first|simp -dsimp only[go_sem,L,hc,cO,cD]|apply Br.mk<;>intro h<;>try simp -dsimp only[h]|refine And.intro ?_ (fun h=>absurd rfl h)|refine aC ?_|fail
     all_goals first|omega|exact⟨_,_,rfl,rfl⟩|exact⟨⟨_,_,rfl,rfl⟩,fun h=>h rfl⟩
end
section
variable [Vs.Envs]
attribute [local irreducible] Vs.Fn aX mgC fI mtC eH mY mat rT dkC dkL jK iI fG wO chOK areCh chTo chAt l03 chB rk cd3 chI stp stpTo
open Go.Vs.Q in
def CdV.l15Do:aF:=s [mi 4 0] [0,1]<|.seq (s [m 9 1,nc 10 9,fa 11 0 10,lf 12 1 11,en 13 12 7] [0,1,13]<|.cond 13 (.seq (s [m 14 0,nc 15 14,fa 16 1 15,lf 17 1 16,ln 18 17,o 19 (.bin .geq 18 (k 20))] [0,1,19]<|.cond 19 (s [mi 4 5] [4]<|.ret) .skip)<|r [m 21 0,nc 22 21,fa 23 0 22,lf 24 1 23,m 25 1,nc 26 25,fa 27 1 26,lf
 28 1 27,ix 29 1 24 28,lf 30 1 29,m 31 1,nc 32 31,fa 33 4 32,lt 34 2 33,m 35 1,nc 36 35,fa 37 6 36,lt 38 2 37,c 39 F.sQ [30,34,38],m 20 39,ex 40 20 0,ex 41 20 1,m 5 40,m 6 41] [0,5,6] [21,23,24,22,25,26,27,28,29,30,31,32,33,34,35,36,37,38,39,20,40,41,5]<|.seq (s [m 42 6,en 43 42 0]
 [0,5,6,43]<|.cond 43 (.region [m 44 0,m 45 0,nc 46 45,fa 47 1 46,lf 48 1 47,m 49 5,o 50 (.bslice 1 1 [.v (.slice none 0 0)] [(0,49)]),o 51 (.append 1 24 48 50),nc 52 44,fa 53 1 52,⟨none,.store 1 53 51,none⟩] [6] []) .skip)<|s [m 54 6,m 4 54] [4]<|.ret) .skip)<|s [m 56 0,m 57 1,o 58 (.call (.func
 F.bU) [56,57] [0]),m 55 58,ex 59 55 0,ex 60 55 1,m 7 59,m 8 60] [0,1,7,8]<|.seq (s [m 61 8,en 62 61 0] [0,1,7,8,62]<|.cond 62 (.region [m 63 0,nc 64 63,fa 65 0 64,lf 66 1 65,m 67 1,nc 68 67,fa 69 3 68,lf 70 1 69,m 71 7,ix 72 1 66 70,⟨none,.store 1 72 71,none⟩] [8]
 [63,65,66,64,67,68,69,70,71]) .skip)<|s [m 73 8,m 4 73] [4]<|.ret
theorem CdV.l15Do_k:CK 51 Tryz.f51 CdV.l15Do 74 [.tmp 4]:=ck Tryz.func51
attribute [go_sem] CdV.l15Do
theorem aD.borG {P:Program}{f:FuncId}{hin:List Blk}{ys:List AV}{L:List Vs.Name}{d:Option Nat}{σ:St}{B:List Vs.Name}{K:St→Prop}{t:Tag K}{r:AV}{F:List (Option Blk)} (G:Vs.Fn P f hin ys r F) (H:kF (d.getD 0) B.length F.length σ=true)
  (I:K ⟨put d (rn (phi B (d.getD 0) F.length) r) σ.s,x9 σ.h B (d.getD 0) F true L⟩):aD P f hin ys L d σ B K t:=
 ⟨r,F,true,G,fun h=>(by cases h),H,I⟩
attribute [local go_sem] Int.reduceBEq Int.reduceBNe cC cO cFd aI List.replicate_succ List.replicate_zero List.flatten_cons List.flatten_nil List.cons_append List.nil_append List.set_cons_zero List.set_cons_succ List.length_cons List.length_nil List.length_set List.mem_singleton List.mem_cons List.not_mem_nil or_false false_or Vs.Name.t.injEq List.getD_cons_zero List.getD_cons_succ Vs.Name.b.injEq in
theorem aHD (x:Stp) (hz:x.text.size≤1048576) (o:Off) (w:Nat) (I:okO w o) (hv:fG x (wO o.trays)=true) (he:o.totals.length=0) (H:stC x o≠0):Vs.Fn Tryz.prog F.uQ [.var [.loc (.b 1) 0 o.trays.length,.v (.slice none 0 0)] false,.arr 1 (E cD o.trays) false] [.ptr (.b 0) 0 0,.ro (cS x)] (.v (.int .i64 (stC x o))) ([.var [.loc (.b 1) 0 o.trays.length,.v (.slice none 0 0)] false,.arr 1 (E cD o.trays) false].map some):=by
 have Y:=fZ I;have hd:=I.2.1;have hc:=I.2.2.2.1;have G:=uN I hv;have ma:=fK G.a;have mb:=fK G.b;have ga:=gW G.a;have gb:=gW G.b;have gt:=gW G.to;have a0:=G.a.1;have a1:=G.a.2;have t0:=G.to.1;have t1:=G.to.2;have O:(E cD o.trays).length=o.trays.length:=aI _;have U:(E cTs o.totals).length=o.totals.length:=aI _;have L:(E cD o.trays).take o.trays.length=E cD o.trays:=List.take_of_length_le (by omega);have M:(E cTs o.totals).take o.totals.length=E cTs o.totals:=List.take_of_length_le (by omega);by_cases J:x.kind=7
 ·have e7:(x.kind==7)=true:=beq_iff_eq.2 J;unfold stC at H⊢;rw[if_pos J] at H⊢;rw[if_neg (by omega:¬20≤o.totals.length)] at H⊢;have ha:decide (((0:Nat):Int)≥20)=false:=by decide
  have da:=I.2.2.1 _ ma;have TO:=aBq (tr o.trays x.a) x.f0 x.f1 x.s0 x.s1 (nN I.1.2 da) da.1 (vC (l7 I ma) G.f) (aAC (l7 I ma) (G.n J));cases hb:jK x.f0 x.f1 x.s0 x.s1 (tr o.trays x.a)
  ·rw[aDl hb,hb] at TO;simp only[Bool.false_eq_true,if_false] at TO;rw[if_neg (by decide)];refine fn1 CdV.l15Do_k [.b 0,.b 1] [.var [.loc (.b 1) 0 o.trays.length,.v (.slice none 0 0)] false,.arr 1 (E cD o.trays) false] fun X=>?_;unfold CdV.l15Do
   repeat' first|simp -dsimp only[go_sem,e7,ha,ga,O,U,L,M,cS]|apply Br.mk<;>intro h<;>try simp -dsimp only[h]|refine aD.c (by first|exact TO) ?_|refine aC ?_|fail
   all_goals first|omega|exact⟨_,_,rfl,rfl⟩
  ·rw[if_pos hb] at H;exact absurd rfl H
 ·have e7:(x.kind==7)=false:=beq_eq_false_iff_ne.2 J;have MK:=aEI x hz o.trays Y.1.2 Y.1.1 G.a G.b;rw[show stC x o=dkC x (tr o.trays x.a) (tr o.trays x.b) by unfold stC;rw[if_neg J]] at H⊢;rw[aFZ H] at MK;have e0:(dkC x (tr o.trays x.a) (tr o.trays x.b)==0)=false:=beq_eq_false_iff_ne.2 H;generalize dkC x (tr o.trays x.a) (tr o.trays x.b)=c at *
  refine fn1 CdV.l15Do_k [.b 0,.b 1] [.var [.loc (.b 1) 0 o.trays.length,.v (.slice none 0 0)] false,.arr 1 (E cD o.trays) false] fun X=>?_;unfold CdV.l15Do
  repeat' first|simp -dsimp only[go_sem,e7,e0,O,U,L,M,cS]|apply Br.mk<;>intro h<;>try simp -dsimp only[h]|refine aD.borG (B:=[.b 0,.b 1]) (by first|exact MK) rfl ?_|refine aC ?_|fail
  all_goals first|omega|exact⟨_,_,rfl,rfl⟩
theorem aHE (x:Stp) (hz:x.text.size≤1048576) (o:Off) (w:Nat) (I:okO w o) (hv:fG x (wO o.trays)=true) (he:o.totals.length=0) (h7:x.kind≠7) (J:stC x o=0):Vs.Fn Tryz.prog F.uQ [.var [.loc (.b 1) 0 o.trays.length,.v (.slice none 0 0)] false,.arr 1 (E cD o.trays) false] [.ptr (.b 0) 0 0,.ro (cS x)] (.v (.int .i64 0)) ([.var [.loc (.b 1) 0 o.trays.length,.v (.slice none 0 0)] false,.arr 1 (E cD (o.trays.set x.to.toNat (dkL x (tr o.trays x.a) (tr o.trays x.b)))) false].map some):=by
 have H:=fZ I;have hb:=I.2.1;have ha:=I.2.2.2.1;have G:=uN I hv;have ma:=fK G.a;have mb:=fK G.b;have ga:=gW G.a;have gb:=gW G.b;have gt:=gW G.to;have a0:=G.a.1;have a1:=G.a.2;have t0:=G.to.1;have t1:=G.to.2;have O:(E cD o.trays).length=o.trays.length:=aI _;have U:(E cTs o.totals).length=o.totals.length:=aI _;have L:(E cD o.trays).take o.trays.length=E cD o.trays:=List.take_of_length_le (by omega);have M:(E cTs o.totals).take o.totals.length=E cTs o.totals:=List.take_of_length_le (by omega);have e7:(x.kind==7)=false:=beq_eq_false_iff_ne.2 h7;have MK:=aEI x hz o.trays H.1.2 H.1.1 G.a G.b;rw[show stC x o=dkC x (tr o.trays x.a) (tr o.trays x.b) by unfold stC;rw[if_neg h7]] at J;rw[aFY J,J] at MK;generalize dkL x (tr o.trays x.a) (tr o.trays x.b)=D at *
 have Y:=aGc o.trays x.to.toNat D;refine fn1 CdV.l15Do_k [.b 0,.b 1] [.var [.loc (.b 1) 0 o.trays.length,.v (.slice none 0 0)] false,.arr 1 (E cD (o.trays.set x.to.toNat D)) false] fun X=>?_;unfold CdV.l15Do
 repeat' first|simp -dsimp only[go_sem,e7,gt,O,U,Y,L,M,Int.reduceBEq,Int.reduceBNe,cC,cO,cS,cFd,aI,List.replicate_succ,List.replicate_zero,List.flatten_cons,List.flatten_nil,List.cons_append,List.nil_append,List.set_cons_zero,List.set_cons_succ,List.length_cons,List.length_nil,List.length_set,List.mem_singleton,List.mem_cons,List.not_mem_nil,or_false,false_or,Vs.Name.t.injEq,List.getD_cons_zero,List.getD_cons_succ,Vs.Name.b.injEq]|apply Br.mk<;>intro h<;>try simp -dsimp only[h]|refine aD.borG (B:=[.b 0,.b 1]) (by first|exact MK) rfl ?_|refine aC ?_|fail
 all_goals first|omega|exact⟨_,_,rfl,rfl⟩
theorem aFH (x:Stp) (hz:x.text.size≤1048576) (o:Off) (w:Nat) (H:okO w o) (hv:fG x (wO o.trays)=true) (he:o.totals.length=0) (Y:x.kind=7) (I:stC x o=0):Vs.Fn Tryz.prog F.uQ [.var [.loc (.b 1) 0 o.trays.length,.v (.slice none 0 0)] false,.arr 1 (E cD o.trays) false] [.ptr (.b 0) 0 0,.ro (cS x)] (.v (.int .i64 0)) [some (.var [.loc (.b 1) 0 o.trays.length,.loc (.b 2) 0 (o.totals.length+1)] false),some (.arr 1 (E cD o.trays) false),some (.arr 1 (E cTs (o.totals++[iI x.f0 x.f1 x.s0 x.s1 (tr o.trays x.a)])) false)]:=by
 have hl:=fZ H;have hk:=H.2.1;have hg:=H.2.2.2.1;have G:=uN H hv;have ma:=fK G.a;have mb:=fK G.b;have ga:=gW G.a;have gb:=gW G.b;have gt:=gW G.to;have a0:=G.a.1;have a1:=G.a.2;have t0:=G.to.1;have t1:=G.to.2;have hd:(E cD o.trays).length=o.trays.length:=aI _;have hf:(E cTs o.totals).length=o.totals.length:=aI _;have ha:(E cD o.trays).take o.trays.length=E cD o.trays:=List.take_of_length_le (by omega);have hc:(E cTs o.totals).take o.totals.length=E cTs o.totals:=List.take_of_length_le (by omega);have e7:(x.kind==7)=true:=beq_iff_eq.2 Y;unfold stC at I;rw[if_pos Y] at I;have U:¬20≤o.totals.length:=by intro h;rw[if_pos h] at I;cases I
 rw[if_neg U] at I;have J:decide ((o.totals.length:Int)≥20)=false:=decide_eq_false (by omega)
 have M:jK x.f0 x.f1 x.s0 x.s1 (tr o.trays x.a)=true:=by
  cases M:jK x.f0 x.f1 x.s0 x.s1 (tr o.trays x.a)
  ·rw[M] at I;cases I
  ·rfl
 have da:=H.2.2.1 _ ma;have O:=aBq (tr o.trays x.a) x.f0 x.f1 x.s0 x.s1 (nN H.1.2 da) da.1 (vC (l7 H ma) G.f) (aAC (l7 H ma) (G.n Y));rw[aDk M,M] at O;simp only[if_true] at O;have L:=aJN o.totals (iI x.f0 x.f1 x.s0 x.s1 (tr o.trays x.a));have J:decide (((0:Nat):Int)≥20)=false:=by decide
 have L:[[.sl 2 (E cT (iI x.f0 x.f1 x.s0 x.s1 (tr o.trays x.a)))]]=E cTs (o.totals++[iI x.f0 x.f1 x.s0 x.s1 (tr o.trays x.a)]):=by rw[List.eq_nil_of_length_eq_zero he];rfl
 refine CdV.l15Do_k.o.fnD Tryz.mixed (hin:=[.var [.loc (.b 1) 0 o.trays.length,.v (.slice none 0 0)] false,.arr 1 (E cD o.trays) false]) (args:=[.ptr (.b 0) 0 0,.ro (cS x)]) _ _ [.b 0,.b 1,.t 51 0] [some (.var [.loc (.b 1) 0 o.trays.length,.loc (.b 2) 0 (o.totals.length+1)] false),some (.arr 1 (E cD o.trays) false),some (.arr 1 (E cTs (o.totals++[iI x.f0 x.f1 x.s0 x.s1 (tr o.trays x.a)])) false)] CdV.l15Do_k.n CdV.l15Do_k.r rfl rfl (by intro j hj;rcases j with _|_|_|j<;>first|rfl|(simp at hj;done)|(simp at hj;omega)) fun X=>?_;unfold CdV.l15Do
 repeat' first|simp -dsimp only[go_sem,e7,J,ga,hd,hf,L,ha,hc,he,Nat.zero_add,Int.reduceBEq,Int.reduceBNe,cC,cO,cS,cFd,aI,List.replicate_succ,List.replicate_zero,List.flatten_cons,List.flatten_nil,List.cons_append,List.nil_append,List.set_cons_zero,List.set_cons_succ,List.length_cons,List.length_nil,List.length_set,List.mem_singleton,List.mem_cons,List.not_mem_nil,or_false,false_or,Vs.Name.t.injEq,List.getD_cons_zero,List.getD_cons_succ,Vs.Name.b.injEq]|apply Br.mk<;>intro h<;>try simp -dsimp only[h]|refine aD.c (by first|exact O) ?_|refine aC ?_|fail
 all_goals first|omega|exact⟨_,_,rfl,rfl⟩
attribute [local go_sem] Int.reduceBEq Int.reduceBNe cC cO cFd aI List.replicate_succ List.replicate_zero List.flatten_cons List.flatten_nil List.cons_append List.nil_append List.set_cons_zero List.set_cons_succ List.length_cons List.length_nil List.length_set List.mem_singleton List.mem_cons List.not_mem_nil or_false false_or Vs.Name.t.injEq List.getD_cons_zero List.getD_cons_succ Vs.Name.b.injEq in
theorem aHB (x:Stp) (hz:x.text.size≤1048576) (o:Off) (w:Nat) (I:okO w o) (hv:fG x (wO o.trays)=true) (H:stC x o≠0):Vs.Fn Tryz.prog F.uQ [.var [.loc (.b 1) 0 o.trays.length,.loc (.b 2) 0 o.totals.length] false,.arr 1 (E cD o.trays) false,.arr 1 (E cTs o.totals) false] [.ptr (.b 0) 0 0,.ro (cS x)] (.v (.int .i64 (stC x o))) ([.var [.loc (.b 1) 0 o.trays.length,.loc (.b 2) 0 o.totals.length] false,.arr 1 (E cD o.trays) false,.arr 1 (E cTs o.totals) false].map some):=by
 have ha:=fZ I;have hd:=I.2.1;have hc:=I.2.2.2.1;have G:=uN I hv;have ma:=fK G.a;have mb:=fK G.b;have ga:=gW G.a;have gb:=gW G.b;have gt:=gW G.to;have a0:=G.a.1;have a1:=G.a.2;have t0:=G.to.1;have t1:=G.to.2;have O:(E cD o.trays).length=o.trays.length:=aI _;have U:(E cTs o.totals).length=o.totals.length:=aI _;have L:(E cD o.trays).take o.trays.length=E cD o.trays:=List.take_of_length_le (by omega);have M:(E cTs o.totals).take o.totals.length=E cTs o.totals:=List.take_of_length_le (by omega);by_cases h7:x.kind=7
 ·have e7:(x.kind==7)=true:=beq_iff_eq.2 h7;unfold stC at H⊢;rw[if_pos h7] at H⊢;by_cases Y:20≤o.totals.length
  ·have J:decide ((o.totals.length:Int)≥20)=true:=decide_eq_true (by omega);rw[if_pos Y];refine fn1 CdV.l15Do_k [.b 0,.b 1,.b 2] [.var [.loc (.b 1) 0 o.trays.length,.loc (.b 2) 0 o.totals.length] false,.arr 1 (E cD o.trays) false,.arr 1 (E cTs o.totals) false] fun X=>?_;unfold CdV.l15Do
   repeat' first|simp -dsimp only[go_sem,e7,J,O,U,L,M,cS]|apply Br.mk<;>intro h<;>try simp -dsimp only[h]|refine aC ?_|fail
   all_goals first|omega|exact⟨_,_,rfl,rfl⟩
  rw[if_neg Y] at H⊢;have J:decide ((o.totals.length:Int)≥20)=false:=decide_eq_false (by omega);have da:=I.2.2.1 _ ma;have TO:=aBq (tr o.trays x.a) x.f0 x.f1 x.s0 x.s1 (nN I.1.2 da) da.1 (vC (l7 I ma) G.f) (aAC (l7 I ma) (G.n h7));cases hb:jK x.f0 x.f1 x.s0 x.s1 (tr o.trays x.a)
  ·rw[aDl hb,hb] at TO;simp only[Bool.false_eq_true,if_false] at TO;rw[if_neg (by decide)];refine fn1 CdV.l15Do_k [.b 0,.b 1,.b 2] [.var [.loc (.b 1) 0 o.trays.length,.loc (.b 2) 0 o.totals.length] false,.arr 1 (E cD o.trays) false,.arr 1 (E cTs o.totals) false] fun X=>?_;unfold CdV.l15Do
   repeat' first|simp -dsimp only[go_sem,e7,J,ga,O,U,L,M,cS]|apply Br.mk<;>intro h<;>try simp -dsimp only[h]|refine aD.c (by first|exact TO) ?_|refine aC ?_|fail
   all_goals first|omega|exact⟨_,_,rfl,rfl⟩
  ·rw[if_pos hb] at H;exact absurd rfl H
 ·have e7:(x.kind==7)=false:=beq_eq_false_iff_ne.2 h7;have MK:=aEJ x hz o.trays ha.1.2 ha.1.1 G.a G.b o.totals;rw[show stC x o=dkC x (tr o.trays x.a) (tr o.trays x.b) by unfold stC;rw[if_neg h7]] at H⊢;rw[aFZ H] at MK;have e0:(dkC x (tr o.trays x.a) (tr o.trays x.b)==0)=false:=beq_eq_false_iff_ne.2 H;generalize dkC x (tr o.trays x.a) (tr o.trays x.b)=c at *
  refine fn1 CdV.l15Do_k [.b 0,.b 1,.b 2] [.var [.loc (.b 1) 0 o.trays.length,.loc (.b 2) 0 o.totals.length] false,.arr 1 (E cD o.trays) false,.arr 1 (E cTs o.totals) false] fun X=>?_;unfold CdV.l15Do
  repeat' first|simp -dsimp only[go_sem,e7,e0,O,U,L,M,cS]|apply Br.mk<;>intro h<;>try simp -dsimp only[h]|refine aD.borG (B:=[.b 0,.b 1,.b 2]) (by first|exact MK) rfl ?_|refine aC ?_|fail
  all_goals first|omega|exact⟨_,_,rfl,rfl⟩
theorem aHC (x:Stp) (hz:x.text.size≤1048576) (o:Off) (w:Nat) (I:okO w o) (hv:fG x (wO o.trays)=true) (h7:x.kind≠7) (J:stC x o=0):Vs.Fn Tryz.prog F.uQ [.var [.loc (.b 1) 0 o.trays.length,.loc (.b 2) 0 o.totals.length] false,.arr 1 (E cD o.trays) false,.arr 1 (E cTs o.totals) false] [.ptr (.b 0) 0 0,.ro (cS x)] (.v (.int .i64 0)) ([.var [.loc (.b 1) 0 o.trays.length,.loc (.b 2) 0 o.totals.length] false,.arr 1 (E cD (o.trays.set x.to.toNat (dkL x (tr o.trays x.a) (tr o.trays x.b)))) false,.arr 1 (E cTs o.totals) false].map some):=by
 have H:=fZ I;have hb:=I.2.1;have ha:=I.2.2.2.1;have G:=uN I hv;have ma:=fK G.a;have mb:=fK G.b;have ga:=gW G.a;have gb:=gW G.b;have gt:=gW G.to;have a0:=G.a.1;have a1:=G.a.2;have t0:=G.to.1;have t1:=G.to.2;have O:(E cD o.trays).length=o.trays.length:=aI _;have U:(E cTs o.totals).length=o.totals.length:=aI _;have L:(E cD o.trays).take o.trays.length=E cD o.trays:=List.take_of_length_le (by omega);have M:(E cTs o.totals).take o.totals.length=E cTs o.totals:=List.take_of_length_le (by omega);have e7:(x.kind==7)=false:=beq_eq_false_iff_ne.2 h7;have MK:=aEJ x hz o.trays H.1.2 H.1.1 G.a G.b o.totals;rw[show stC x o=dkC x (tr o.trays x.a) (tr o.trays x.b) by unfold stC;rw[if_neg h7]] at J;rw[aFY J,J] at MK;generalize dkL x (tr o.trays x.a) (tr o.trays x.b)=D at *
 have Y:=aGc o.trays x.to.toNat D;refine fn1 CdV.l15Do_k [.b 0,.b 1,.b 2] [.var [.loc (.b 1) 0 o.trays.length,.loc (.b 2) 0 o.totals.length] false,.arr 1 (E cD (o.trays.set x.to.toNat D)) false,.arr 1 (E cTs o.totals) false] fun X=>?_;unfold CdV.l15Do
 repeat' first|simp -dsimp only[go_sem,e7,gt,O,U,Y,L,M,Int.reduceBEq,Int.reduceBNe,cC,cO,cS,cFd,aI,List.replicate_succ,List.replicate_zero,List.flatten_cons,List.flatten_nil,List.cons_append,List.nil_append,List.set_cons_zero,List.set_cons_succ,List.length_cons,List.length_nil,List.length_set,List.mem_singleton,List.mem_cons,List.not_mem_nil,or_false,false_or,Vs.Name.t.injEq,List.getD_cons_zero,List.getD_cons_succ,Vs.Name.b.injEq]|apply Br.mk<;>intro h<;>try simp -dsimp only[h]|refine aD.borG (B:=[.b 0,.b 1,.b 2]) (by first|exact MK) rfl ?_|refine aC ?_|fail
 all_goals first|omega|exact⟨_,_,rfl,rfl⟩
theorem aFG (x:Stp) (hz:x.text.size≤1048576) (o:Off) (w:Nat) (H:okO w o) (hv:fG x (wO o.trays)=true) (U:x.kind=7) (I:stC x o=0):Vs.Fn Tryz.prog F.uQ [.var [.loc (.b 1) 0 o.trays.length,.loc (.b 2) 0 o.totals.length] false,.arr 1 (E cD o.trays) false,.arr 1 (E cTs o.totals) false] [.ptr (.b 0) 0 0,.ro (cS x)] (.v (.int .i64 0)) [some (.var [.loc (.b 1) 0 o.trays.length,.loc (.b 3) 0 (o.totals.length+1)] false),some (.arr 1 (E cD o.trays) false),none,some (.arr 1 (E cTs (o.totals++[iI x.f0 x.f1 x.s0 x.s1 (tr o.trays x.a)])) false)]:=by
 have hk:=fZ H;have hg:=H.2.1;have hf:=H.2.2.2.1;have G:=uN H hv;have ma:=fK G.a;have mb:=fK G.b;have ga:=gW G.a;have gb:=gW G.b;have gt:=gW G.to;have a0:=G.a.1;have a1:=G.a.2;have t0:=G.to.1;have t1:=G.to.2;have hc:(E cD o.trays).length=o.trays.length:=aI _;have hd:(E cTs o.totals).length=o.totals.length:=aI _;have Y:(E cD o.trays).take o.trays.length=E cD o.trays:=List.take_of_length_le (by omega);have ha:(E cTs o.totals).take o.totals.length=E cTs o.totals:=List.take_of_length_le (by omega);have e7:(x.kind==7)=true:=beq_iff_eq.2 U;unfold stC at I;rw[if_pos U] at I;have O:¬20≤o.totals.length:=by intro h;rw[if_pos h] at I;cases I
 rw[if_neg O] at I;have M:decide ((o.totals.length:Int)≥20)=false:=decide_eq_false (by omega)
 have J:jK x.f0 x.f1 x.s0 x.s1 (tr o.trays x.a)=true:=by
  cases J:jK x.f0 x.f1 x.s0 x.s1 (tr o.trays x.a)
  ·rw[J] at I;cases I
  ·rfl
 have da:=H.2.2.1 _ ma;have L:=aBq (tr o.trays x.a) x.f0 x.f1 x.s0 x.s1 (nN H.1.2 da) da.1 (vC (l7 H ma) G.f) (aAC (l7 H ma) (G.n U));rw[aDk J,J] at L;simp only[if_true] at L;have he:=aJN o.totals (iI x.f0 x.f1 x.s0 x.s1 (tr o.trays x.a));refine CdV.l15Do_k.o.fnD Tryz.mixed (hin:=[.var [.loc (.b 1) 0 o.trays.length,.loc (.b 2) 0 o.totals.length] false,.arr 1 (E cD o.trays) false,.arr 1 (E cTs o.totals) false]) (args:=[.ptr (.b 0) 0 0,.ro (cS x)]) _ _ [.b 0,.b 1,.b 2,.t 51 0] [some (.var [.loc (.b 1) 0 o.trays.length,.loc (.b 3) 0 (o.totals.length+1)] false),some (.arr 1 (E cD o.trays) false),none,some (.arr 1 (E cTs (o.totals++[iI x.f0 x.f1 x.s0 x.s1 (tr o.trays x.a)])) false)] CdV.l15Do_k.n CdV.l15Do_k.r rfl rfl (by intro j hj;rcases j with _|_|_|j<;>first|rfl|(simp at hj;done)|(simp at hj;omega)) fun X=>?_;unfold CdV.l15Do
 repeat' first|simp -dsimp only[go_sem,e7,M,ga,hc,hd,he,Y,ha,Int.reduceBEq,Int.reduceBNe,cC,cO,cS,cFd,aI,List.replicate_succ,List.replicate_zero,List.flatten_cons,List.flatten_nil,List.cons_append,List.nil_append,List.set_cons_zero,List.set_cons_succ,List.length_cons,List.length_nil,List.length_set,List.mem_singleton,List.mem_cons,List.not_mem_nil,or_false,false_or,Vs.Name.t.injEq,List.getD_cons_zero,List.getD_cons_succ,Vs.Name.b.injEq]|apply Br.mk<;>intro h<;>try simp -dsimp only[h]|refine aD.c (by first|exact L) ?_|refine aC ?_|fail
 all_goals first|omega|exact⟨_,_,rfl,rfl⟩
end
section
variable [Vs.Envs]
attribute [local irreducible] Vs.Fn chOK areCh chTo chAt l03 chB rk cd3 chI stp stpTo
theorem aKb {k:Nat}{S:Nat→Prop}{w:World}{rows F:List (List AV)}{v:Value} (I:rows.length=F.length) (L:∀i,i<F.length→(F.getD i []).length=k)
  (J:∀i j,i<rows.length→j<k→∀u,RC S w ((rows.getD i []).getD j .junk) u→RC S w ((F.getD i []).getD j .junk) u) (h:RC S w (.sl k rows) v):RC S w (.sl k F) v:=by
 cases h with
 | sl _ _ base cap x off xs hb hc' ho hr hk' hcap =>
  rw[I];exact RC.sl k F base cap x off xs (fun H=>hb (fun e=>H (List.eq_nil_of_length_eq_zero (by rw[←I,e];rfl)))) (fun i j hi G=>hc' i j (by omega) G) (fun i j hi G=>ho i j (by omega) G) (fun i j hi G=>J i j (by omega) G _ (hr i j (by omega) G)) L (by omega)
def yC (l:List (List Int)):List (List AV):=[[.sl 1 (E cC l)],[.v (.slice none 0 0)],[.v (.slice none 0 0)],[.v (.slice none 0 0)],[.v (.slice none 0 0)],[.v (.slice none 0 0)]]
def T0 (l:List (List Int)):List (List (List Int)):=l::List.replicate 5 []
def O0 (l:List (List Int)):Off:=⟨T0 l,[]⟩
theorem aIx {S:Nat→Prop}{w:World}{l:List (List Int)}{v:Value} (h:RC S w (.sl 1 (yC l)) v):RC S w (.sl 1 (E cD (T0 l))) v:=by
 refine aKb (rows:=yC l) rfl (fun i hi=>?_) (fun i j hi G u F=>?_) h
 ·match i,hi with
  |0,_=>rfl
  |1,_=>rfl
  |2,_=>rfl
  |3,_=>rfl
  |4,_=>rfl
  |5,_=>rfl
  |n+6,hi=>exact absurd hi (by simp[E,T0])
 ·obtain rfl:j=0:=by omega
  match i,hi with
  |0,_=>exact F
  |1,_=>exact aAz F
  |2,_=>exact aAz F
  |3,_=>exact aAz F
  |4,_=>exact aAz F
  |5,_=>exact aAz F
  |n+6,hi=>exact absurd hi (by simp[yC])
theorem aGE {S:Nat→Prop}{w:World}{l:List (List Int)}{v:Value}{ρ:Vs.Name→Option Nat}{κ:Vs.Name→Nat}{hh:Vs.Name→Option Blk} (h:RV S w ρ κ hh (.agg [.sl 1 (yC l),.sl 1 []]) v):RV S w ρ κ hh (.agg (cO (O0 l))) v:=by
 obtain⟨vs,rfl,F,h2⟩:=gL h;refine .agg _ _ F fun j G=>?_
 match j,G with
 |0,_=>exact .clo (aIx (sI (h2 0 (by simp))))
 |1,_=>exact h2 1 (by simp)
theorem aDd {l:List (List Int)} (G:bB l=true):okO (bD l).toNat (O0 l):=by
 have J:=aDe G;simp only[inB,Bool.and_eq_true,decide_eq_true_eq] at J;refine⟨⟨by omega,by omega⟩,rfl,fun d H=>?_,by simp[O0],fun t L=>absurd L (by simp[O0])⟩;rcases List.mem_cons.1 H with rfl|H
 ·refine⟨G,fun c F=>?_⟩;simp only[bB,Bool.and_eq_true,List.all_eq_true,decide_eq_true_eq] at G;have I:d.length≠0:=by intro e;rw[List.eq_nil_of_length_eq_zero e] at F;cases F
  rw[(G.1 c F).2,bD,if_neg I,Int.toNat_natCast]
 ·rw[(List.mem_replicate.1 H).2];exact⟨by decide,fun c F=>absurd F (by simp)⟩
theorem wL (l:List (List Int)) (G:aU l) (J:bB l=true):Fz F.oV [.sl 1 (E cC l)] (.tup [.agg [.sl 1 (yC l),.sl 1 []],.v (.int .i64 0)]):=by
 have H:=lM l G.2 G.1;rw[J] at H;have I:=aBR l G;refine fn0 Cd.i_NewOffice_k fun X=>?_
 repeat' first|simp -dsimp only[go_sem,yC,Int.reduceBEq,Int.reduceBNe,cC,cO,cS,cFd,aI,List.replicate_succ,List.replicate_zero,List.flatten_cons,List.flatten_nil,List.cons_append,List.nil_append,List.set_cons_zero,List.set_cons_succ,List.length_cons,List.length_nil,List.length_set,List.mem_singleton,List.mem_cons,List.not_mem_nil,or_false,false_or,Vs.Name.t.injEq,List.getD_cons_zero,List.getD_cons_succ,Vs.Name.b.injEq]|apply Br.mk<;>intro h<;>try simp -dsimp only[h]|refine aD.c (by first|exact H|exact I) ?_|refine aC ?_|fail
 all_goals first|omega|exact⟨_,_,rfl,rfl⟩
def TK (l:List (List Int)) (k:Nat):List (List (List Int)):=l::List.replicate k []
theorem aJJ (l:List (List Int)) (k:Nat):(TK l k).length=k+1:=by unfold TK;rw[List.length_cons,List.length_replicate]
theorem E_snN (l:List (List Int)) (k:Nat):E cD (TK l k)++[[.sl 1 []]]=E cD (TK l (k+1)):=by
 unfold TK;rw[List.replicate_succ',←List.cons_append,aY];rfl
attribute [local go_sem] Int.reduceBEq Int.reduceBNe cO cS cFd aI List.replicate_succ List.replicate_zero List.flatten_cons List.flatten_nil List.cons_append List.nil_append List.set_cons_zero List.set_cons_succ List.length_cons List.length_nil List.length_set List.mem_singleton List.mem_cons List.not_mem_nil or_false false_or Vs.Name.t.injEq List.getD_cons_zero List.getD_cons_succ Vs.Name.b.injEq in
theorem aLB (l:List (List Int)) (O:aU l):Fz F.vT [.sl 1 (E cC l)] (.agg [.sl 1 (E cD (T0 l)),.v (.slice none 0 0)]):=by
 have M:=aDM l O;refine fn0 Cd.s_l15New_k fun X=>?_
 repeat' first|simp -dsimp only[go_sem,cC]|apply Br.mk<;>intro h<;>try simp -dsimp only[h]|refine aD.c (by first|exact M) ?_|refine aC ?_|fail
 have e0:([[.sl 1 (E cC l)]]:List (List AV))=E cD (TK l 0):=rfl;refine aN.atR dM (X:={k:Nat // k≤5}) (fun k=>[(4,.v (.int .i64 (k.1+1:Nat)))]) (fun k=>[(.t 3 0,.var [.loc (.t 7 0) 0 (k.1+1),.v (.slice none 0 0)] false),(.t 7 0,.arr 1 (E cD (TK l k.1)) false)]) (fun k=>5-k.1) ⟨0,by omega⟩ ?_ ?_
 ·simp[Vs.LeL,Vs.look,Vs.aB,Vs.aQ,Vs.aL,Vs.hset,Vs.aM,Vs.E,cD,TK]
 ·rintro⟨k,hi⟩
  try dsimp only at hi
  try simp -dsimp only[go_sem,cC]
  refine Br.mk (fun I=>?_) fun I=>?_
  ·have U:k<5:=by first|(simp at I;omega)|omega
   have Y:IntKind.i64.wrap ((k+1:Nat)+1:Int)=((k+1+1:Nat):Int):=by rw[aP (by omega) (by omega)];omega
   have G:=E_snN l k;have H:(E cD (TK l k)).length=k+1:=by rw[aI,aJJ]
   repeat' first|simp -dsimp only[go_sem,Y,G,H,cC]|apply Br.mk<;>intro h<;>try simp -dsimp only[h]|refine aC ?_|refine⟨[],rfl,rfl,?_⟩|fail
   all_goals first|omega|(refine⟨⟨k+1,by omega⟩,.inr ⟨.t 17 0,.t 7 0,by decide,rfl,?_⟩,by simp only;omega⟩;simp[Vs.mX,Vs.nmF,Vs.rn,Vs.rnL,Vs.rnB,Vs.LeL,Vs.look,Vs.aB,Vs.aQ,Vs.aL,Vs.hset,Vs.aM,G];done)
  ·have J:k=5:=by
    have:¬k<5:=by first|(simp at I;omega)|omega
    omega
   subst J;have H:(E cD (TK l 5)).length=6:=by rw[aI,aJJ]
   have L:(E cD (TK l 5)).take 6=E cD (TK l 5):=List.take_of_length_le (by omega);rw[show T0 l=TK l 5 from rfl]
   repeat' first|simp -dsimp only[go_sem,H,L,cC]|apply Br.mk<;>intro h<;>try simp -dsimp only[h]|refine And.intro ?_ (fun h=>absurd rfl h)|refine aC ?_|fail
   all_goals first|omega|exact⟨_,_,rfl,rfl⟩|exact⟨⟨_,_,rfl,rfl⟩,fun h=>h rfl⟩
end
section
variable [Vs.Envs]
attribute [local irreducible] Vs.Fn chOK areCh chTo chAt l03 chB rk cd3 chI stp stpTo
attribute [local go_sem] Int.reduceBEq Int.reduceBNe cC cTs cD aI List.replicate_succ List.replicate_zero List.flatten_cons List.flatten_nil List.cons_append List.nil_append List.set_cons_zero List.set_cons_succ List.length_cons List.length_nil List.length_set List.mem_singleton List.mem_cons List.not_mem_nil or_false false_or Vs.Name.t.injEq in
theorem aFA (o:Off) (ho:yJ o):Fz F.fE [.agg (cO o)] (.agg (cO o)):=by
 have hn:=ho.1.1;have hm:=ho.2.1;refine fn1 Cd.i_newOffice_k [] [] fun X=>?_;unfold Cd.fE
 repeat' first|simp -dsimp only[go_sem,cO]|apply Br.mk<;>intro h<;>try simp -dsimp only[h]|refine aC ?_|fail
 refine aN.atR dM (X:={i:Nat // i≤o.trays.length}) (fun i=>[(14,.v (.int .i64 (i.1:Nat)))]) (fun i=>[(.t 3 0,.var [.loc (.t 8 0) 0 i.1,.loc (.t 9 0) 0 0] false),(.t 8 0,.arr 1 (E cD (o.trays.take i.1)) false)]) (fun i=>o.trays.length-i.1) ⟨0,by omega⟩ ?_ ?_
 ·simp[Vs.LeL,Vs.look,Vs.aB,Vs.aQ,Vs.aL,Vs.hset,Vs.aM,Vs.E]
 ·rintro⟨i,hi⟩
  try dsimp only at hi
  try simp -dsimp only[go_sem,cO]
  refine Br.mk (fun hc=>?_) fun hc=>?_
  ·have hlt:i<o.trays.length:=Dq;have hw:=aH hlt (by omega);have hat:=aJB hlt;have hrow:=aD0 hlt;have hal:(E cD (o.trays.take i)).length=i:=by rw[aI];simp;omega
   have ND:=aBR o.trays[i] (ho.1.2 _ (List.getElem_mem hlt))
   repeat' first|simp -dsimp only[go_sem,hw,hrow,hal,hat,cO]|apply Br.mk<;>intro h<;>try simp -dsimp only[h]|refine aD.c (by first|exact ND) ?_|refine aC ?_|fail
   all_goals first|omega|(refine⟨⟨i+1,by omega⟩,.inr ⟨.t 23 0,.t 8 0,by decide,rfl,?_⟩,by simp only;omega⟩;simp[Vs.mX,Vs.nmF,Vs.rn,Vs.rnL,Vs.rnB,Vs.LeL,Vs.look,Vs.aB,Vs.aQ,Vs.aL,Vs.hset,Vs.aM,hrow];done)
  ·have hge:i=o.trays.length:=by
    have:¬i<o.trays.length:=Dq;omega
   subst hge
   try simp -dsimp only[go_sem,cO]
   refine⟨?_,fun h=>h rfl⟩
   repeat' first|simp -dsimp only[go_sem,cO]|apply Br.mk<;>intro h<;>try simp -dsimp only[h]|refine aC ?_|fail
   refine aN.atR dM (X:={i:Nat // i≤o.totals.length}) (fun i=>[(29,.v (.int .i64 (i.1:Nat)))]) (fun i=>[(.t 3 0,.var [.loc (.t 8 0) 0 o.trays.length,.loc (.t 9 0) 0 i.1] false),(.t 9 0,.arr 1 (E cTs (o.totals.take i.1)) false)]) (fun i=>o.totals.length-i.1) ⟨0,by omega⟩ ?_ ?_
   ·simp[Vs.LeL,Vs.look,Vs.aB,Vs.aQ,Vs.aL,Vs.hset,Vs.aM,Vs.E]
   ·rintro⟨i,hi⟩
    try dsimp only at hi
    try simp -dsimp only[go_sem,cO]
    refine Br.mk (fun hc=>?_) fun hc=>?_
    ·have hlt:i<o.totals.length:=Dq;have hw:=aH hlt (by omega);have hat:=aCj hlt;have hrow:=aDZ hlt;have hal:(E cTs (o.totals.take i)).length=i:=by rw[aI];simp;omega
     have hs:=(ho.2.2 _ (List.getElem_mem hlt)).1
     repeat' first|simp -dsimp only[go_sem,hw,hrow,hal,hat,cO]|apply Br.mk<;>intro h<;>try simp -dsimp only[h]|refine aC ?_|fail
     all_goals first|omega|(refine⟨⟨i+1,by omega⟩,.inr ⟨.t 39 0,.t 9 0,by decide,rfl,?_⟩,by simp only;omega⟩;simp[Vs.mX,Vs.nmF,Vs.rn,Vs.rnL,Vs.rnB,Vs.LeL,Vs.look,Vs.aB,Vs.aQ,Vs.aL,Vs.hset,Vs.aM,hrow];done)
    ·have hge:i=o.totals.length:=by
      have:¬i<o.totals.length:=Dq;omega
     subst hge
     try simp -dsimp only[go_sem,cO]
     refine⟨?_,fun h=>h rfl⟩;have ht1:(E cD (o.trays.take o.trays.length))=E cD o.trays:=by rw[List.take_length]
     have hq1:(E cD o.trays).take o.trays.length=E cD o.trays:=List.take_of_length_le (by rw[aI];exact Nat.le_refl _);have hq2:(E cTs o.totals).take o.totals.length=E cTs o.totals:=List.take_of_length_le (by rw[aI];exact Nat.le_refl _);have ht2:(E cTs (o.totals.take o.totals.length))=E cTs o.totals:=by rw[List.take_length]
     repeat' first|simp -dsimp only[go_sem,ht1,ht2,hq1,hq2,cO]|apply Br.mk<;>intro h<;>try simp -dsimp only[h]|refine aC ?_|fail
     all_goals first|omega|exact⟨_,_,rfl,rfl⟩
theorem aDt (l:List Stp):Fz F.iD [.sl 9 (E cS l)] (.v (.int .i64 l.length)):=by
 refine fn0 Cd.i_size_i_Step__k fun X=>?_
 repeat' first|simp -dsimp only[go_sem]|apply Br.mk<;>intro h<;>try simp -dsimp only[h]|refine aC ?_|fail
 all_goals(simp_all)
attribute [local go_sem] Int.reduceBEq Int.reduceBNe cC cFd aI List.replicate_succ List.replicate_zero List.flatten_cons List.flatten_nil List.cons_append List.nil_append List.set_cons_zero List.set_cons_succ List.length_cons List.length_nil List.length_set List.mem_singleton List.mem_cons List.not_mem_nil or_false false_or Vs.Name.t.injEq List.getD_cons_zero List.getD_cons_succ Vs.Name.b.injEq in
theorem aJ0 (o:Off) (w:Nat) (ho:okO w o) (fl:List Stp) (hz:∀x,x∈fl→x.text.size≤1048576) (hl:fl.length≤1048576):Fz F.kJ [.agg (cO o),.sl 9 (E cS fl)] (.tup [.agg (cO (run o fl).1),.v (.int .i64 ((run o fl).2:Nat))]):=by
 have NO:=aFA o (fZ ho);have SZ:=aDt fl;have hI0:=aAy o fl;generalize hR:run o fl=R;refine fn0 Cd.i_runFlow_k fun X=>?_
 repeat' first|simp -dsimp only[go_sem,cO,cS]|apply Br.mk<;>intro h<;>try simp -dsimp only[h]|refine aD.c (by first|exact NO) ?_|refine aC ?_|fail
 refine aN.at dM (X:={p:Nat×Off // p.1≤fl.length∧okO w p.2∧aBI o fl p.1 p.2}) (fun p=>[(15,.v (.int .i64 (p.1.1:Nat)))]) (fun p=>[(.t 6 0,.var (cO p.1.2) false)]) (fun p=>fl.length-p.1.1) ⟨(0,o),by simp,ho,hI0⟩ ?_ ?_
 ·simp[Vs.LeL,Vs.look,Vs.aB,Vs.aQ,Vs.aL,Vs.hset,Vs.aM,cO]
 ·rintro⟨⟨i,o'⟩,hi,ho',hrun⟩;dsimp only at hi ho' hrun;simp -dsimp only[go_sem,cO,cS];refine Br.mk (fun hc=>?_) fun hc=>?_
  ·have hlt:i<fl.length:=Dq;have hw:=aH hlt (by omega);have gx:(E cS fl).getD i []=cS fl[i]:=aS hlt;have DS:=aJr fl[i] (hz _ (List.getElem_mem hlt)) o' w ho';by_cases hd:dsC fl[i] o'=0
   ·rw[show dsV fl[i] o'=.agg (cO (stO fl[i] o')) by unfold dsV;rw[if_pos hd],hd] at DS;have hnext:=xH hlt hrun hd;have hok:=aE1 ho' hd;generalize stO fl[i] o'=o2 at *
    repeat' first|simp -dsimp only[go_sem,hw,gx,cO,cS]|apply Br.mk<;>intro h<;>try simp -dsimp only[h]|refine aD.c (by first|exact DS) ?_|refine aC ?_|fail
    all_goals first|omega|(refine⟨⟨(i+1,o2),by simp only;omega,hok,hnext⟩,?_,by simp only;omega⟩;simp[Vs.LeL,Vs.look,Vs.aB,Vs.aQ,Vs.aL,Vs.hset,Vs.aM,cO];done)
   ·rw[show dsV fl[i] o'=noO by unfold dsV;rw[if_neg hd]] at DS;have e0:(dsC fl[i] o' != 0)=true:=by simp[hd]
    have hstop:=qB hlt hrun hd;rw[hR] at hstop;subst hstop;generalize dsC fl[i] o'=c at *
    repeat' first|simp -dsimp only[go_sem,hw,gx,e0,noO,cO,cS]|apply Br.mk<;>intro h<;>try simp -dsimp only[h]|refine aD.c (by first|exact DS) ?_|refine aC ?_|fail
    all_goals first|omega|exact⟨_,_,rfl,rfl⟩
  ·have hge:i=fl.length:=by
    have:¬i<fl.length:=Dq;omega
   subst hge;have hstop:=zO hrun;rw[hR] at hstop;subst hstop
   repeat' first|simp -dsimp only[go_sem,cO,cS]|apply Br.mk<;>intro h<;>try simp -dsimp only[h]|refine aD.c (by first|exact SZ) ?_|refine And.intro ?_ (fun h=>absurd rfl h)|refine aC ?_|fail
   all_goals first|omega|exact⟨_,_,rfl,rfl⟩|exact⟨⟨_,_,rfl,rfl⟩,fun h=>h rfl⟩
end
end Go.Proofs.YtkgeiaideklmoaaGreat
