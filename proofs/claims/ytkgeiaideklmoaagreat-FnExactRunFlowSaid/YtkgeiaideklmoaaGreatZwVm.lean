/- The deck that arises by a step: the program and the reference. -/
import Derived.Test.YtkgeiaideklmoaaGreatZwVg
import Derived.Test.YtkgeiaideklmoaaGreatZwVh
import Derived.Test.YtkgeiaideklmoaaGreatZwMd
import Derived.Test.YtkgeiaideklmoaaGreatZwVl
import Derived.Test.YtkgeiaideklmoaaGreatZwQh
set_option linter.all false
set_option maxHeartbeats 8000000
namespace Go.Proofs.YtkgeiaideklmoaaGreat
open Go.Vs
variable [Vs.Envs]
attribute [local irreducible] Vs.Fn bA mgC iM mtC iP flt dI oC mat bK aO bL bM l03 chB rk cd3 chI stp aP
def tr (T:List (List (List Int))) (i:Int):List (List Int):=T.getD i.toNat []
def dkC (x:Stp) (a b:List (List Int)):Int:=if x.kind=1 then bA x.f0 x.f1 a else if x.kind=2 then mgC x.f0 x.f1 a b else if x.kind=5 then iM x.f0 x.f1 x.text a else if x.kind=6 then bA x.f0 x.f1 a else mtC x.f0 x.f1 a b
def dkL (x:Stp) (a b:List (List Int)):List (List Int):=if x.kind=1 then iP x.f0 x.f1 a else if x.kind=2 then iP x.f0 x.f1 (a++b) else if x.kind=5 then flt (dI x.f0 x.f1 x.text) a else if x.kind=6 then oC x.f0 x.f1 a else if x.kind=3 then mat x.f0 x.f1 a b true else mat x.f0 x.f1 a b false
def dkV (x:Stp) (a b:List (List Int)):AV:=if dkC x a b=0 then .sl 1 (E cC (dkL x a b)) else .v (.slice none 0 0)
theorem iK {T:List (List (List Int))}{i:Int} (h:0<=i∧i<(T.length:Int)):(E cD T).getD i.toNat []=[.sl 1 (E cC (tr T i))]:=by
 have F:i.toNat<T.length:=by omega
 rw[aN F];simp[cD,tr,List.getD,F]
theorem gJ {T:List (List (List Int))}{i:Int} (h:0<=i∧i<(T.length:Int)):tr T i∈T:=by
 have F:i.toNat<T.length:=by omega
 rw[show tr T i=T[i.toNat] by simp[tr,List.getD,F]];exact Aa F
attribute [local go_sem] Int.reduceBEq Int.reduceBNe cO cFd aH Af Ag Al Aq Ae Ai Ac Ak Ab Ah Am Au Ap Ao AX BH Vs.Name.t.injEq Vs.Name.b.injEq Aw A9 in
theorem aF7 (x:Stp) (hz:x.text.size<=1048576) (T:List (List (List Int))) (hs:∀d,d∈T->aZ d) (hl:T.length<=1048576) (Z:0<=x.a∧x.a<(T.length:Int)) (iB:0<=x.b∧x.b<(T.length:Int)) (TV:List (List Tot)) (h0:dkC x (tr T x.a) (tr T x.b)≠0):Fz F.qO [.agg [.sl 1 (E cD T),.sl 1 (E cTs TV)],.agg (cS x)] (.tup [.v (.slice none 0 0),.v (.int .i64 (dkC x (tr T x.a) (tr T x.b)))]):=by
 have J:=hs _ (gJ Z);have sb:=hs _ (gJ iB);have gA:=iK Z;have L:=iK iB;have a0:=Z.1;have a1:=Z.2;have b0:=iB.1;have b1:=iB.2;by_cases O:x.kind=1
 .have I:dkC x (tr T x.a) (tr T x.b)=bA x.f0 x.f1 (tr T x.a):=by simp[dkC,O]
  rw[I] at h0⊢;have H:=aDF (tr T x.a) x.f0 x.f1 J.2 J.1;rw[show xK x.f0 x.f1 (tr T x.a)=.v (.slice none 0 0) by unfold xK;rw[AB h0]] at H;generalize bA x.f0 x.f1 (tr T x.a)=c at *
  refine fn0 Cd.i_deckOf_k λX=>?_
  repeat' first|simp -dsimp only[go_sem,O,gA,L,cS]|apply Br.mk<;>intro h<;>try simp -dsimp only[h]|refine aB.c (by first|exact H) ?_|refine aC ?_|fail
  all_goals first|omega|exact⟨_,_,rfl,rfl⟩
 by_cases h2:x.kind=2
 .have I:dkC x (tr T x.a) (tr T x.b)=mgC x.f0 x.f1 (tr T x.a) (tr T x.b):=by simp[dkC,h2]
  rw[I] at h0⊢;have H:=aAj (tr T x.a) (tr T x.b) x.f0 x.f1 J sb h0;generalize mgC x.f0 x.f1 (tr T x.a) (tr T x.b)=c at *
  refine fn0 Cd.i_deckOf_k λX=>?_
  repeat' first|simp -dsimp only[go_sem,h2,gA,L,cS]|apply Br.mk<;>intro h<;>try simp -dsimp only[h]|refine aB.c (by first|exact H) ?_|refine aC ?_|fail
  all_goals first|omega|exact⟨_,_,rfl,rfl⟩
 by_cases U:x.kind=5
 .have I:dkC x (tr T x.a) (tr T x.b)=iM x.f0 x.f1 x.text (tr T x.a):=by simp[dkC,U]
  rw[I] at h0⊢;have H:=aBu (tr T x.a) x.f0 x.f1 x.text J hz;rw[show uK x.f0 x.f1 x.text (tr T x.a)=.v (.slice none 0 0) by unfold uK;rw[AB h0]] at H;generalize iM x.f0 x.f1 x.text (tr T x.a)=c at *
  refine fn0 Cd.i_deckOf_k λX=>?_
  repeat' first|simp -dsimp only[go_sem,U,gA,L,cS]|apply Br.mk<;>intro h<;>try simp -dsimp only[h]|refine aB.c (by first|exact H) ?_|refine aC ?_|fail
  all_goals first|omega|exact⟨_,_,rfl,rfl⟩
 by_cases Y:x.kind=6
 .have I:dkC x (tr T x.a) (tr T x.b)=bA x.f0 x.f1 (tr T x.a):=by simp[dkC,Y]
  rw[I] at h0⊢;have H:=aAk (tr T x.a) x.f0 x.f1 J;rw[show yG x.f0 x.f1 (tr T x.a)=.v (.slice none 0 0) by unfold yG;rw[AB h0]] at H;generalize bA x.f0 x.f1 (tr T x.a)=c at *
  refine fn0 Cd.i_deckOf_k λX=>?_
  repeat' first|simp -dsimp only[go_sem,Y,gA,L,cS]|apply Br.mk<;>intro h<;>try simp -dsimp only[h]|refine aB.c (by first|exact H) ?_|refine aC ?_|fail
  all_goals first|omega|exact⟨_,_,rfl,rfl⟩
 have I:dkC x (tr T x.a) (tr T x.b)=mtC x.f0 x.f1 (tr T x.a) (tr T x.b):=by simp[dkC,O,h2,U,Y]
 have e1:(x.kind==1)=false:=AC.2 O;have e2:(x.kind==2)=false:=AC.2 h2;have e5:(x.kind==5)=false:=AC.2 U;have e6:(x.kind==6)=false:=AC.2 Y;have H:=aB4 (tr T x.a) (tr T x.b) x.f0 x.f1 J sb;rw[I] at h0⊢;have e0:(mtC x.f0 x.f1 (tr T x.a) (tr T x.b) != 0)=true:=by simp[h0]
 rw[show mtV x.f0 x.f1 (tr T x.a) (tr T x.b)=.v (.slice none 0 0) by simp[mtV,h0]] at H;generalize mtC x.f0 x.f1 (tr T x.a) (tr T x.b)=c at *
 refine fn0 Cd.i_deckOf_k λX=>?_
 repeat' first|simp -dsimp only[go_sem,e1,e2,e5,e6,e0,gA,L,cS]|apply Br.mk<;>intro h<;>try simp -dsimp only[h]|refine aB.c (by first|exact H) ?_|refine aC ?_|fail
 all_goals first|omega|exact⟨_,_,rfl,rfl⟩
end Go.Proofs.YtkgeiaideklmoaaGreat
