/- The deck that arises by a step: the program and the reference. -/
import Derived.Test.YtkgeiaideklmoaaGreatZwVg
import Derived.Test.YtkgeiaideklmoaaGreatZwVh
import Derived.Test.YtkgeiaideklmoaaGreatZwMd
import Derived.Test.YtkgeiaideklmoaaGreatZwVl
import Derived.Test.YtkgeiaideklmoaaGreatZwQh
set_option linter.all false
set_option maxHeartbeats 8000000
namespace Go.Proofs.YtkgeiaideklmoaaGreat
open Go.Vs
variable [Vs.Envs]
attribute [local irreducible] Vs.Fn aZ mgC iN mtC iU flt dH pJ mat bL aP bM bP l03 chB rk cd3 chI stp aQ
def tr (T:List (List (List Int))) (i:Int):List (List Int):=T.getD i.toNat []
def dkC (x:Stp) (a b:List (List Int)):Int:=if x.kind=1 then aZ x.f0 x.f1 a else if x.kind=2 then mgC x.f0 x.f1 a b else if x.kind=5 then iN x.f0 x.f1 x.text a else if x.kind=6 then aZ x.f0 x.f1 a else mtC x.f0 x.f1 a b
def dkL (x:Stp) (a b:List (List Int)):List (List Int):=if x.kind=1 then iU x.f0 x.f1 a else if x.kind=2 then iU x.f0 x.f1 (a++b) else if x.kind=5 then flt (dH x.f0 x.f1 x.text) a else if x.kind=6 then pJ x.f0 x.f1 a else if x.kind=3 then mat x.f0 x.f1 a b true else mat x.f0 x.f1 a b false
def dkV (x:Stp) (a b:List (List Int)):AV:=if dkC x a b=0 then .sl 1 (E cC (dkL x a b)) else .v (.slice none 0 0)
theorem iG {T:List (List (List Int))}{i:Int} (h:0<=i∧i<(T.length:Int)):(E cD T).getD i.toNat []=[.sl 1 (E cC (tr T i))]:=by
 have F:i.toNat<T.length:=by omega
 rw[aN F];simp[cD,tr,List.getD,F]
theorem gI {T:List (List (List Int))}{i:Int} (h:0<=i∧i<(T.length:Int)):tr T i∈T:=by
 have F:i.toNat<T.length:=by omega
 rw[show tr T i=T[i.toNat] by simp[tr,List.getD,F]];exact Aa F
attribute [local go_sem] Int.reduceBEq Int.reduceBNe cO cFd aH Af Ag Ao Aq Ae Aj Ad Al Ac Ai Ap Av Am Ak AR BQ Vs.Name.t.injEq Vs.Name.b.injEq Ar AY in
theorem aFG (x:Stp) (hz:x.text.size<=1048576) (T:List (List (List Int))) (hs:∀d,d∈T->aY d) (hl:T.length<=1048576) (Z:0<=x.a∧x.a<(T.length:Int)) (iB:0<=x.b∧x.b<(T.length:Int)) (TV:List (List Tot)) (h0:dkC x (tr T x.a) (tr T x.b)≠0):Fz F.qJ [.agg [.sl 1 (E cD T),.sl 1 (E cTs TV)],.agg (cS x)] (.tup [.v (.slice none 0 0),.v (.int .i64 (dkC x (tr T x.a) (tr T x.b)))]):=by
 have J:=hs _ (gI Z);have sb:=hs _ (gI iB);have gA:=iG Z;have L:=iG iB;have a0:=Z.1;have a1:=Z.2;have b0:=iB.1;have b1:=iB.2;by_cases O:x.kind=1
 .have I:dkC x (tr T x.a) (tr T x.b)=aZ x.f0 x.f1 (tr T x.a):=by simp[dkC,O]
  rw[I] at h0⊢;have H:=aDj (tr T x.a) x.f0 x.f1 J.2 J.1;rw[show wT x.f0 x.f1 (tr T x.a)=.v (.slice none 0 0) by unfold wT;rw[AC h0]] at H;generalize aZ x.f0 x.f1 (tr T x.a)=c at *
  refine fn0 Cd.i_deckOf_k λX=>?_
  repeat' first|simp -dsimp only[go_sem,O,gA,L,cS]|apply Br.mk<;>intro h<;>try simp -dsimp only[h]|refine aB.c (by first|exact H) ?_|refine aC ?_|fail
  all_goals first|omega|exact⟨_,_,rfl,rfl⟩
 by_cases h2:x.kind=2
 .have I:dkC x (tr T x.a) (tr T x.b)=mgC x.f0 x.f1 (tr T x.a) (tr T x.b):=by simp[dkC,h2]
  rw[I] at h0⊢;have H:=zU (tr T x.a) (tr T x.b) x.f0 x.f1 J sb h0;generalize mgC x.f0 x.f1 (tr T x.a) (tr T x.b)=c at *
  refine fn0 Cd.i_deckOf_k λX=>?_
  repeat' first|simp -dsimp only[go_sem,h2,gA,L,cS]|apply Br.mk<;>intro h<;>try simp -dsimp only[h]|refine aB.c (by first|exact H) ?_|refine aC ?_|fail
  all_goals first|omega|exact⟨_,_,rfl,rfl⟩
 by_cases U:x.kind=5
 .have I:dkC x (tr T x.a) (tr T x.b)=iN x.f0 x.f1 x.text (tr T x.a):=by simp[dkC,U]
  rw[I] at h0⊢;have H:=aBd (tr T x.a) x.f0 x.f1 x.text J hz;rw[show uB x.f0 x.f1 x.text (tr T x.a)=.v (.slice none 0 0) by unfold uB;rw[AC h0]] at H;generalize iN x.f0 x.f1 x.text (tr T x.a)=c at *
  refine fn0 Cd.i_deckOf_k λX=>?_
  repeat' first|simp -dsimp only[go_sem,U,gA,L,cS]|apply Br.mk<;>intro h<;>try simp -dsimp only[h]|refine aB.c (by first|exact H) ?_|refine aC ?_|fail
  all_goals first|omega|exact⟨_,_,rfl,rfl⟩
 by_cases Y:x.kind=6
 .have I:dkC x (tr T x.a) (tr T x.b)=aZ x.f0 x.f1 (tr T x.a):=by simp[dkC,Y]
  rw[I] at h0⊢;have H:=zV (tr T x.a) x.f0 x.f1 J;rw[show xR x.f0 x.f1 (tr T x.a)=.v (.slice none 0 0) by unfold xR;rw[AC h0]] at H;generalize aZ x.f0 x.f1 (tr T x.a)=c at *
  refine fn0 Cd.i_deckOf_k λX=>?_
  repeat' first|simp -dsimp only[go_sem,Y,gA,L,cS]|apply Br.mk<;>intro h<;>try simp -dsimp only[h]|refine aB.c (by first|exact H) ?_|refine aC ?_|fail
  all_goals first|omega|exact⟨_,_,rfl,rfl⟩
 have I:dkC x (tr T x.a) (tr T x.b)=mtC x.f0 x.f1 (tr T x.a) (tr T x.b):=by simp[dkC,O,h2,U,Y]
 have e1:(x.kind==1)=false:=AB.2 O;have e2:(x.kind==2)=false:=AB.2 h2;have e5:(x.kind==5)=false:=AB.2 U;have e6:(x.kind==6)=false:=AB.2 Y;have H:=aBO (tr T x.a) (tr T x.b) x.f0 x.f1 J sb;rw[I] at h0⊢;have e0:(mtC x.f0 x.f1 (tr T x.a) (tr T x.b) != 0)=true:=by simp[h0]
 rw[show mtV x.f0 x.f1 (tr T x.a) (tr T x.b)=.v (.slice none 0 0) by simp[mtV,h0]] at H;generalize mtC x.f0 x.f1 (tr T x.a) (tr T x.b)=c at *
 refine fn0 Cd.i_deckOf_k λX=>?_
 repeat' first|simp -dsimp only[go_sem,e1,e2,e5,e6,e0,gA,L,cS]|apply Br.mk<;>intro h<;>try simp -dsimp only[h]|refine aB.c (by first|exact H) ?_|refine aC ?_|fail
 all_goals first|omega|exact⟨_,_,rfl,rfl⟩
end Go.Proofs.YtkgeiaideklmoaaGreat
