/- Sorting and merging keep control totals; the control totals of a deck. -/
import Derived.Test.YtklmdppgonhflaaGreatDoorXwYc
import Derived.Test.YtklmdppgonhflaaGreatDoorXwVf
import Derived.Test.YtklmdppgonhflaaGreatDoorVtR
import Derived.Test.YtklmdppgonhflaaGreatDoorXuF
import Derived.Test.YtklmdppgonhflaaGreatDoorXwVm
import Derived.Test.YtklmdppgonhflaaGreatDoorXwPd
import Derived.Test.YtklmdppgonhflaaGreatDoorXwD
import Derived.Test.YtklmdppgonhflaaGreatDoorVsI
import Derived.Test.YtklmdppgonhflaaGreatDoorXwSh
set_option linter.all false
set_option maxHeartbeats 8000000
namespace Go.Proofs.YtklmdppgonhflaaGreatDoor
open Go.Vs
section
variable [Vs.Envs]
attribute [local irreducible] Vs.Fn bL mgC oC mtC jH xN mat aAN dkC dkL o7 qI gG wO dJ bB dK dL l03 chB rk cd3 chI stp bD
def noO:AV:=.agg [.v (.slice none 0 0),.v (.slice none 0 0)]
def dsV (x:Stp) (o:Off):AV:=if dsC x o=0 then .agg (cO (stO x o)) else noO
theorem aH0 (m:List (List (List Int))) (i:Nat) (d:List (List Int)):(E cD m).set i [.sl 1 (E cC d)]=E cD (m.set i d):=by simp[E,Dc,cD]
theorem aMi (m:List (List Tot)) (t:List Tot):E cTs m++[[.sl 2 (E cT t)]]=E cTs (m++[t]):=by rw[aV];rfl
theorem aE1 {fr to sf st:Int}{l:List (List Int)} (h:o7 fr to sf st l=true):xV fr to sf st l=.sl 2 (E cT (qI fr to sf st l)):=by unfold xV;rw[AP h];rfl
theorem aE2 {fr to sf st:Int}{l:List (List Int)} (h:o7 fr to sf st l=false):xV fr to sf st l=.v (.slice none 0 0):=by unfold xV;rw[h];rfl
theorem aHO {x:Stp}{a b:List (List Int)} (h:dkC x a b=0):dkV x a b=.sl 1 (E cC (dkL x a b)):=by unfold dkV;rw[AP h]
theorem aHP {x:Stp}{a b:List (List Int)} (h:dkC x a b≠0):dkV x a b=.v (.slice none 0 0):=by unfold dkV;rw[AC h]
theorem aNR {x:Stp}{o:Off} (G:gG x (wO o.trays)=true) (F:x.kind≠7):dsC x o=dkC x (tr o.trays x.a) (tr o.trays x.b):=by unfold dsC stC;rw[AP G,AC F]
theorem aKs {x:Stp}{o:Off} (F:x.kind≠7):stO x o=⟨o.trays.set x.to.toNat (dkL x (tr o.trays x.a) (tr o.trays x.b)),o.totals⟩:=by unfold stO;rw[AC F]
theorem aOH {x:Stp}{o:Off} (G:gG x (wO o.trays)=true) (F:x.kind=7):dsC x o=if 20<=o.totals.length then 5 else if o7 x.f0 x.f1 x.s0 x.s1 (tr o.trays x.a) then 0 else 8:=by unfold dsC stC;rw[AP G,AP F]
theorem aKr {x:Stp}{o:Off} (F:x.kind=7):stO x o=⟨o.trays,o.totals++[qI x.f0 x.f1 x.s0 x.s1 (tr o.trays x.a)]⟩:=by unfold stO;rw[AP F]
attribute [local go_sem] Int.reduceBEq Int.reduceBNe cC cFd aH Af Ag Ao Aq Ae Aj Ad Al Ac Ai Ap Av Am Ak AR BQ Vs.Name.t.injEq Ar AY in
theorem aOM (x:Stp) (hz:x.text.size<=1048576) (o:Off) (w:Nat) (J:okO w o):Fz F.zF [.agg (cO o),.agg (cS x)] (.tup [dsV x o,.v (.int .i64 (dsC x o))]):=by
 have M:=iC J;have V:=bS o M;have NO:=aJA o M;have H:=dO x (wO o.trays:Int) hz;rw[wO_in J,CW] at H;have hl:=J.2.1;have hk:=J.2.2.2.1;cases hv:gG x (wO o.trays)
 .rw[hv] at H;rw[show dsC x o=2 by unfold dsC;rw[hv];rfl,show dsV x o=noO by unfold dsV dsC;rw[hv];rfl];refine fn0 Cd.i_doStep_k λX=>?_
  repeat' first|simp -dsimp only[go_sem,noO,cO,cS]|apply Br.mk<;>intro h<;>try simp -dsimp only[h]|refine aA.c (by first|exact H|exact V) ?_|refine aC ?_|refine aC9 ?_|fail
  all_goals first|omega|exact⟨_,_,rfl,rfl⟩
 rw[hv] at H;have G:=wY J hv;have ma:=fM G.a;have mb:=fM G.b;have ga:=jE G.a;have gb:=jE G.b;have a0:=G.a.1;have a1:=G.a.2;have gt:=jE G.to;have t0:=G.to.1;have t1:=G.to.2;have he:(E cD o.trays).length=o.trays.length:=aH _;have hf:(E cTs o.totals).length=o.totals.length:=aH _;have hc:(E cD o.trays).take o.trays.length=E cD o.trays:=Ah (by omega);have hd:(E cTs o.totals).take o.totals.length=E cTs o.totals:=Ah (by omega);by_cases O:x.kind=7
 .have Z:(x.kind==7)=true:=BO.2 O;rw[show dsV x o=if dsC x o=0 then .agg (cO (stO x o)) else noO from rfl,aOH hv O,aKr O];by_cases ha:20<=o.totals.length
  .have I:((o.totals.length:Int)==20)=true:=BO.2 (by omega);rw[AP ha];rw[AC (by decide)];refine fn0 Cd.i_doStep_k λX=>?_
   repeat' first|simp -dsimp only[go_sem,Z,I,noO,cO,cS]|apply Br.mk<;>intro h<;>try simp -dsimp only[h]|refine aA.own (by first|exact NO) rfl ?_|refine aA.c (by first|exact H|exact V) ?_|refine aC ?_|refine aC9 ?_|fail
   all_goals first|omega|exact⟨_,_,rfl,rfl⟩
  .have I:((o.totals.length:Int)==20)=false:=AB.2 (by omega);rw[AC ha];have da:=J.2.2.1 _ ma;have Y:=aKl (tr o.trays x.a) x.f0 x.f1 x.s0 x.s1 (eG da.1 (uX (oD J ma) G.f)) (aHo da.1 (aDt (oD J ma) (G.n O))) (nN J.1.2 da).1;cases hb:o7 x.f0 x.f1 x.s0 x.s1 (tr o.trays x.a)
   .rw[aE2 hb,hb] at Y;simp only[AO,Bc] at Y;rw[AC (by decide),AC (by decide)];refine fn0 Cd.i_doStep_k λX=>?_
    repeat' first|simp -dsimp only[go_sem,Z,I,noO,ga,cO,cS]|apply Br.mk<;>intro h<;>try simp -dsimp only[h]|refine aA.own (by first|exact NO) rfl ?_|refine aA.c (by first|exact H|exact V|exact Y) ?_|refine aC ?_|refine aC9 ?_|fail
    all_goals first|omega|exact⟨_,_,rfl,rfl⟩
   .rw[aE1 hb,hb] at Y;simp only[Bj] at Y;rw[AP rfl,AP rfl];have hg:=aMi o.totals (qI x.f0 x.f1 x.s0 x.s1 (tr o.trays x.a));have U:(E cTs (o.totals++[qI x.f0 x.f1 x.s0 x.s1 (tr o.trays x.a)])).take (o.totals.length+1)=E cTs (o.totals++[qI x.f0 x.f1 x.s0 x.s1 (tr o.trays x.a)]):=Ah (by rw[aH,AX];exact Au _);refine fn0 Cd.i_doStep_k λX=>?_
    repeat' first|simp -dsimp only[go_sem,Z,I,ga,he,hf,hg,hc,hd,U,cO,cS]|apply Br.mk<;>intro h<;>try simp -dsimp only[h]|refine aA.own (by first|exact NO) rfl ?_|refine aA.c (by first|exact H|exact V|exact Y) ?_|refine aC ?_|refine aC9 ?_|fail
    all_goals first|omega|exact⟨_,_,rfl,rfl⟩
 .have Z:(x.kind==7)=false:=AB.2 O;rw[show dsV x o=if dsC x o=0 then .agg (cO (stO x o)) else noO from rfl,aNR hv O,aKs O];have DK:=aGu x hz o.trays M.1.2 M.1.1 G.a G.b o.totals;by_cases h0:dkC x (tr o.trays x.a) (tr o.trays x.b)=0
  .rw[aHO h0] at DK;rw[h0] at DK⊢;rw[AP rfl];generalize dkL x (tr o.trays x.a) (tr o.trays x.b)=D at *
   have hj:=aH0 o.trays x.to.toNat D;have U:(E cD (o.trays.set x.to.toNat D)).take o.trays.length=E cD (o.trays.set x.to.toNat D):=Ah (by rw[aH,Ap];exact Au _);refine fn0 Cd.i_doStep_k λX=>?_
   repeat' first|simp -dsimp only[go_sem,Z,gt,he,hf,hj,hc,hd,U,cO,cS]|apply Br.mk<;>intro h<;>try simp -dsimp only[h]|refine aA.own (by first|exact NO) rfl ?_|refine aA.c (by first|exact H|exact V|exact DK) ?_|refine aC ?_|refine aC9 ?_|fail
   all_goals first|omega|exact⟨_,_,rfl,rfl⟩
  .rw[aHP h0] at DK;rw[AC h0];have e0:(dkC x (tr o.trays x.a) (tr o.trays x.b) != 0)=true:=by simp[h0]
   generalize dkC x (tr o.trays x.a) (tr o.trays x.b)=c at *
   refine fn0 Cd.i_doStep_k λX=>?_
   repeat' first|simp -dsimp only[go_sem,Z,e0,noO,cO,cS]|apply Br.mk<;>intro h<;>try simp -dsimp only[h]|refine aA.own (by first|exact NO) rfl ?_|refine aA.c (by first|exact H|exact V|exact DK) ?_|refine aC ?_|refine aC9 ?_|fail
   all_goals first|omega|exact⟨_,_,rfl,rfl⟩
end
section
variable [Vs.Envs]
attribute [local irreducible] Vs.Fn bL mgC oC mtC jH flt kQ xN mat dJ bB dK dL l03 chB rk cd3 chI stp bD
theorem aBh (x:Stp) (hz:x.text.size<=1048576) (T:List (List (List Int))) (hs:∀d,d∈T->bO d) (hl:T.length<=1048576) (Z:0<=x.a∧x.a<(T.length:Int)) (iB:0<=x.b∧x.b<(T.length:Int)) (M:List (List Tot)):Vs.Fn Tryz.prog F.pQ [.var [.loc (.b 1) 0 T.length,.v (.slice none 0 0)] false,.arr 1 (E cD T) false] [.ptr (.b 0) 0 0,.ro (cS x)] (.tup [dkV x (tr T x.a) (tr T x.b),.v (.int .i64 (dkC x (tr T x.a) (tr T x.b)))]) ([.var [.loc (.b 1) 0 T.length,.v (.slice none 0 0)] false,.arr 1 (E cD T) false].map some)∧Vs.Fn Tryz.prog F.pQ [.var [.loc (.b 1) 0 T.length,.loc (.b 2) 0 M.length] false,.arr 1 (E cD T) false,.arr 1 (E cTs M) false] [.ptr (.b 0) 0 0,.ro (cS x)] (.tup [dkV x (tr T x.a) (tr T x.b),.v (.int .i64 (dkC x (tr T x.a) (tr T x.b)))]) ([.var [.loc (.b 1) 0 T.length,.loc (.b 2) 0 M.length] false,.arr 1 (E cD T) false,.arr 1 (E cTs M) false].map some):=by
 have O:=hs _ (fM Z);have sb:=hs _ (fM iB);have gA:=jE Z;have gB:=jE iB;have a0:=Z.1;have a1:=Z.2;have b0:=iB.1;have b1:=iB.2;obtain⟨q1,e1⟩:∃q,(x.kind==1)=q:=⟨_,rfl⟩;obtain⟨q2,e2⟩:∃q,(x.kind==2)=q:=⟨_,rfl⟩;obtain⟨q5,e5⟩:∃q,(x.kind==5)=q:=⟨_,rfl⟩;obtain⟨q6,e6⟩:∃q,(x.kind==6)=q:=⟨_,rfl⟩;obtain⟨q3,e3⟩:∃q,(x.kind==3)=q:=⟨_,rfl⟩;obtain⟨q0,e0⟩:∃q,(mtC x.f0 x.f1 (tr T x.a) (tr T x.b) != 0)=q:=⟨_,rfl⟩;have ha:(mtL x.f0 x.f1 (tr T x.a) (tr T x.b)).length=4:=rfl;have m0:(E cD (mtL x.f0 x.f1 (tr T x.a) (tr T x.b))).getD 0 []=[.sl 1 (E cC (mat x.f0 x.f1 (tr T x.a) (tr T x.b) true))]:=rfl;have m2:(E cD (mtL x.f0 x.f1 (tr T x.a) (tr T x.b))).getD 2 []=[.sl 1 (E cC (mat x.f0 x.f1 (tr T x.a) (tr T x.b) false))]:=rfl;cases q1
 rotate_left
 have U:x.kind=1:=by simpa using e1
 have I:=aD8 (tr T x.a) x.f0 x.f1 O.2 O.1;have G:u6 x.f0 x.f1 (tr T x.a)=.sl 1 (E cC (jH x.f0 x.f1 (tr T x.a)))∨u6 x.f0 x.f1 (tr T x.a)=.v (.slice none 0 0):=by unfold u6;split<;>simp
 have H:dkC x (tr T x.a) (tr T x.b)=bL x.f0 x.f1 (tr T x.a):=by simp[dkC,U]
 rw[show dkV x (tr T x.a) (tr T x.b)=u6 x.f0 x.f1 (tr T x.a) by unfold dkV u6;rw[H,show dkL x (tr T x.a) (tr T x.b)=jH x.f0 x.f1 (tr T x.a) by simp[dkL,U]],H];generalize bL x.f0 x.f1 (tr T x.a)=c at *
 rcases G with G|G<;>rw[G] at I⊢
 rotate_right
 have U:x.kind≠1:=by simpa using e1
 cases q2
 rotate_left
 have h2:x.kind=2:=by simpa using e2
 have I:=aCw (tr T x.a) (tr T x.b) x.f0 x.f1 O sb;have G:mgV x.f0 x.f1 (tr T x.a) (tr T x.b)=.sl 1 (E cC (jH x.f0 x.f1 (tr T x.a++tr T x.b)))∨mgV x.f0 x.f1 (tr T x.a) (tr T x.b)=.v (.slice none 0 0):=by unfold mgV;split<;>simp
 have H:dkC x (tr T x.a) (tr T x.b)=mgC x.f0 x.f1 (tr T x.a) (tr T x.b):=by simp[dkC,h2]
 rw[show dkV x (tr T x.a) (tr T x.b)=mgV x.f0 x.f1 (tr T x.a) (tr T x.b) by unfold dkV mgV;rw[H,show dkL x (tr T x.a) (tr T x.b)=jH x.f0 x.f1 (tr T x.a++tr T x.b) by simp[dkL,h2]],H];generalize mgC x.f0 x.f1 (tr T x.a) (tr T x.b)=c at *
 rcases G with G|G<;>rw[G] at I⊢
 rotate_right
 have h2:x.kind≠2:=by simpa using e2
 cases q5
 rotate_left
 have V:x.kind=5:=by simpa using e5
 have I:=aBE (tr T x.a) x.f0 x.f1 x.text O hz;have G:rR x.f0 x.f1 x.text (tr T x.a)=.sl 1 (E cC (flt (kQ x.f0 x.f1 x.text) (tr T x.a)))∨rR x.f0 x.f1 x.text (tr T x.a)=.v (.slice none 0 0):=by unfold rR;split<;>simp
 have H:dkC x (tr T x.a) (tr T x.b)=oC x.f0 x.f1 x.text (tr T x.a):=by simp[dkC,V]
 rw[show dkV x (tr T x.a) (tr T x.b)=rR x.f0 x.f1 x.text (tr T x.a) by unfold dkV rR;rw[H,show dkL x (tr T x.a) (tr T x.b)=flt (kQ x.f0 x.f1 x.text) (tr T x.a) by simp[dkL,V]],H];generalize oC x.f0 x.f1 x.text (tr T x.a)=c at *
 rcases G with G|G<;>rw[G] at I⊢
 rotate_right
 have V:x.kind≠5:=by simpa using e5
 cases q6
 rotate_left
 have Y:x.kind=6:=by simpa using e6
 have I:=aAA (tr T x.a) x.f0 x.f1 O;have G:wL x.f0 x.f1 (tr T x.a)=.sl 1 (E cC (xN x.f0 x.f1 (tr T x.a)))∨wL x.f0 x.f1 (tr T x.a)=.v (.slice none 0 0):=by unfold wL;split<;>simp
 have H:dkC x (tr T x.a) (tr T x.b)=bL x.f0 x.f1 (tr T x.a):=by simp[dkC,Y]
 rw[show dkV x (tr T x.a) (tr T x.b)=wL x.f0 x.f1 (tr T x.a) by unfold dkV wL;rw[H,show dkL x (tr T x.a) (tr T x.b)=xN x.f0 x.f1 (tr T x.a) by simp[dkL,Y]],H];generalize bL x.f0 x.f1 (tr T x.a)=c at *
 rcases G with G|G<;>rw[G] at I⊢
 rotate_right
 have Y:x.kind≠6:=by simpa using e6
 have H:dkC x (tr T x.a) (tr T x.b)=mtC x.f0 x.f1 (tr T x.a) (tr T x.b):=by simp[dkC,U,h2,V,Y]
 have I:=aCx (tr T x.a) (tr T x.b) x.f0 x.f1 O sb;cases q0
 rotate_left
 have J:mtC x.f0 x.f1 (tr T x.a) (tr T x.b)≠0:=by simpa using e0
 rw[show mtV x.f0 x.f1 (tr T x.a) (tr T x.b)=.v (.slice none 0 0) by simp[mtV,J]] at I;rw[show dkV x (tr T x.a) (tr T x.b)=.v (.slice none 0 0) by unfold dkV;rw[H,AC J],H];generalize mtC x.f0 x.f1 (tr T x.a) (tr T x.b)=c at *
 rotate_right
 have J:mtC x.f0 x.f1 (tr T x.a) (tr T x.b)=0:=by simpa using e0
 rw[show mtV x.f0 x.f1 (tr T x.a) (tr T x.b)=.sl 1 (E cD (mtL x.f0 x.f1 (tr T x.a) (tr T x.b))) by simp[mtV,J],J] at I;have hV:dkV x (tr T x.a) (tr T x.b)=.sl 1 (E cC (if x.kind=3 then mat x.f0 x.f1 (tr T x.a) (tr T x.b) true else mat x.f0 x.f1 (tr T x.a) (tr T x.b) false)):=by unfold dkV;rw[H,AP J];simp only[dkL,U,h2,V,Y,Bc]
 rw[hV,H,J];generalize mtL x.f0 x.f1 (tr T x.a) (tr T x.b)=ML at *
 cases q3;rw[AC (by simpa using e3)]
 rotate_left
 rw[AP (by simpa using e3)]
 all_goals refine⟨?_,?_⟩
 all_goals first|(refine fn1 Cd.s_l15Make_k [.b 0,.b 1] [.var [.loc (.b 1) 0 T.length,.v (.slice none 0 0)] false,.arr 1 (E cD T) false] λX=>?_)|(refine fn1 Cd.s_l15Make_k [.b 0,.b 1,.b 2] [.var [.loc (.b 1) 0 T.length,.loc (.b 2) 0 M.length] false,.arr 1 (E cD T) false,.arr 1 (E cTs M) false] λX=>?_)
 all_goals
  unfold Cd.pQ
  repeat' first|simp -dsimp only[go_sem,e1,e2,e5,e6,e3,e0,gA,gB,m0,m2,ha,Int.reduceBEq,Int.reduceBNe,cS,cO,cFd,aH,Af,Ag,Ao,Aq,Ae,Aj,Ad,Al,Ac,Ai,Ap,Av,Am,Ak,AR,BQ,Vs.Name.t.injEq,Vs.Name.b.injEq,Ar,AY]|apply Br.mk<;>intro h<;>try simp -dsimp only[h]|refine aA.c (by first|exact I) ?_|refine aC ?_|refine aC9 ?_|fail
 all_goals first|omega|exact⟨_,_,rfl,rfl⟩
end
section
variable [Vs.Envs]
attribute [local irreducible] Vs.Fn dJ bB dK dL l03 chB rk cd3 chI stp bD
theorem aKS {k:Nat}{S:Nat->Prop}{w:World}{v:Value} (h:RC S w (.v (.slice none 0 0)) v):RC S w (.sl k []) v:=by
 cases h;exact RC.sl k [] none 0 0 0 (λ_=>undef) (λh=>absurd rfl h) (λi j h=>by simp at h) (λi j h=>by simp at h) (λi j h=>by simp at h) (λi h=>by simp at h) ⟨Au _,by decide⟩
theorem aIJ {P:Program}{f:FuncId}{hin:List Blk}{args args':List AV}{r:AV}{hout:List (Option Blk)} (J:args.length=args'.length)
  (h:∀(S:Nat->Prop) (w:World) (j:Nat) (v:Value),j<args.length->(∀ρ κ hh,RV S w ρ κ hh (args.getD j .junk) v->RV S w ρ κ hh (args'.getD j .junk) v)) (F:Vs.Fn P f hin args' r hout):Vs.Fn P f hin args r hout:=by
 unfold Vs.Fn at F⊢;exact⟨F.1,λS w ρ κ vs G h2 H I=>F.2 S w ρ κ vs G h2 (H.trans J) λj M=>h S w j _ (by omega) ρ κ _ (I j (by omega))⟩
theorem aN5 {S:Nat->Prop}{w:World}{x:AV}{k:Nat}{v:Value}{ρ:Vs.Name->Option Nat}{κ:Vs.Name->Nat}{hh:Vs.Name->Option Blk} (h:RV S w ρ κ hh (.ro [x,.v (.slice none 0 0)]) v):RV S w ρ κ hh (.ro [x,.sl k []]) v:=by
 have h:=xI h;refine .clo ?_;generalize F:[x,AV.v (.slice none 0 0)]=c at h;cases h with
 | ro c y off xs hS h1 h2 h3 =>
  subst F;refine .ro _ y off xs hS h1 h2 λj G=>?_
  match j,G with
  |0,_=>exact h3 0 (by simp)
  |1,_=>exact aKS (h3 1 (by simp))
theorem aNx {S:Nat->Prop}{w:World}{x:AV}{k:Nat}{v:Value}{ρ:Vs.Name->Option Nat}{κ:Vs.Name->Nat}{hh:Vs.Name->Option Blk} (h:RV S w ρ κ hh (.agg [x,.v (.slice none 0 0)]) v):RV S w ρ κ hh (.agg [x,.sl k []]) v:=by
 obtain⟨vs,rfl,F,h2⟩:=rW h;refine .agg _ _ F λj G=>?_
 match j,G with
 |0,_=>exact h2 0 (by simp)
 |1,_=>exact .clo (aKS ((h2 1 (by simp)).closed rfl))
def gA (n:Vs.Name) (i:Nat):AV:=if i=0 then .v (.slice none 0 0) else .loc n 0 i
def gH (n:Vs.Name) (rows:List (List AV)) (i:Nat):List (Vs.Name×Blk):=if i=0 then[] else[(n,.arr 1 rows false)]
attribute [local go_sem] Int.reduceBEq Int.reduceBNe cC cTs aH Af Ag Ao Aq Ae Aj Ad Al Ac Ai Ap Av Am Ak AR BQ Vs.Name.t.injEq in
theorem aM5 (o:Off) (ho:kP o) (hc:0<o.trays.length) (ha:o.totals.length=0):Vs.Fn Tryz.prog F.sO [] [.ro (cO o)] (.agg [.loc (.b 0) 0 o.trays.length,.v (.slice none 0 0)]) [some (.arr 1 (E cD o.trays) false)]:=by
 have hn:=ho.1.1;have hm:=ho.2.1;refine fn1 Cd.s_l15Own_k [.t 27 0] [.arr 1 (E cD o.trays) false] λX=>?_;unfold Cd.sO
 repeat' first|simp -dsimp only[go_sem,cO,cD]|apply Br.mk<;>intro h<;>try simp -dsimp only[h]|refine aC ?_|refine aC9 ?_|fail
 refine aP.at dM (X:={i:Nat // i<=o.trays.length}) (λi=>[(4,.v (.int .i64 (i.1:Nat)))]) (λi=>(.t 3 0,.var [gA (.t 27 0) i.1,.v (.slice none 0 0)] false)::gH (.t 27 0) (E cD (o.trays.take i.1)) i.1) (λi=>o.trays.length-i.1) ⟨0,by omega⟩ ?_ ?_
 .simp[Vs.LeL,Vs.look,aB,aQ,aK,Vs.hset,aL,gA,gH]
 .rintro⟨i,hi⟩
  try dsimp only at hi
  by_cases J:i<o.trays.length
  .have M:decide ((i:Int)<(o.trays.length:Int))=true:=A9 (by omega);have hw:=aJ J (by omega);have I:=aNS J;have G:=aI8 J;have Y:(E cD (o.trays.take i)).length=i:=by rw[aH];simp;omega
   have V:(o.trays.take i).length=i:=by simp;omega
   have CP:=aFp o.trays[i] (ho.1.2 _ (Aa J));by_cases H:i=0
   .have O:gA (.t 27 0) i=.v (.slice none 0 0):=by simp[gA,H]
    have U:gH (.t 27 0) (E cD (o.trays.take i)) i=[]:=by simp[gH,H]
    have Z:E cD (o.trays.take i)=[]:=by rw[H];rfl
    rw[Z,Aj] at G;rw[O,U];simp -dsimp only[go_sem,M,I,cO,cD]
    repeat' first|simp -dsimp only[go_sem,M,I,hw,G,cO,cD]|apply Br.mk<;>intro h<;>try simp -dsimp only[h]|refine aA.c (by first|exact CP) ?_|refine aC ?_|refine aC9 ?_|fail
    all_goals first|omega|(exact⟨⟨i+1,by omega⟩,by simp[Vs.LeL,Vs.look,aB,aQ,aK,Vs.hset,aL,gA,gH,G,H],by simp only;omega⟩)
   .have O:gA (.t 27 0) i=.loc (.t 27 0) 0 i:=by simp[gA,H]
    have U:gH (.t 27 0) (E cD (o.trays.take i)) i=[(.t 27 0,.arr 1 (E cD (o.trays.take i)) false)]:=by simp[gH,H]
    rw[O,U];simp -dsimp only[go_sem,M,I,cO,cD]
    repeat' first|simp -dsimp only[go_sem,M,I,hw,G,Y,V,cO,cD]|apply Br.mk<;>intro h<;>try simp -dsimp only[h]|refine aA.c (by first|exact CP) ?_|refine aC ?_|refine aC9 ?_|fail
    all_goals first|omega|(exact⟨⟨i+1,by omega⟩,by simp[Vs.LeL,Vs.look,aB,aQ,aK,Vs.hset,aL,gA,gH,G,H],by simp only;omega⟩)
  .obtain rfl:i=o.trays.length:=by omega
   have M:decide ((o.trays.length:Int)<(o.trays.length:Int))=false:=by simp
   have O:gA (.t 27 0) o.trays.length=.loc (.t 27 0) 0 o.trays.length:=by unfold gA;rw[AC (by omega)]
   have U:gH (.t 27 0) (E cD (o.trays.take o.trays.length)) o.trays.length=[(.t 27 0,.arr 1 (E cD (o.trays.take o.trays.length)) false)]:=by unfold gH;rw[AC (by omega)]
   rw[O,U];simp -dsimp only[go_sem,M,cO,cD];refine And.intro ?_ (λh=>absurd rfl h);refine aP.at dM (X:={i:Nat // i<=o.totals.length}) (λi=>[(5,.v (.int .i64 (i.1:Nat)))]) (λi=>(.t 3 0,.var [.loc (.t 27 0) 0 o.trays.length,gA (.t 50 0) i.1] false)::gH (.t 50 0) (E cTs (o.totals.take i.1)) i.1) (λi=>o.totals.length-i.1) ⟨0,by omega⟩ ?_ ?_
   .simp[Vs.LeL,Vs.look,aB,aQ,aK,Vs.hset,aL,gA,gH]
   .rintro⟨i,hi⟩
    try dsimp only at hi
    by_cases J:i<o.totals.length
    .have M:decide ((i:Int)<(o.totals.length:Int))=true:=A9 (by omega);have hw:=aJ J (by omega);have I:=aL5 J;have G:=aI7 J;have Y:(E cTs (o.totals.take i)).length=i:=by rw[aH];simp;omega
     have V:(o.totals.take i).length=i:=by simp;omega
     have hs:=(ho.2.2 _ (Aa J)).1;by_cases H:i=0
     .have O:gA (.t 50 0) i=.v (.slice none 0 0):=by simp[gA,H]
      have U:gH (.t 50 0) (E cTs (o.totals.take i)) i=[]:=by simp[gH,H]
      have Z:E cTs (o.totals.take i)=[]:=by rw[H];rfl
      rw[Z,Aj] at G;rw[O,U];simp -dsimp only[go_sem,M,I,cO,cD]
      repeat' first|simp -dsimp only[go_sem,M,I,hw,G,cO,cD]|apply Br.mk<;>intro h<;>try simp -dsimp only[h]|refine aC ?_|refine aC9 ?_|fail
      all_goals first|omega|(exact⟨⟨i+1,by omega⟩,by simp[Vs.LeL,Vs.look,aB,aQ,aK,Vs.hset,aL,gA,gH,G,H],by simp only;omega⟩)
     .have O:gA (.t 50 0) i=.loc (.t 50 0) 0 i:=by simp[gA,H]
      have U:gH (.t 50 0) (E cTs (o.totals.take i)) i=[(.t 50 0,.arr 1 (E cTs (o.totals.take i)) false)]:=by simp[gH,H]
      rw[O,U];simp -dsimp only[go_sem,M,I,cO,cD]
      repeat' first|simp -dsimp only[go_sem,M,I,hw,G,Y,V,cO,cD]|apply Br.mk<;>intro h<;>try simp -dsimp only[h]|refine aC ?_|refine aC9 ?_|fail
      all_goals first|omega|(exact⟨⟨i+1,by omega⟩,by simp[Vs.LeL,Vs.look,aB,aQ,aK,Vs.hset,aL,gA,gH,G,H],by simp only;omega⟩)
    .obtain rfl:i=o.totals.length:=by omega
     have M:decide ((o.totals.length:Int)<(o.totals.length:Int))=false:=by simp
     have hb:(E cD (o.trays.take o.trays.length))=E cD o.trays:=by rw[Bw]
     have O:gA (.t 50 0) o.totals.length=.v (.slice none 0 0):=by simp[gA,ha]
     have U:gH (.t 50 0) (E cTs (o.totals.take o.totals.length)) o.totals.length=[]:=by simp[gH,ha]
     rw[O,U]
     repeat' first|simp -dsimp only[go_sem,M,hb,cO,cD]|apply Br.mk<;>intro h<;>try simp -dsimp only[h]|refine And.intro ?_ (λh=>absurd rfl h)|refine aC ?_|refine aC9 ?_|fail
     all_goals first|omega|exact⟨_,_,rfl,rfl⟩|exact⟨⟨_,_,rfl,rfl⟩,λh=>h rfl⟩
end
section
variable [Vs.Envs]
attribute [local irreducible] Vs.Fn bL mgC oC mtC jH xN mat aAN dkC dkL o7 qI gG wO dJ bB dK dL l03 chB rk cd3 chI stp bD
open Go.Vs.Q in
def CdV.l15Do:aD:=s [mi 4 0] [0,1]<|.seq (s [m 9 1,nc 10 9,fa 11 0 10,lf 12 1 11,en 13 12 7] [0,1,13]<|.cond 13 (.seq (s [m 14 0,nc 15 14,fa 16 1 15,lf 17 1 16,ln 18 17,o 19 (.bin .geq 18 (k 20))] [0,1,19]<|.cond 19 (s [mi 4 5] [4]<|.ret) .skip)<|r [m 21 0,nc 22 21,fa 23 0 22,lf 24 1 23,m 25 1,nc 26 25,fa 27 1 26,lf
 28 1 27,ix 29 1 24 28,lf 30 1 29,m 31 1,nc 32 31,fa 33 4 32,lt 34 2 33,m 35 1,nc 36 35,fa 37 6 36,lt 38 2 37,c 39 F.vE [30,34,38],m 20 39,ex 40 20 0,ex 41 20 1,m 5 40,m 6 41] [0,5,6] [21,23,24,22,25,26,27,28,29,30,31,32,33,34,35,36,37,38,39,20,40,41,5]<|.seq (s [m 42 6,en 43 42 0]
 [0,5,6,43]<|.cond 43 (.region [m 44 0,m 45 0,nc 46 45,fa 47 1 46,lf 48 1 47,m 49 5,o 50 (.bslice 1 1 [.v (.slice none 0 0)] [(0,49)]),o 51 (.append 1 24 48 50),nc 52 44,fa 53 1 52,⟨none,.store 1 53 51,none⟩] [6] []) .skip)<|s [m 54 6,m 4 54] [4]<|.ret) .skip)<|s [m 56 0,m 57 1,o 58 (.call (.func
 F.pQ) [56,57] [0]),m 55 58,ex 59 55 0,ex 60 55 1,m 7 59,m 8 60] [0,1,7,8]<|.seq (s [m 61 8,en 62 61 0] [0,1,7,8,62]<|.cond 62 (.region [m 63 0,nc 64 63,fa 65 0 64,lf 66 1 65,m 67 1,nc 68 67,fa 69 3 68,lf 70 1 69,m 71 7,ix 72 1 66 70,⟨none,.store 1 72 71,none⟩] [8]
 [63,65,66,64,67,68,69,70,71]) .skip)<|s [m 73 8,m 4 73] [4]<|.ret
theorem CdV.l15Do_k:CK 143 Tryz.f143 CdV.l15Do 74 [.tmp 4]:=ck Tryz.func143
attribute [go_sem] CdV.l15Do
theorem aA.borG {P:Program}{f:FuncId}{hin:List Blk}{ys:List AV}{L:List Vs.Name}{d:Option Nat}{σ:St}{B:List Vs.Name}{K:St->Prop}{t:Tag K}{r:AV}{hout:List (Option Blk)} (F:Vs.Fn P f hin ys r hout) (G:jB (d.getD 0) B.length hout.length σ=true)
  (H:K ⟨put d (rn (phi B (d.getD 0) hout.length) r) σ.s,yA σ.h B (d.getD 0) hout true L⟩):aA P f hin ys L d σ B K t:=
 ⟨r,hout,true,F,λh=>(by cases h),G,H⟩
attribute [local go_sem] Int.reduceBEq Int.reduceBNe cC cO cFd aH Af Ag Ao Aq Ae Aj Ad Al Ac Ai Ap Av Am Ak AR BQ Vs.Name.t.injEq Ar AY Vs.Name.b.injEq in
theorem aJJ (x:Stp) (hz:x.text.size<=1048576) (o:Off) (w:Nat) (I:okO w o) (hv:gG x (wO o.trays)=true) (he:o.totals.length=0) (H:stC x o≠0):Vs.Fn Tryz.prog F.xB [.var [.loc (.b 1) 0 o.trays.length,.v (.slice none 0 0)] false,.arr 1 (E cD o.trays) false] [.ptr (.b 0) 0 0,.ro (cS x)] (.v (.int .i64 (stC x o))) ([.var [.loc (.b 1) 0 o.trays.length,.v (.slice none 0 0)] false,.arr 1 (E cD o.trays) false].map some):=by
 have Y:=iC I;have hd:=I.2.1;have hc:=I.2.2.2.1;have G:=wY I hv;have ma:=fM G.a;have mb:=fM G.b;have ga:=jE G.a;have gb:=jE G.b;have gt:=jE G.to;have a0:=G.a.1;have a1:=G.a.2;have t0:=G.to.1;have t1:=G.to.2;have U:(E cD o.trays).length=o.trays.length:=aH _;have V:(E cTs o.totals).length=o.totals.length:=aH _;have M:(E cD o.trays).take o.trays.length=E cD o.trays:=Ah (by omega);have O:(E cTs o.totals).take o.totals.length=E cTs o.totals:=Ah (by omega);by_cases J:x.kind=7
 .have e7:(x.kind==7)=true:=BO.2 J;unfold stC at H⊢;rw[AP J] at H⊢;rw[AC (by omega:¬20<=o.totals.length)] at H⊢;have ha:decide (((0:Nat):Int)≥20)=false:=by decide
  have da:=I.2.2.1 _ ma;have Z:=aCR (tr o.trays x.a) x.f0 x.f1 x.s0 x.s1 (nN I.1.2 da) da.1 (uX (oD I ma) G.f) (aDt (oD I ma) (G.n J));cases hb:o7 x.f0 x.f1 x.s0 x.s1 (tr o.trays x.a)
  .rw[aE2 hb,hb] at Z;simp only[AO,Bc] at Z;rw[AC (by decide)];refine fn1 CdV.l15Do_k [.b 0,.b 1] [.var [.loc (.b 1) 0 o.trays.length,.v (.slice none 0 0)] false,.arr 1 (E cD o.trays) false] λX=>?_;unfold CdV.l15Do
   repeat' first|simp -dsimp only[go_sem,e7,ha,ga,U,V,M,O,cS]|apply Br.mk<;>intro h<;>try simp -dsimp only[h]|refine aA.c (by first|exact Z) ?_|refine aC ?_|refine aC9 ?_|fail
   all_goals first|omega|exact⟨_,_,rfl,rfl⟩
  .rw[AP hb] at H;exact absurd rfl H
 .have e7:(x.kind==7)=false:=AB.2 J;have MK:=(aBh x hz o.trays Y.1.2 Y.1.1 G.a G.b o.totals).1;rw[show stC x o=dkC x (tr o.trays x.a) (tr o.trays x.b) by unfold stC;rw[AC J]] at H⊢;rw[aHP H] at MK;have e0:(dkC x (tr o.trays x.a) (tr o.trays x.b)==0)=false:=AB.2 H;generalize dkC x (tr o.trays x.a) (tr o.trays x.b)=c at *
  refine fn1 CdV.l15Do_k [.b 0,.b 1] [.var [.loc (.b 1) 0 o.trays.length,.v (.slice none 0 0)] false,.arr 1 (E cD o.trays) false] λX=>?_;unfold CdV.l15Do
  repeat' first|simp -dsimp only[go_sem,e7,e0,U,V,M,O,cS]|apply Br.mk<;>intro h<;>try simp -dsimp only[h]|refine aA.borG (B:=[.b 0,.b 1]) (by first|exact MK) rfl ?_|refine aC ?_|refine aC9 ?_|fail
  all_goals first|omega|exact⟨_,_,rfl,rfl⟩
theorem aJK (x:Stp) (hz:x.text.size<=1048576) (o:Off) (w:Nat) (I:okO w o) (hv:gG x (wO o.trays)=true) (he:o.totals.length=0) (h7:x.kind≠7) (J:stC x o=0):Vs.Fn Tryz.prog F.xB [.var [.loc (.b 1) 0 o.trays.length,.v (.slice none 0 0)] false,.arr 1 (E cD o.trays) false] [.ptr (.b 0) 0 0,.ro (cS x)] (.v (.int .i64 0)) ([.var [.loc (.b 1) 0 o.trays.length,.v (.slice none 0 0)] false,.arr 1 (E cD (o.trays.set x.to.toNat (dkL x (tr o.trays x.a) (tr o.trays x.b)))) false].map some):=by
 have H:=iC I;have hb:=I.2.1;have ha:=I.2.2.2.1;have G:=wY I hv;have ma:=fM G.a;have mb:=fM G.b;have ga:=jE G.a;have gb:=jE G.b;have gt:=jE G.to;have a0:=G.a.1;have a1:=G.a.2;have t0:=G.to.1;have t1:=G.to.2;have U:(E cD o.trays).length=o.trays.length:=aH _;have V:(E cTs o.totals).length=o.totals.length:=aH _;have M:(E cD o.trays).take o.trays.length=E cD o.trays:=Ah (by omega);have O:(E cTs o.totals).take o.totals.length=E cTs o.totals:=Ah (by omega);have e7:(x.kind==7)=false:=AB.2 h7;have Z:=(aBh x hz o.trays H.1.2 H.1.1 G.a G.b o.totals).1;rw[show stC x o=dkC x (tr o.trays x.a) (tr o.trays x.b) by unfold stC;rw[AC h7]] at J;rw[aHO J,J] at Z;generalize dkL x (tr o.trays x.a) (tr o.trays x.b)=D at *
 have Y:=aH0 o.trays x.to.toNat D;refine fn1 CdV.l15Do_k [.b 0,.b 1] [.var [.loc (.b 1) 0 o.trays.length,.v (.slice none 0 0)] false,.arr 1 (E cD (o.trays.set x.to.toNat D)) false] λX=>?_;unfold CdV.l15Do
 repeat' first|simp -dsimp only[go_sem,e7,gt,U,V,Y,M,O,Int.reduceBEq,Int.reduceBNe,cC,cO,cS,cFd,aH,Af,Ag,Ao,Aq,Ae,Aj,Ad,Al,Ac,Ai,Ap,Av,Am,Ak,AR,BQ,Vs.Name.t.injEq,Ar,AY,Vs.Name.b.injEq]|apply Br.mk<;>intro h<;>try simp -dsimp only[h]|refine aA.borG (B:=[.b 0,.b 1]) (by first|exact Z) rfl ?_|refine aC ?_|refine aC9 ?_|fail
 all_goals first|omega|exact⟨_,_,rfl,rfl⟩
theorem aHt (x:Stp) (hz:x.text.size<=1048576) (o:Off) (w:Nat) (H:okO w o) (hv:gG x (wO o.trays)=true) (he:o.totals.length=0) (Y:x.kind=7) (I:stC x o=0):Vs.Fn Tryz.prog F.xB [.var [.loc (.b 1) 0 o.trays.length,.v (.slice none 0 0)] false,.arr 1 (E cD o.trays) false] [.ptr (.b 0) 0 0,.ro (cS x)] (.v (.int .i64 0)) [some (.var [.loc (.b 1) 0 o.trays.length,.loc (.b 2) 0 (o.totals.length+1)] false),some (.arr 1 (E cD o.trays) false),some (.arr 1 (E cTs (o.totals++[qI x.f0 x.f1 x.s0 x.s1 (tr o.trays x.a)])) false)]:=by
 have hk:=iC H;have hg:=H.2.1;have hf:=H.2.2.2.1;have G:=wY H hv;have ma:=fM G.a;have mb:=fM G.b;have ga:=jE G.a;have gb:=jE G.b;have gt:=jE G.to;have a0:=G.a.1;have a1:=G.a.2;have t0:=G.to.1;have t1:=G.to.2;have hc:(E cD o.trays).length=o.trays.length:=aH _;have hd:(E cTs o.totals).length=o.totals.length:=aH _;have Z:(E cD o.trays).take o.trays.length=E cD o.trays:=Ah (by omega);have ha:(E cTs o.totals).take o.totals.length=E cTs o.totals:=Ah (by omega);have e7:(x.kind==7)=true:=BO.2 Y;unfold stC at I;rw[AP Y] at I;have V:¬20<=o.totals.length:=by intro h;rw[AP h] at I;cases I
 rw[AC V] at I;have J:decide ((o.totals.length:Int)≥20)=false:=AQ (by omega)
 have O:o7 x.f0 x.f1 x.s0 x.s1 (tr o.trays x.a)=true:=by
  cases O:o7 x.f0 x.f1 x.s0 x.s1 (tr o.trays x.a)
  .rw[O] at I;cases I
  .rfl
 have da:=H.2.2.1 _ ma;have U:=aCR (tr o.trays x.a) x.f0 x.f1 x.s0 x.s1 (nN H.1.2 da) da.1 (uX (oD H ma) G.f) (aDt (oD H ma) (G.n Y));rw[aE1 O,O] at U;simp only[Bj] at U;have M:=aMi o.totals (qI x.f0 x.f1 x.s0 x.s1 (tr o.trays x.a));have J:decide (((0:Nat):Int)≥20)=false:=by decide
 have M:[[.sl 2 (E cT (qI x.f0 x.f1 x.s0 x.s1 (tr o.trays x.a)))]]=E cTs (o.totals++[qI x.f0 x.f1 x.s0 x.s1 (tr o.trays x.a)]):=by rw[Bv he];rfl
 refine CdV.l15Do_k.o.fnD Tryz.mixed (hin:=[.var [.loc (.b 1) 0 o.trays.length,.v (.slice none 0 0)] false,.arr 1 (E cD o.trays) false]) (args:=[.ptr (.b 0) 0 0,.ro (cS x)]) _ _ [.b 0,.b 1,.t 51 0] [some (.var [.loc (.b 1) 0 o.trays.length,.loc (.b 2) 0 (o.totals.length+1)] false),some (.arr 1 (E cD o.trays) false),some (.arr 1 (E cTs (o.totals++[qI x.f0 x.f1 x.s0 x.s1 (tr o.trays x.a)])) false)] CdV.l15Do_k.n CdV.l15Do_k.r rfl rfl (by intro j hj;rcases j with _|_|_|j<;>first|rfl|(simp at hj;done)|(simp at hj;omega)) λX=>?_;unfold CdV.l15Do
 repeat' first|simp -dsimp only[go_sem,e7,J,ga,hc,hd,M,Z,ha,he,Ca,Int.reduceBEq,Int.reduceBNe,cC,cO,cS,cFd,aH,Af,Ag,Ao,Aq,Ae,Aj,Ad,Al,Ac,Ai,Ap,Av,Am,Ak,AR,BQ,Vs.Name.t.injEq,Ar,AY,Vs.Name.b.injEq]|apply Br.mk<;>intro h<;>try simp -dsimp only[h]|refine aA.c (by first|exact U) ?_|refine aC ?_|refine aC9 ?_|fail
 all_goals first|omega|exact⟨_,_,rfl,rfl⟩
attribute [local go_sem] Int.reduceBEq Int.reduceBNe cC cO cFd aH Af Ag Ao Aq Ae Aj Ad Al Ac Ai Ap Av Am Ak AR BQ Vs.Name.t.injEq Ar AY Vs.Name.b.injEq in
theorem aJH (x:Stp) (hz:x.text.size<=1048576) (o:Off) (w:Nat) (I:okO w o) (hv:gG x (wO o.trays)=true) (H:stC x o≠0):Vs.Fn Tryz.prog F.xB [.var [.loc (.b 1) 0 o.trays.length,.loc (.b 2) 0 o.totals.length] false,.arr 1 (E cD o.trays) false,.arr 1 (E cTs o.totals) false] [.ptr (.b 0) 0 0,.ro (cS x)] (.v (.int .i64 (stC x o))) ([.var [.loc (.b 1) 0 o.trays.length,.loc (.b 2) 0 o.totals.length] false,.arr 1 (E cD o.trays) false,.arr 1 (E cTs o.totals) false].map some):=by
 have ha:=iC I;have hd:=I.2.1;have hc:=I.2.2.2.1;have G:=wY I hv;have ma:=fM G.a;have mb:=fM G.b;have ga:=jE G.a;have gb:=jE G.b;have gt:=jE G.to;have a0:=G.a.1;have a1:=G.a.2;have t0:=G.to.1;have t1:=G.to.2;have U:(E cD o.trays).length=o.trays.length:=aH _;have V:(E cTs o.totals).length=o.totals.length:=aH _;have M:(E cD o.trays).take o.trays.length=E cD o.trays:=Ah (by omega);have O:(E cTs o.totals).take o.totals.length=E cTs o.totals:=Ah (by omega);by_cases Z:x.kind=7
 .have e7:(x.kind==7)=true:=BO.2 Z;unfold stC at H⊢;rw[AP Z] at H⊢;by_cases Y:20<=o.totals.length
  .have J:decide ((o.totals.length:Int)≥20)=true:=A9 (by omega);rw[AP Y];refine fn1 CdV.l15Do_k [.b 0,.b 1,.b 2] [.var [.loc (.b 1) 0 o.trays.length,.loc (.b 2) 0 o.totals.length] false,.arr 1 (E cD o.trays) false,.arr 1 (E cTs o.totals) false] λX=>?_;unfold CdV.l15Do
   repeat' first|simp -dsimp only[go_sem,e7,J,U,V,M,O,cS]|apply Br.mk<;>intro h<;>try simp -dsimp only[h]|refine aC ?_|refine aC9 ?_|fail
   all_goals first|omega|exact⟨_,_,rfl,rfl⟩
  rw[AC Y] at H⊢;have J:decide ((o.totals.length:Int)≥20)=false:=AQ (by omega);have da:=I.2.2.1 _ ma;have TO:=aCR (tr o.trays x.a) x.f0 x.f1 x.s0 x.s1 (nN I.1.2 da) da.1 (uX (oD I ma) G.f) (aDt (oD I ma) (G.n Z));cases hb:o7 x.f0 x.f1 x.s0 x.s1 (tr o.trays x.a)
  .rw[aE2 hb,hb] at TO;simp only[AO,Bc] at TO;rw[AC (by decide)];refine fn1 CdV.l15Do_k [.b 0,.b 1,.b 2] [.var [.loc (.b 1) 0 o.trays.length,.loc (.b 2) 0 o.totals.length] false,.arr 1 (E cD o.trays) false,.arr 1 (E cTs o.totals) false] λX=>?_;unfold CdV.l15Do
   repeat' first|simp -dsimp only[go_sem,e7,J,ga,U,V,M,O,cS]|apply Br.mk<;>intro h<;>try simp -dsimp only[h]|refine aA.c (by first|exact TO) ?_|refine aC ?_|refine aC9 ?_|fail
   all_goals first|omega|exact⟨_,_,rfl,rfl⟩
  .rw[AP hb] at H;exact absurd rfl H
 .have e7:(x.kind==7)=false:=AB.2 Z;have MK:=(aBh x hz o.trays ha.1.2 ha.1.1 G.a G.b o.totals).2;rw[show stC x o=dkC x (tr o.trays x.a) (tr o.trays x.b) by unfold stC;rw[AC Z]] at H⊢;rw[aHP H] at MK;have e0:(dkC x (tr o.trays x.a) (tr o.trays x.b)==0)=false:=AB.2 H;generalize dkC x (tr o.trays x.a) (tr o.trays x.b)=c at *
  refine fn1 CdV.l15Do_k [.b 0,.b 1,.b 2] [.var [.loc (.b 1) 0 o.trays.length,.loc (.b 2) 0 o.totals.length] false,.arr 1 (E cD o.trays) false,.arr 1 (E cTs o.totals) false] λX=>?_;unfold CdV.l15Do
  repeat' first|simp -dsimp only[go_sem,e7,e0,U,V,M,O,cS]|apply Br.mk<;>intro h<;>try simp -dsimp only[h]|refine aA.borG (B:=[.b 0,.b 1,.b 2]) (by first|exact MK) rfl ?_|refine aC ?_|refine aC9 ?_|fail
  all_goals first|omega|exact⟨_,_,rfl,rfl⟩
theorem aJI (x:Stp) (hz:x.text.size<=1048576) (o:Off) (w:Nat) (I:okO w o) (hv:gG x (wO o.trays)=true) (h7:x.kind≠7) (J:stC x o=0):Vs.Fn Tryz.prog F.xB [.var [.loc (.b 1) 0 o.trays.length,.loc (.b 2) 0 o.totals.length] false,.arr 1 (E cD o.trays) false,.arr 1 (E cTs o.totals) false] [.ptr (.b 0) 0 0,.ro (cS x)] (.v (.int .i64 0)) ([.var [.loc (.b 1) 0 o.trays.length,.loc (.b 2) 0 o.totals.length] false,.arr 1 (E cD (o.trays.set x.to.toNat (dkL x (tr o.trays x.a) (tr o.trays x.b)))) false,.arr 1 (E cTs o.totals) false].map some):=by
 have H:=iC I;have hb:=I.2.1;have ha:=I.2.2.2.1;have G:=wY I hv;have ma:=fM G.a;have mb:=fM G.b;have ga:=jE G.a;have gb:=jE G.b;have gt:=jE G.to;have a0:=G.a.1;have a1:=G.a.2;have t0:=G.to.1;have t1:=G.to.2;have U:(E cD o.trays).length=o.trays.length:=aH _;have V:(E cTs o.totals).length=o.totals.length:=aH _;have M:(E cD o.trays).take o.trays.length=E cD o.trays:=Ah (by omega);have O:(E cTs o.totals).take o.totals.length=E cTs o.totals:=Ah (by omega);have e7:(x.kind==7)=false:=AB.2 h7;have Z:=(aBh x hz o.trays H.1.2 H.1.1 G.a G.b o.totals).2;rw[show stC x o=dkC x (tr o.trays x.a) (tr o.trays x.b) by unfold stC;rw[AC h7]] at J;rw[aHO J,J] at Z;generalize dkL x (tr o.trays x.a) (tr o.trays x.b)=D at *
 have Y:=aH0 o.trays x.to.toNat D;refine fn1 CdV.l15Do_k [.b 0,.b 1,.b 2] [.var [.loc (.b 1) 0 o.trays.length,.loc (.b 2) 0 o.totals.length] false,.arr 1 (E cD (o.trays.set x.to.toNat D)) false,.arr 1 (E cTs o.totals) false] λX=>?_;unfold CdV.l15Do
 repeat' first|simp -dsimp only[go_sem,e7,gt,U,V,Y,M,O,Int.reduceBEq,Int.reduceBNe,cC,cO,cS,cFd,aH,Af,Ag,Ao,Aq,Ae,Aj,Ad,Al,Ac,Ai,Ap,Av,Am,Ak,AR,BQ,Vs.Name.t.injEq,Ar,AY,Vs.Name.b.injEq]|apply Br.mk<;>intro h<;>try simp -dsimp only[h]|refine aA.borG (B:=[.b 0,.b 1,.b 2]) (by first|exact Z) rfl ?_|refine aC ?_|refine aC9 ?_|fail
 all_goals first|omega|exact⟨_,_,rfl,rfl⟩
theorem aHs (x:Stp) (hz:x.text.size<=1048576) (o:Off) (w:Nat) (H:okO w o) (hv:gG x (wO o.trays)=true) (V:x.kind=7) (I:stC x o=0):Vs.Fn Tryz.prog F.xB [.var [.loc (.b 1) 0 o.trays.length,.loc (.b 2) 0 o.totals.length] false,.arr 1 (E cD o.trays) false,.arr 1 (E cTs o.totals) false] [.ptr (.b 0) 0 0,.ro (cS x)] (.v (.int .i64 0)) [some (.var [.loc (.b 1) 0 o.trays.length,.loc (.b 3) 0 (o.totals.length+1)] false),some (.arr 1 (E cD o.trays) false),none,some (.arr 1 (E cTs (o.totals++[qI x.f0 x.f1 x.s0 x.s1 (tr o.trays x.a)])) false)]:=by
 have hg:=iC H;have hf:=H.2.1;have he:=H.2.2.2.1;have G:=wY H hv;have ma:=fM G.a;have mb:=fM G.b;have ga:=jE G.a;have gb:=jE G.b;have gt:=jE G.to;have a0:=G.a.1;have a1:=G.a.2;have t0:=G.to.1;have t1:=G.to.2;have ha:(E cD o.trays).length=o.trays.length:=aH _;have hc:(E cTs o.totals).length=o.totals.length:=aH _;have Y:(E cD o.trays).take o.trays.length=E cD o.trays:=Ah (by omega);have Z:(E cTs o.totals).take o.totals.length=E cTs o.totals:=Ah (by omega);have e7:(x.kind==7)=true:=BO.2 V;unfold stC at I;rw[AP V] at I;have U:¬20<=o.totals.length:=by intro h;rw[AP h] at I;cases I
 rw[AC U] at I;have O:decide ((o.totals.length:Int)≥20)=false:=AQ (by omega)
 have J:o7 x.f0 x.f1 x.s0 x.s1 (tr o.trays x.a)=true:=by
  cases J:o7 x.f0 x.f1 x.s0 x.s1 (tr o.trays x.a)
  .rw[J] at I;cases I
  .rfl
 have da:=H.2.2.1 _ ma;have M:=aCR (tr o.trays x.a) x.f0 x.f1 x.s0 x.s1 (nN H.1.2 da) da.1 (uX (oD H ma) G.f) (aDt (oD H ma) (G.n V));rw[aE1 J,J] at M;simp only[Bj] at M;have hd:=aMi o.totals (qI x.f0 x.f1 x.s0 x.s1 (tr o.trays x.a));refine CdV.l15Do_k.o.fnD Tryz.mixed (hin:=[.var [.loc (.b 1) 0 o.trays.length,.loc (.b 2) 0 o.totals.length] false,.arr 1 (E cD o.trays) false,.arr 1 (E cTs o.totals) false]) (args:=[.ptr (.b 0) 0 0,.ro (cS x)]) _ _ [.b 0,.b 1,.b 2,.t 51 0] [some (.var [.loc (.b 1) 0 o.trays.length,.loc (.b 3) 0 (o.totals.length+1)] false),some (.arr 1 (E cD o.trays) false),none,some (.arr 1 (E cTs (o.totals++[qI x.f0 x.f1 x.s0 x.s1 (tr o.trays x.a)])) false)] CdV.l15Do_k.n CdV.l15Do_k.r rfl rfl (by intro j hj;rcases j with _|_|_|j<;>first|rfl|(simp at hj;done)|(simp at hj;omega)) λX=>?_;unfold CdV.l15Do
 repeat' first|simp -dsimp only[go_sem,e7,O,ga,ha,hc,hd,Y,Z,Int.reduceBEq,Int.reduceBNe,cC,cO,cS,cFd,aH,Af,Ag,Ao,Aq,Ae,Aj,Ad,Al,Ac,Ai,Ap,Av,Am,Ak,AR,BQ,Vs.Name.t.injEq,Ar,AY,Vs.Name.b.injEq]|apply Br.mk<;>intro h<;>try simp -dsimp only[h]|refine aA.c (by first|exact M) ?_|refine aC ?_|refine aC9 ?_|fail
 all_goals first|omega|exact⟨_,_,rfl,rfl⟩
end
section
variable [Vs.Envs]
attribute [local irreducible] Vs.Fn dJ bB dK dL l03 chB rk cd3 chI stp bD
def T0 (l:List (List Int)):List (List (List Int)):=l::List.replicate 5 []
def O0 (l:List (List Int)):Off:=⟨T0 l,[]⟩
def TK (l:List (List Int)) (k:Nat):List (List (List Int)):=l::List.replicate k []
theorem aMe (l:List (List Int)) (k:Nat):(TK l k).length=k+1:=by unfold TK;rw[Ac,List.length_replicate]
theorem E_snN (l:List (List Int)) (k:Nat):E cD (TK l k)++[[.sl 1 []]]=E cD (TK l (k+1)):=by
 unfold TK;rw[List.replicate_succ',←Ae,aV];rfl
attribute [local go_sem] Int.reduceBEq Int.reduceBNe cO cS cFd aH Af Ag Ao Aq Ae Aj Ad Al Ac Ai Ap Av Am Ak AR BQ Vs.Name.t.injEq Ar AY Vs.Name.b.injEq in
theorem aOu (l:List (List Int)) (U:bO l):Fz F.yF [.sl 1 (E cC l)] (.agg [.sl 1 (E cD (T0 l)),.v (.slice none 0 0)]):=by
 have O:=aFp l U;refine fn0 Cd.s_l15New_k λX=>?_
 repeat' first|simp -dsimp only[go_sem,cC]|apply Br.mk<;>intro h<;>try simp -dsimp only[h]|refine aA.c (by first|exact O) ?_|refine aC ?_|refine aC9 ?_|fail
 have Z:([[.sl 1 (E cC l)]]:List (List AV))=E cD (TK l 0):=rfl;refine aP.atR dM (X:={k:Nat // k<=5}) (λk=>[(4,.v (.int .i64 (k.1+1:Nat)))]) (λk=>[(.t 3 0,.var [.loc (.t 7 0) 0 (k.1+1),.v (.slice none 0 0)] false),(.t 7 0,.arr 1 (E cD (TK l k.1)) false)]) (λk=>5-k.1) ⟨0,by omega⟩ ?_ ?_
 .simp[Vs.LeL,Vs.look,aB,aQ,aK,Vs.hset,aL,Vs.E,cD,TK]
 .rintro⟨k,hi⟩
  try dsimp only at hi
  try simp -dsimp only[go_sem,cC]
  refine Br.mk (λI=>?_) λI=>?_
  .have V:k<5:=by first|(simp at I;omega)|omega
   have Y:IntKind.i64.wrap ((k+1:Nat)+1:Int)=((k+1+1:Nat):Int):=by rw[aI (by omega) (by omega)];omega
   have G:=E_snN l k;have H:(E cD (TK l k)).length=k+1:=by rw[aH,aMe]
   repeat' first|simp -dsimp only[go_sem,Y,G,H,cC]|apply Br.mk<;>intro h<;>try simp -dsimp only[h]|refine aC ?_|refine aC9 ?_|refine⟨[],rfl,rfl,?_⟩|fail
   all_goals first|omega|(refine⟨⟨k+1,by omega⟩,.inr ⟨.t 17 0,.t 7 0,by decide,rfl,?_⟩,by simp only;omega⟩;simp[uS,Vs.nmF,Vs.rn,Vs.rnL,Vs.rnB,Vs.LeL,Vs.look,aB,aQ,aK,Vs.hset,aL,G];done)
  .have J:k=5:=by
    have:¬k<5:=by first|(simp at I;omega)|omega
    omega
   subst J;have H:(E cD (TK l 5)).length=6:=by rw[aH,aMe]
   have M:(E cD (TK l 5)).take 6=E cD (TK l 5):=Ah (by omega);rw[show T0 l=TK l 5 from rfl]
   repeat' first|simp -dsimp only[go_sem,H,M,cC]|apply Br.mk<;>intro h<;>try simp -dsimp only[h]|refine And.intro ?_ (λh=>absurd rfl h)|refine aC ?_|refine aC9 ?_|fail
   all_goals first|omega|exact⟨_,_,rfl,rfl⟩|exact⟨⟨_,_,rfl,rfl⟩,λh=>h rfl⟩
end
section
variable [Vs.Envs]
attribute [local irreducible] Vs.Fn dJ bB dK dL l03 chB rk cd3 chI stp bD
end
section
variable [Vs.Envs]
attribute [local irreducible] Vs.Fn nxV nxS pkV pkS pt crd gG dtF jD wO o8 bC dsC
end
section
variable [Vs.Envs]
attribute [local irreducible] Vs.Fn wO dsC
theorem aFz {c:List Int} (h:crd c):fC c=true∧c.length=5:=by
 obtain⟨a,n,m,O,U,V,rfl⟩:=h;have F:∀k:Nat,k<100->(pt 2 (k:Int)).all (λx=>inB x 0 4095)=true:=by decide +kernel
 have h2:∀k:Nat,k<31->(pt 2 (-(k:Int))).all (λx=>inB x 0 4095)=true:=by decide +kernel
 have I:(pt 2 n).all (λx=>inB x 0 4095)=true:=by
  have:=F n.toNat (by omega)
  rwa [Int.toNat_of_nonneg U.1] at this
 have J:(pt 2 m).all (λx=>inB x 0 4095)=true:=by
  by_cases M:0<=m
  .have:=F m.toNat (by omega)
   rwa [Int.toNat_of_nonneg M] at this
  .have:=h2 (-m).toNat (by omega)
   rwa [Int.toNat_of_nonneg (by omega),Int.neg_neg] at this
 have H:inB a 0 4095=true:=by rcases O with rfl|rfl|rfl<;>decide +kernel
 have G:(a::(pt 2 n++pt 2 m)).length=5:=by simp[aHn]
 refine⟨?_,G⟩;unfold fC;rw[G,BJ,List.all_append,H,I,J];rfl
theorem aGM {o:List (List Int)} (h:∀c,c∈o->crd c) (I:o.length<=40):okD 5 o:=by
 refine⟨?_,λc F=>(aFz (h c F)).2⟩;simp only[bC,Aw,Az,Bb];refine⟨λc F=>⟨(aFz (h c F)).1,?_⟩,I⟩;have H:0<o.length:=Dx F;have G:o.getD 0 []∈o:=by rw[show o.getD 0 []=o[0] by simp[List.getD,H]];exact Aa _
 rw[(aFz (h c F)).2,(aFz (h _ G)).2]
theorem aOg {w:Nat} (I:1<=w∧w<=20) {d:List (List Int)} (h:okD w d):okO w (O0 d):=by
 refine⟨I,rfl,λe F=>?_,by simp[O0],λt H=>absurd H (by simp[O0])⟩;rcases Am.1 F with rfl|F
 .exact h
 .rw[(List.mem_replicate.1 F).2];exact⟨rfl,λc G=>absurd G (by simp)⟩
theorem aIr {w:Nat}{o:Off} (h:okO w o):o8 o=true:=by
 unfold o8;rw[Aw,Aw];refine⟨aEs.2 λi hi=>?_,by simp[h.2.1],by have:=h.2.2.2.1;simp;omega⟩;have H:o.trays.getD i []∈o.trays:=by rw[show o.trays.getD i []=o.trays[i] by simp[List.getD,hi]];exact Aa _
 have G:=h.2.2.1 _ H;unfold rU;generalize o.trays.getD i []=d at *
 rw[Aw,Ct];refine⟨G.1,?_⟩;by_cases F:d.length=0
 .left;simp[F]
 .right
  have I:(d.getD 0 []).length=w:=G.2 _ (by rw[show d.getD 0 []=d[0]'(by omega) by simp[List.getD,(by omega:0<d.length)]];exact Aa _);rcases aFH o.trays h.2.2.1 with h1|⟨_,h1⟩
  .rw[I,h1];simp
  .exact absurd (h1 d H) F
attribute [local go_sem] Int.reduceBEq Int.reduceBNe cC cFd aH Af Ag Ao Aq Ae Aj Ad Al Ac Ai Ap Av Am Ak AR BQ Vs.Name.t.injEq Ar AY Vs.Name.b.injEq in
theorem aNm (o:Off) (w:Nat) (J:okO w o) (x:Stp) (M:x.text.size<=1048576):Fz F.zH [.agg (cO o),.agg (cS x)] (.tup [dsV x o,.v (.int .i64 (dsC x o))]):=by
 have H:=vU o (iC J);rw[aIr J] at H;have G:=aOM x M o w J;by_cases I:dsC x o=0
 .rw[show dsV x o=.agg (cO (stO x o)) by unfold dsV;rw[AP I],I] at G⊢;generalize stO x o=o2 at *
  refine fn0 Cd.i_DoStep_k λX=>?_
  repeat' first|simp -dsimp only[go_sem,cO,cS]|apply Br.mk<;>intro h<;>try simp -dsimp only[h]|refine aA.c (by first|exact H|exact G) ?_|refine aC ?_|refine aC9 ?_|fail
  all_goals first|exact⟨_,_,rfl,rfl⟩
 .rw[show dsV x o=noO by unfold dsV;rw[AC I]] at G⊢;generalize dsC x o=c at *
  unfold noO at *
  refine fn0 Cd.i_DoStep_k λX=>?_
  repeat' first|simp -dsimp only[go_sem,cO,cS]|apply Br.mk<;>intro h<;>try simp -dsimp only[h]|refine aA.c (by first|exact H|exact G) ?_|refine aC ?_|refine aC9 ?_|fail
  all_goals first|exact⟨_,_,rfl,rfl⟩
end
section
variable [Vs.Tab 0 Vs.powP]
attribute [local irreducible] Vs.Fn
theorem aIp {l:List (List Int)}{fr to:Int} (H:(!bC l)=false) (G:(!l9 fr to (bK l))=false):∀c,c∈l->okP fr to c:=by
 intro c I;have H:bC l=true:=by simpa using H
 have G:l9 fr to (bK l)=true:=by simpa using G
 simp only[bC,Aw,Az,Bb] at H;simp only[l9,dW,Aw,Bb] at G;obtain⟨F,J⟩:=H.1 c I;simp only[fC,inB,Aw,Az,Bb] at F;have O:l.length≠0:=by intro e;rw[Bv e] at I;cases I
 rw[bK,AC O,←J] at G;obtain⟨⟨U,h2,V⟩,M⟩:=G;obtain⟨Y,h6,h7⟩:=F;have Z:W (to-fr)=to-fr:=aI (by omega) (by omega);rw[Z] at M;exact⟨U,h2,V,M,by omega,λx hx=>Y x hx⟩
def aFB (fr to:Int) (l:List (List Int)):Int×Int×Int:=if bC l then(if l9 fr to (bK l) then(if lU fr to l then fK fr to l else(0,0,0)) else(0,0,0)) else(0,0,0)
def aFC (fr to:Int) (l:List (List Int)):Int:=if bC l then(if l9 fr to (bK l) then(if lU fr to l then 0 else 8) else 2) else 1
theorem aC8 (l:List (List Int)) (fr to:Int) (H:∀x,x∈l->x.length<=1048576) (G:l.length<=1048576):Fz F.qP [.sl 1 (E cC l),.agg (cFd fr to)] (.tup [.agg (cCt (aFB fr to l)),.v (.int .i64 (aFC fr to l))]):=by
 refine fn0 Cd.s_ControlOf_k λX=>?_
 repeat' first|simp -dsimp only[go_sem,cFd,cCt]|apply Br.mk<;>intro h<;>try simp -dsimp only[h]|refine aA.c (by first|exact dC l H G|exact dY l|exact aGi fr to (bK l)|exact vR l fr to G (aIp (by assumption) (by assumption))) ?_|refine aC ?_|refine aC9 ?_|fail
 all_goals(simp_all [aFB,aFC,cCt])
theorem zA (l:List (List Int)) (fr to:Int) (H:∀x,x∈l->x.length<=1048576) (G:l.length<=1048576):Fz F.nW [.sl 1 (E cC l),.agg (cFd fr to)] (.tup [.agg (cCt (aFB fr to l)),.v (.int .i64 (aFC fr to l))]):=by
 refine fn0 Cd.i_ControlOf_k λX=>?_
 repeat' first|simp -dsimp only[go_sem,cFd,cCt]|apply Br.mk<;>intro h<;>try simp -dsimp only[h]|refine aA.c (by first|exact lY l H G|exact jG l|exact uU fr to (bK l)|exact gM l fr to G (aIp (by assumption) (by assumption))) ?_|refine aC ?_|refine aC9 ?_|fail
 all_goals(simp_all [aFB,aFC,cCt])
theorem aLg (l:List (List Int)):(iota l.length).map (λi=>l.getD i.toNat [])=l:=by
 unfold iota;rw[Cb];apply List.ext_getElem
 .simp
 .intro i F h2;simp[List.getD,h2]
theorem aEn {fr to:Int}{l:List (List Int)} (G:∀c,c∈l->okF fr to c) (F:l.length<=40):(jH fr to l).Perm l:=by
 have h:=(aA9 G F).1.map (λi:Int=>l.getD i.toNat []);rw[aLg] at h;exact h
def nmS (fr to:Int):List (List Int)->Int
 | []=>0
 |c::r=>(dX fr to c).1+nmS fr to r
def dgS (fr to:Int):List (List Int)->Int
 | []=>0
 |c::r=>(dsN (dX fr to c).1.natAbs:Int)+dgS fr to r
def okN (fr to:Int) (l:List (List Int)):Bool:=l.all λc=>(dX fr to c).2
theorem aGI (fr to:Int):∀(l:List (List Int)) (m:Nat) (s d:Int),(∀c,c∈l->okP fr to c)->m+l.length<=40->-1000000000000*m<=s->s<=1000000000000*m->0<=d->d<=117*m->
  zN fr to l s d=if okN fr to l then some (s+nmS fr to l,d+dgS fr to l) else none
 | [],m,s,d,_,_,_,_,_,_=>by simp[zN,nmS,dgS,okN]
 | c::r,m,s,d,hk,hm,h1,h2,h3,h4=>by
  simp only[Ac] at hm;have I:=hk c (by simp);have J:=aCM I;have O:=aHL 13 (dX fr to c).1.natAbs (by omega);have F:W (s+(dX fr to c).1)=s+(dX fr to c).1:=aI (by omega) (by omega);have G:W (d+(dsN (dX fr to c).1.natAbs:Int))=d+(dsN (dX fr to c).1.natAbs:Int):=aI (by omega) (by omega);rw[zN];cases hb:(dX fr to c).2
  .rw[AC (by simp)];simp[okN,hb]
  .rw[AP rfl,F,G,aGI fr to r (m+1) _ _ (λx M=>hk x (by simp[M])) (by omega) (by omega) (by omega) (by omega) (by omega)];have H:okN fr to (c::r)=okN fr to r:=by simp[okN,hb]
   rw[H,nmS,dgS,Int.add_assoc,Int.add_assoc]
theorem uL {fr to:Int}{l:List (List Int)} (F:∀c,c∈l->okP fr to c) (G:l.length<=40):lU fr to l=okN fr to l∧(okN fr to l=true->fK fr to l=(((l.length:Nat):Int),nmS fr to l,dgS fr to l)):=by
 have h:=aGI fr to l 0 0 0 F (by omega) (by omega) (by omega) (by omega) (by omega);unfold lU fK;rw[h];cases okN fr to l
 .exact⟨rfl,λh=>by cases h⟩
 .simp
theorem aK5 {fr to:Int}{a b:List (List Int)} (h:a.Perm b):nmS fr to a=nmS fr to b:=by
 induction h with
 |nil=>rfl
 |cons x _ ih=>simp only[nmS,ih]
 |swap x y l=>simp only[nmS];omega
 |trans _ _ h1 h2=>exact h1.trans h2
theorem aLT {fr to:Int}{a b:List (List Int)} (h:a.Perm b):dgS fr to a=dgS fr to b:=by
 induction h with
 |nil=>rfl
 |cons x _ ih=>simp only[dgS,ih]
 |swap x y l=>simp only[dgS];omega
 |trans _ _ h1 h2=>exact h1.trans h2
theorem aKZ {fr to:Int}{a b:List (List Int)} (h:a.Perm b):okN fr to a=okN fr to b:=by
 unfold okN;rw[Bool.eq_iff_iff,Az,Az];exact⟨λg x F=>g x (h.mem_iff.2 F),λg x F=>g x (h.mem_iff.1 F)⟩
theorem aIt (fr to:Int):∀a b:List (List Int),nmS fr to (a++b)=nmS fr to a+nmS fr to b
 | [],b=>by simp[nmS]
 |c::r,b=>by rw[Ae,nmS,nmS,aIt fr to r b];omega
theorem aIS (fr to:Int):∀a b:List (List Int),dgS fr to (a++b)=dgS fr to a+dgS fr to b
 | [],b=>by simp[dgS]
 |c::r,b=>by rw[Ae,dgS,dgS,aIS fr to r b];omega
theorem aGH {fr to:Int}{a b:List (List Int)} (H:∀c,c∈b->okP fr to c) (I:b.length<=40) (h:a.Perm b):lU fr to a=lU fr to b∧(lU fr to b=true->fK fr to a=fK fr to b):=by
 have G:=uL (l:=a) (λc J=>H c (h.mem_iff.1 J)) (by rw[h.length_eq];exact I);have F:=uL H I;have e:=aKZ (fr:=fr) (to:=to) h;refine⟨by rw[G.1,F.1,e],λg=>?_⟩;rw[F.1] at g;rw[G.2 (e.trans g),F.2 g,aK5 h,aLT h,h.length_eq]
theorem aNn {fr to:Int}{a b:List (List Int)} (H:∀c,c∈a++b->okP fr to c) (M:(a++b).length<=40):lU fr to (a++b)=(lU fr to a&&lU fr to b)∧(lU fr to a&&lU fr to b)=true->fK fr to (a++b)=plC (fK fr to a) (fK fr to b):=by
 rw[AX] at M;have I:=uL (l:=a) (λc G=>H c (Bg.2 (.inl G))) (by omega);have J:=uL (l:=b) (λc G=>H c (Bg.2 (.inr G))) (by omega);have F:=uL H (by rw[AX];omega);rintro⟨e,g⟩;rw[g,F.1] at e;rw[Aw,I.1,J.1] at g;rw[F.2 e,I.2 g.1,J.2 g.2,aIt,aIS];simp[plC]
theorem aLV {fr to:Int}{a b:List (List Int)} (H:∀c,c∈a++b->okP fr to c) (M:(a++b).length<=40):lU fr to (a++b)=(lU fr to a&&lU fr to b):=by
 rw[AX] at M;have I:=uL (l:=a) (λc G=>H c (Bg.2 (.inl G))) (by omega);have J:=uL (l:=b) (λc G=>H c (Bg.2 (.inr G))) (by omega);have F:=uL H (by rw[AX];omega);rw[F.1,I.1,J.1];simp[okN]
theorem aMT {fr to a b:Int} (h:l9 fr to a=true) (F:a<=b):l9 fr to b=true:=by
 simp only[l9,dW,Aw,Bb] at h⊢;exact⟨⟨h.1.1,h.1.2.1,by omega⟩,h.2⟩
theorem aMl {w:Nat}{d:List (List Int)} (H:w<=20) (h:okD w d):(w:Int)<=bK d:=by
 unfold bK;split
 .omega
 .rename_i G;have F:0<d.length:=by omega
  have e:d.getD 0 []=d[0]:=by simp[List.getD,F]
  rw[e,h.2 _ (Aa F)];omega
theorem keepT {fr to:Int}{o:Off}{x:Stp} (hs:kP o) (H:(oZ fr to o x).2=0) (hd:dsC x o=0):aFB fr to (tr (stO x o).trays x.to)=(oZ fr to o x).1∧aFC fr to (tr (stO x o).trays x.to)=0∧okO (wO o.trays) (stO x o)∧0<=x.to∧x.to<6:=by
 unfold oZ at H⊢;by_cases h1:exC fr to o=0
 rotate_left
 .rw[AC h1] at H;exact(h1 H).elim
 rw[AP h1] at H⊢;by_cases h2:gG x (wO o.trays)=true
 rotate_left
 .rw[AC h2] at H;cases H
 rw[AP h2] at H⊢;by_cases Y:(x.kind==1||x.kind==2)=true
 rotate_left
 .rw[AC Y] at H;cases H
 rw[AP Y] at H⊢;obtain⟨hj,I⟩:=aBr h1;have G:=aK1 hj hs;have J:=aIO G hd;have U:=wY G h2;have h6:=G.2.1
 have h7:x.kind≠7:=by
  intro e;rw[e] at Y;cases Y
 have ma:=fM U.a;have mb:=fM U.b;have ha:=G.2.2.1 _ ma;have hb:=G.2.2.1 _ mb;have fa:=uX (oD G ma) U.f;have fb:=uX (oD G mb) U.f;have oa:=eG ha.1 fa;have ob:=eG hb.1 fb;have la:=jL ha.1;have lb:=jL hb.1;have pa:=aKY G I ma;have pb:=aKY G I mb;rw[aNR h2 h7] at hd
 have hset:tr (stO x o).trays x.to=dkL x (tr o.trays x.a) (tr o.trays x.b):=by
  have hg:x.to.toNat<o.trays.length:=by have:=U.to;omega
  rw[aKs h7];simp[tr,List.getD,hg]
 have hc:tr (stO x o).trays x.to∈(stO x o).trays:=fM (by have:=J.2.1;have:=U.to;omega);have O:=J.2.2.1 _ hc;have hf:l9 fr to (bK (tr (stO x o).trays x.to))=true:=aMT I (aMl G.1.2 O);have hk:0<=x.to∧x.to<6:=by have:=U.to;omega
 have Z:∀T:Int×Int×Int,lU fr to (tr (stO x o).trays x.to)=true->fK fr to (tr (stO x o).trays x.to)=T->aFB fr to (tr (stO x o).trays x.to)=T∧aFC fr to (tr (stO x o).trays x.to)=0∧okO (wO o.trays) (stO x o)∧0<=x.to∧x.to<6:=λT g1 g2=>by
  refine⟨?_,?_,J,hk⟩
  .unfold aFB;rw[AP O.1,AP hf,AP g1,g2]
  .unfold aFC;rw[AP O.1,AP hf,AP g1]
 by_cases k1:x.kind=1
 .have e1:(x.kind==1)=true:=BO.2 k1;rw[AP e1] at H⊢;by_cases F:lU fr to (trD o x.a)=true
  rotate_left
  .rw[AC F] at H;cases H
  rw[AP F] at H⊢
  have hp:(tr (stO x o).trays x.to).Perm (tr o.trays x.a):=by
   rw[hset];unfold dkL;rw[AP k1];exact aEn oa la
  have g:=aGH (fr:=fr) (to:=to) pa la hp;exact Z _ (g.1.trans F) (g.2 F)
 .have e1:¬(x.kind==1)=true:=λh=>k1 (BO.1 h)
  have k2:x.kind=2:=by
   rw[Ct] at Y;exact BO.1 (Y.resolve_left e1)
  rw[AC e1] at H⊢;by_cases F:(lU fr to (trD o x.a)&&lU fr to (trD o x.b))=true
  rotate_left
  .rw[AC F] at H;cases H
  rw[AP F] at H⊢;unfold dkC at hd;rw[AC k1,AP k2] at hd;have hl:=aIw hd;have M:(tr o.trays x.a++tr o.trays x.b).length<=40:=by rw[AX];exact hl
  have hp:(tr (stO x o).trays x.to).Perm (tr o.trays x.a++tr o.trays x.b):=by
   rw[hset];unfold dkL;rw[AC k1,AP k2];exact aEn (λc h=>(Bg.1 h).elim (oa c) (ob c)) M
  have V:∀c,c∈tr o.trays x.a++tr o.trays x.b->okP fr to c:=λc h=>(Bg.1 h).elim (pa c) (pb c);have g:=aGH (fr:=fr) (to:=to) V M hp;have ga:=aLV V M;exact Z _ ((g.1.trans ga).trans F) ((g.2 (ga.trans F)).trans (aNn V M ⟨ga,F⟩))
end
end Go.Proofs.YtklmdppgonhflaaGreatDoor
