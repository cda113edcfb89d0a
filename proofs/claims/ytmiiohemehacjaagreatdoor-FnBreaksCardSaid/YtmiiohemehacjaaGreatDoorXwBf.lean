/- A deck's control totals are those of its matched and its other cards. -/
import Derived.Test.YtmiiohemehacjaaGreatDoorVsI
import Derived.Test.YtmiiohemehacjaaGreatDoorXwSm
import Derived.Test.YtmiiohemehacjaaGreatDoorXwVn
import Derived.Test.YtmiiohemehacjaaGreatDoorXwBc
set_option linter.all false
set_option maxHeartbeats 8000000
namespace Go.Proofs.YtmiiohemehacjaaGreatDoor
open Go.Vs
section
variable [Vs.Tab 1 Vs.powP]
attribute [local irreducible] Vs.Fn chOK areCh chTo chAt l03 chB rk cd3 chI stp stpTo flt sP zR aAv mat jY iL stF uC bR iU mtC
theorem aEj (fr to:Int):∀(l:List (List Int)) (s d:Int),(uC fr to l s d).isSome=l.all λc=>(dQ fr to c).2
 | [],s,d=>by unfold uC;rfl
 | c::r,s,d=>by
  unfold uC;split
  .rename_i h;rw[aEj fr to r];simp[h]
  .rename_i h;simp[h]
theorem aF4 (fr to:Int) (l:List (List Int)):iU fr to l=l.all λc=>(dQ fr to c).2:=by unfold iU;exact aEj ..
theorem aAX {fr to:Int}{l o:List (List Int)}{e:Bool}:∀c,c∈mat fr to l o e->c∈l:=by
 intro c u;unfold mat flt at u;exact(BN.1 u).1
theorem aBc {fr to k0 k1:Int}{l o:List (List Int)}{e:Bool} (h:iU fr to l=true):iU fr to (mat k0 k1 l o e)=true:=by
 rw[aF4,Aw] at h⊢;exact λc u=>h c (aAX c u)
theorem aEK {l:List (List Int)}{fr to:Int} (J:bB l=true) (H:kX fr to (bL l)=true):∀c,c∈l->okP fr to c:=by
 intro c F;simp only[bB,Au,Aw,Bb] at J;simp only[kX,eF,Au,Bb] at H;obtain⟨u,G⟩:=J.1 c F;simp only[gL,inB,Au,Aw,Bb] at u;have L:l.length≠0:=by intro e;rw[Bl e] at F;cases F
 rw[bL,AJ L,←G] at H;obtain⟨⟨M,h2,O⟩,I⟩:=H;obtain⟨U,Z,h7⟩:=u;have V:W (to-fr)=to-fr:=aM (by omega) (by omega);rw[V] at I;exact⟨M,h2,O,I,by omega,λx Y=>U x Y⟩
def aIk (p q a:Int×Int×Int):Bool:=(p.1+q.1==a.1)&&((p.2.1+q.2.1==a.2.1)&&(p.2.2+q.2.2==a.2.2))
theorem aIj (p q a:Int×Int×Int):aIk p q a=((a.1==p.1+q.1)&&((a.2.1==p.2.1+q.2.1)&&(a.2.2==p.2.2+q.2.2))):=by
 unfold aIk;rw[BEq.comm (a:=p.1+q.1),BEq.comm (a:=p.2.1+q.2.1),BEq.comm (a:=p.2.2+q.2.2)]
def lI (fr to k0 k1:Int) (a b:List (List Int)):Bool×Int:=
 if bB a&&bB b then(if kX fr to (bL a) then(if iU fr to a then(if mtC k0 k1 a b=0 then
   (aIk (bR fr to (mat k0 k1 a b true)) (bR fr to (mat k0 k1 a b false)) (bR fr to a),0) else(false,mtC k0 k1 a b)) else(false,8)) else(false,2)) else(false,1)
def aBW (n:Nat):Prop:=n<=1048576
attribute [local go_sem] cCt Ai Ah Al Aq Ad Af Ac Ae Aa Ab Ao in
theorem aCe (a b:List (List Int)) (fr to k0 k1:Int) (u:bE a) (G:bE b):Fz F.nT [.sl 1 (E cC a),.sl 1 (E cC b),.agg (cFd fr to),.agg (cFd k0 k1)] (.tup [.v (.bool (lI fr to k0 k1 a b).1),.v (.int .i64 (lI fr to k0 k1 a b).2)]):=by
 cases da:bB a
 .refine fn0 Cd.i_SplitHolds_k λX=>?_
  repeat' first|simp -dsimp only[go_sem,cFd,da]|apply Br.mk<;>intro h<;>try simp -dsimp only[h]|refine aA.c (by first|exact bY a u.2 u.1|exact bY b G.2 G.1) ?_|refine aC ?_|fail
  all_goals first|(simp_all [lI];done)|(refine aU ?_;simp_all [lI];done)
 cases I:bB b
 .refine fn0 Cd.i_SplitHolds_k λX=>?_
  repeat' first|simp -dsimp only[go_sem,cFd,da,I]|apply Br.mk<;>intro h<;>try simp -dsimp only[h]|refine aA.c (by first|exact bY a u.2 u.1|exact bY b G.2 G.1) ?_|refine aC ?_|fail
  all_goals first|(simp_all [lI];done)|(refine aU ?_;simp_all [lI];done)
 cases J:kX fr to (bL a)
 .refine fn0 Cd.i_SplitHolds_k λX=>?_
  repeat' first|simp -dsimp only[go_sem,cFd,da,I,J]|apply Br.mk<;>intro h<;>try simp -dsimp only[h]|refine aA.c (by first|exact bY a u.2 u.1|exact bY b G.2 G.1|exact eZ a|exact jS fr to _) ?_|refine aC ?_|fail
  all_goals first|(simp_all [lI];done)|(refine aU ?_;simp_all [lI];done)
 have L:=aEK da J;cases H:iU fr to a
 .refine fn0 Cd.i_SplitHolds_k λX=>?_
  repeat' first|simp -dsimp only[go_sem,cFd,da,I,J,H]|apply Br.mk<;>intro h<;>try simp -dsimp only[h]|refine aA.c (by first|exact bY a u.2 u.1|exact bY b G.2 G.1|exact eZ a|exact jS fr to _|exact o6 a fr to u.1 L) ?_|refine aC ?_|fail
  all_goals first|(simp_all [lI];done)|(refine aU ?_;simp_all [lI];done)
 by_cases M:mtC k0 k1 a b=0
 rotate_left
 .have e1:(mtC k0 k1 a b != 0)=true:=by simp[M]
  refine fn0 Cd.i_SplitHolds_k λX=>?_
  repeat' first|simp -dsimp only[go_sem,cFd,da,I,J,H,e1]|apply Br.mk<;>intro h<;>try simp -dsimp only[h]|refine aA.c (by first|exact bY a u.2 u.1|exact bY b G.2 G.1|exact eZ a|exact jS fr to _|exact o6 a fr to u.1 L|exact qF a b k0 k1 u G) ?_|refine aC ?_|fail
  all_goals first|(simp_all [lI];done)|(refine aU ?_;simp_all [lI];done)
 have hv:mtV k0 k1 a b=.sl 1 (E cD (mtL k0 k1 a b)):=by simp[mtV,M]
 have O:=qF a b k0 k1 u G;rw[hv,M] at O;have r0:(E cD (mtL k0 k1 a b)).getD 0 []=[.sl 1 (E cC (mat k0 k1 a b true))]:=rfl;have r2:(E cD (mtL k0 k1 a b)).getD 2 []=[.sl 1 (E cC (mat k0 k1 a b false))]:=rfl;have rl:(mtL k0 k1 a b).length=4:=rfl;have U:∀c,c∈mat k0 k1 a b true->okP fr to c:=λc H=>L c (aAX c H);have V:∀c,c∈mat k0 k1 a b false->okP fr to c:=λc H=>L c (aAX c H);have l1:(mat k0 k1 a b true).length<=40:=by have:=tC k0 k1 a b true;have:=aBb da;omega
 have l2:(mat k0 k1 a b false).length<=40:=by have:=tC k0 k1 a b false;have:=aBb da;omega
 have q1:=aCD U l1;have q2:=aCD V l2;have Y:iU fr to (mat k0 k1 a b true)=true:=aBc H;have Z:iU fr to (mat k0 k1 a b false)=true:=aBc H;have g1:aBW (mat k0 k1 a b true).length:=by unfold aBW;omega
 have g2:aBW (mat k0 k1 a b false).length:=by unfold aBW;omega
 have p1:IntKind.i64.wrap ((bR fr to (mat k0 k1 a b true)).1+IntKind.i64.wrap (1*(bR fr to (mat k0 k1 a b false)).1))=(bR fr to (mat k0 k1 a b true)).1+(bR fr to (mat k0 k1 a b false)).1:=aAk (k:=40) (by omega) (by omega) (by omega);have p2:IntKind.i64.wrap ((bR fr to (mat k0 k1 a b true)).2.1+IntKind.i64.wrap (1*(bR fr to (mat k0 k1 a b false)).2.1))=(bR fr to (mat k0 k1 a b true)).2.1+(bR fr to (mat k0 k1 a b false)).2.1:=aAk (k:=40000000000000) (by omega) (by omega) (by omega);have p3:IntKind.i64.wrap ((bR fr to (mat k0 k1 a b true)).2.2+IntKind.i64.wrap (1*(bR fr to (mat k0 k1 a b false)).2.2))=(bR fr to (mat k0 k1 a b true)).2.2+(bR fr to (mat k0 k1 a b false)).2.2:=aAk (k:=4680) (by omega) (by omega) (by omega);refine fn0 Cd.i_SplitHolds_k λX=>?_
 repeat' first|simp -dsimp only[go_sem,cFd,da,I,J,H,r0,r2,rl,aH,Y,Z,p1,p2,p3]|apply Br.mk<;>intro h<;>try simp -dsimp only[h]|refine aA.c (by first|exact bY a u.2 u.1|exact bY b G.2 G.1|exact eZ a|exact jS fr to _|exact o6 a fr to u.1 L|exact O|exact o6 _ fr to g1 U|exact o6 _ fr to g2 V|exact plusC _ _ _ _ _ _ _) ?_|refine aC ?_|fail
 have hs:lI fr to k0 k1 a b=(aIk (bR fr to (mat k0 k1 a b true)) (bR fr to (mat k0 k1 a b false)) (bR fr to a),0):=by simp[lI,da,I,J,H,M]
 rw[hs]
 all_goals first|exact⟨_,_,rfl,rfl⟩|(refine aU rfl)
attribute [local go_sem] cCt Ai Ah Al Aq Ad Af Ac Ae Aa Ab Ao in
theorem aCa (a b:List (List Int)) (fr to k0 k1:Int) (u:bE a) (G:bE b):Fz F.nG [.sl 1 (E cC a),.sl 1 (E cC b),.agg (cFd fr to),.agg (cFd k0 k1)] (.tup [.v (.bool (lI fr to k0 k1 a b).1),.v (.int .i64 (lI fr to k0 k1 a b).2)]):=by
 cases da:bB a
 .refine fn0 Cd.s_SplitHolds_k λX=>?_
  repeat' first|simp -dsimp only[go_sem,cFd,da]|apply Br.mk<;>intro h<;>try simp -dsimp only[h]|refine aA.c (by first|exact bJ a u.2 u.1|exact bJ b G.2 G.1) ?_|refine aC ?_|fail
  all_goals first|(simp_all [lI];done)|(refine aU ?_;simp_all [lI];done)
 cases I:bB b
 .refine fn0 Cd.s_SplitHolds_k λX=>?_
  repeat' first|simp -dsimp only[go_sem,cFd,da,I]|apply Br.mk<;>intro h<;>try simp -dsimp only[h]|refine aA.c (by first|exact bJ a u.2 u.1|exact bJ b G.2 G.1) ?_|refine aC ?_|fail
  all_goals first|(simp_all [lI];done)|(refine aU ?_;simp_all [lI];done)
 cases J:kX fr to (bL a)
 .refine fn0 Cd.s_SplitHolds_k λX=>?_
  repeat' first|simp -dsimp only[go_sem,cFd,da,I,J]|apply Br.mk<;>intro h<;>try simp -dsimp only[h]|refine aA.c (by first|exact bJ a u.2 u.1|exact bJ b G.2 G.1|exact dG a|exact xR fr to _) ?_|refine aC ?_|fail
  all_goals first|(simp_all [lI];done)|(refine aU ?_;simp_all [lI];done)
 have L:=aEK da J;cases H:iU fr to a
 .refine fn0 Cd.s_SplitHolds_k λX=>?_
  repeat' first|simp -dsimp only[go_sem,cFd,da,I,J,H]|apply Br.mk<;>intro h<;>try simp -dsimp only[h]|refine aA.c (by first|exact bJ a u.2 u.1|exact bJ b G.2 G.1|exact dG a|exact xR fr to _|exact uX a fr to u.1 L) ?_|refine aC ?_|fail
  all_goals first|(simp_all [lI];done)|(refine aU ?_;simp_all [lI];done)
 by_cases M:mtC k0 k1 a b=0
 rotate_left
 .have e1:(mtC k0 k1 a b != 0)=true:=by simp[M]
  refine fn0 Cd.s_SplitHolds_k λX=>?_
  repeat' first|simp -dsimp only[go_sem,cFd,da,I,J,H,e1]|apply Br.mk<;>intro h<;>try simp -dsimp only[h]|refine aA.c (by first|exact bJ a u.2 u.1|exact bJ b G.2 G.1|exact dG a|exact xR fr to _|exact uX a fr to u.1 L|exact l6 a b k0 k1 u G) ?_|refine aC ?_|fail
  all_goals first|(simp_all [lI];done)|(refine aU ?_;simp_all [lI];done)
 have hv:mtV k0 k1 a b=.sl 1 (E cD (mtL k0 k1 a b)):=by simp[mtV,M]
 have O:=l6 a b k0 k1 u G;rw[hv,M] at O;have r0:(E cD (mtL k0 k1 a b)).getD 0 []=[.sl 1 (E cC (mat k0 k1 a b true))]:=rfl;have r2:(E cD (mtL k0 k1 a b)).getD 2 []=[.sl 1 (E cC (mat k0 k1 a b false))]:=rfl;have rl:(mtL k0 k1 a b).length=4:=rfl;have U:∀c,c∈mat k0 k1 a b true->okP fr to c:=λc H=>L c (aAX c H);have V:∀c,c∈mat k0 k1 a b false->okP fr to c:=λc H=>L c (aAX c H);have l1:(mat k0 k1 a b true).length<=40:=by have:=tC k0 k1 a b true;have:=aBb da;omega
 have l2:(mat k0 k1 a b false).length<=40:=by have:=tC k0 k1 a b false;have:=aBb da;omega
 have q1:=aCD U l1;have q2:=aCD V l2;have Y:iU fr to (mat k0 k1 a b true)=true:=aBc H;have Z:iU fr to (mat k0 k1 a b false)=true:=aBc H;have g1:aBW (mat k0 k1 a b true).length:=by unfold aBW;omega
 have g2:aBW (mat k0 k1 a b false).length:=by unfold aBW;omega
 have p1:IntKind.i64.wrap ((bR fr to (mat k0 k1 a b true)).1+(bR fr to (mat k0 k1 a b false)).1)=(bR fr to (mat k0 k1 a b true)).1+(bR fr to (mat k0 k1 a b false)).1:=aM (by omega) (by omega);have p2:IntKind.i64.wrap ((bR fr to (mat k0 k1 a b true)).2.1+(bR fr to (mat k0 k1 a b false)).2.1)=(bR fr to (mat k0 k1 a b true)).2.1+(bR fr to (mat k0 k1 a b false)).2.1:=aM (by omega) (by omega);have p3:IntKind.i64.wrap ((bR fr to (mat k0 k1 a b true)).2.2+(bR fr to (mat k0 k1 a b false)).2.2)=(bR fr to (mat k0 k1 a b true)).2.2+(bR fr to (mat k0 k1 a b false)).2.2:=aM (by omega) (by omega);refine fn0 Cd.s_SplitHolds_k λX=>?_
 repeat' first|simp -dsimp only[go_sem,cFd,da,I,J,H,r0,r2,rl,aH,Y,Z,p1,p2,p3]|apply Br.mk<;>intro h<;>try simp -dsimp only[h]|refine aA.c (by first|exact bJ a u.2 u.1|exact bJ b G.2 G.1|exact dG a|exact xR fr to _|exact uX a fr to u.1 L|exact O|exact uX _ fr to g1 U|exact uX _ fr to g2 V) ?_|refine aC ?_|fail
 have hs:lI fr to k0 k1 a b=(aIk (bR fr to (mat k0 k1 a b true)) (bR fr to (mat k0 k1 a b false)) (bR fr to a),0):=by simp[lI,da,I,J,H,M]
 rw[hs,aIj]
 all_goals first|exact⟨_,_,rfl,rfl⟩|(refine aU rfl)
end
section
variable [Vs.Tab 1 Vs.powP]
attribute [local irreducible] Vs.Fn chOK areCh chTo chAt l03 chB rk cd3 chI stp stpTo
theorem aJi {fr to k0 k1:Int}{a b:List (List Int)} (h:(lI fr to k0 k1 a b).2=0):(lI fr to k0 k1 a b).1=true:=by
 unfold lI at h⊢;split at h
 .rename_i u;rw[AY u];rw[Au] at u;split at h
  .rename_i h2;rw[AY h2];split at h
   .rename_i F;rw[AY F];split at h
    .rename_i M;rw[AY M];have G:=aEK u.1 h2;rw[aF4,Aw] at F
     have O:a.length<=40:=by
      have:=u.1;simp only[bB,Au,Bb] at this;omega
     obtain⟨I,J,L⟩:=aIW (fr:=fr) (to:=to) (k0:=k0) (k1:=k1) (a:=a) (b:=b) (λc H=>⟨G c H,F c H⟩) (by omega);simp[aIk,I,J,L]
    .exact absurd h (by assumption)
   .cases h
  .cases h
 .cases h
end
end Go.Proofs.YtmiiohemehacjaaGreatDoor
