/- The deck that arises by a step: the reference. -/
import Derived.Test.YtmiiohemehacjaaGreatDoorXwVm
import Derived.Test.YtmiiohemehacjaaGreatDoorXuO
import Derived.Test.YtmiiohemehacjaaGreatDoorVsI
import Derived.Test.YtmiiohemehacjaaGreatDoorXwD
import Derived.Test.YtmiiohemehacjaaGreatDoorXwVf
import Derived.Test.YtmiiohemehacjaaGreatDoorVtR
import Derived.Test.YtmiiohemehacjaaGreatDoorXuF
set_option linter.all false
set_option maxHeartbeats 8000000
namespace Go.Proofs.YtmiiohemehacjaaGreatDoor
open Go.Vs
section
variable [Vs.Envs]
attribute [local irreducible] Vs.Fn bD mgC lM mtC eU uB mat aAx chOK areCh chTo chAt l03 chB rk cd3 chI stp stpTo
def stC (x:Stp) (o:Off):Int:=if x.kind=7 then(if 20<=o.totals.length then 5 else if nZ x.f0 x.f1 x.s0 x.s1 (tr o.trays x.a) then 0 else 8) else dkC x (tr o.trays x.a) (tr o.trays x.b)
def stO (x:Stp) (o:Off):Off:=if x.kind=7 then⟨o.trays,o.totals++[o7 x.f0 x.f1 x.s0 x.s1 (tr o.trays x.a)]⟩ else⟨o.trays.set x.to.toNat (dkL x (tr o.trays x.a) (tr o.trays x.b)),o.totals⟩
def dsC (x:Stp) (o:Off):Int:=if dW x (wO o.trays) then stC x o else 2
def run:Off->List Stp->Off×Nat
 |o,[]=>(o,0)
 |o,x::r=>if dsC x o=0 then((run (stO x o) r).1,(run (stO x o) r).2+1) else(o,0)
def okD (w:Nat) (d:List (List Int)):Prop:=bB d=true∧∀c,c∈d->c.length=w
def okO (w:Nat) (o:Off):Prop:=(1<=w∧w<=20)∧o.trays.length=6∧(∀d,d∈o.trays->okD w d)∧o.totals.length<=20∧∀t,t∈o.totals->aGt t
theorem bQ {w:Nat}{d:List (List Int)} (G:w<=20) (h:okD w d):bE d:=by
 have F:=lD h.1;exact⟨by omega,λc u=>by rw[h.2 c u];omega⟩
theorem dC {w:Nat}{o:Off} (h:okO w o):fC o:=by
 obtain⟨H,I,F,J,G⟩:=h;exact⟨⟨by omega,λd u=>bQ H.2 (F d u)⟩,⟨by omega,G⟩⟩
theorem aHe {w:Nat}:∀T:List (List (List Int)),(∀d,d∈T->okD w d)->wO T=w∨(wO T=20∧∀d,d∈T->d.length=0)
 | [],_=>.inr ⟨rfl,λd G=>absurd G (by simp)⟩
 | d::r,h=>by
  unfold wO;by_cases F:d.length=0
  .rw[AY F];rcases aHe r λe u=>h e (Dh _ u) with h1|⟨h1,h2⟩
   .exact .inl h1
   .refine .inr ⟨h1,λe u=>?_⟩;rcases Ay.1 u with rfl|u
    .exact F
    .exact h2 e u
  .rw[AJ F];refine .inl ((h d (Da ..)).2 _ ?_);rw[show d.getD 0 []=d[0]'(by omega) by simp[List.getD,(by omega:0<d.length)]];exact Am _
theorem aLs {w:Nat}{d:List (List Int)} (h:okD w d):bL d=20∧d.length=0∨bL d=w∧d.length≠0:=by
 unfold bL;by_cases u:d.length=0
 .rw[AY u];exact .inl ⟨rfl,u⟩
 .rw[AJ u,h.2 (d.getD 0 []) (by rw[show d.getD 0 []=d[0]'(by omega) by simp[List.getD,(by omega:0<d.length)]];exact Am _)];exact .inr ⟨rfl,u⟩
theorem yC {a b v w:Int} (h:v<=w) (u:eF a b v=true):eF a b w=true:=by
 simp only[eF,Au,Bb] at u⊢;omega
theorem aC1 {a b v w:Int} (h:v<=w) (u:kX a b v=true):kX a b w=true:=by
 unfold kX at u⊢;rw[Au] at u⊢;exact⟨yC h u.1,u.2⟩
theorem qD {w:Nat}{o:Off} (h:okO w o) {d:List (List Int)} (F:d∈o.trays):(wO o.trays:Int)<=bL d:=by
 rcases aLs (h.2.2.1 d F) with⟨u,_⟩|⟨u,h2⟩
 .rcases aHe o.trays h.2.2.1 with h3|⟨h3,_⟩
  .rw[u,h3];have:=h.1.2;omega
  .rw[u,h3];omega
 .rcases aHe o.trays h.2.2.1 with h3|⟨h3,h4⟩
  .rw[u,h3];omega
  .exact absurd (h4 d F) h2
theorem wO_in {w:Nat}{o:Off} (h:okO w o):inB (wO o.trays:Int) 1 20=true:=by
 have:=h.1;rcases aHe o.trays h.2.2.1 with h3|⟨h3,_⟩<;>rw[h3]<;>simp[inB]<;>omega
structure aMs (x:Stp) (o:Off):Prop where
 k:1<=x.kind∧x.kind<=7
 a:0<=x.a∧x.a<(o.trays.length:Int)
 b:0<=x.b∧x.b<(o.trays.length:Int)
 to:0<=x.to∧x.to<(o.trays.length:Int)
 f:eF x.f0 x.f1 (wO o.trays)=true
 n:x.kind=7->kX x.s0 x.s1 (wO o.trays)=true
theorem nC {w:Nat}{o:Off} (h:okO w o) {x:Stp} (F:dW x (wO o.trays)=true):aMs x o:=by
 unfold dW at F;simp only[Au] at F;obtain⟨G,I,J,M,L,_,u⟩:=F;simp only[inB,Au,Bb] at G I J M;have O:=h.2.1;refine⟨G,⟨by omega,by omega⟩,⟨by omega,by omega⟩,⟨by omega,by omega⟩,L,λH=>?_⟩;rw[AY (by simp[H])] at u;simp only[Au] at u;exact u.2.1
theorem aBr {w:Nat}{a b m:List (List Int)} (J:okD w a) (L:okD w b) (M:∀c,c∈m->c∈a∨c∈b) (U:m.length<=40):okD w m:=by
 have H:∀c,c∈m->c.length=w:=λc u=>(M c u).elim (J.2 c) (L.2 c)
 have F:∀c,c∈m->gL c=true:=λc u=>by
  have I:=J.1;have h2:=L.1;simp only[bB,Au,Aw,Bb] at I h2;rcases M c u with h|h
  .exact(I.1 c h).1
  .exact(h2.1 c h).1
 refine⟨?_,H⟩;simp only[bB,Au,Aw,Bb];refine⟨λc u=>⟨F c u,?_⟩,U⟩;have O:0<m.length:=Cx u;have G:m.getD 0 []∈m:=by rw[show m.getD 0 []=m[0] by simp[List.getD,O]];exact Am _
 rw[H c u,H _ G]
theorem aKm {fr to:Int}{l:List (List Int)}:∀c,c∈uB fr to l->c∈l:=by
 intro c u;unfold uB at u;obtain⟨i,hi,rfl⟩:=BG.1 u;exact nL (aBy i hi)
theorem aKn (fr to:Int) (l:List (List Int)):(uB fr to l).length<=l.length:=by
 unfold uB;rw[BC];exact jV fr to l l.length
theorem aHO {q:List Int->Bool}{l:List (List Int)}:∀c,c∈flt q l->c∈l:=λc u=>(BN.1 u).1
theorem aJY {fr to:Int}{l o:List (List Int)}{e:Bool}:∀c,c∈mat fr to l o e->c∈l:=by unfold mat;exact aHO
theorem aMl (fr to:Int) (l o:List (List Int)) (e:Bool):(mat fr to l o e).length<=l.length:=by unfold mat;exact zT _ _
theorem aLB {fr to:Int}{a b:List (List Int)} (h:mgC fr to a b=0):a.length+b.length<=40:=by
 unfold mgC at h;split at h
 .split at h
  .cases h
  .split at h
   .split at h
    .cases h
    .omega
   .cases h
 .contradiction
theorem dk_ok {w:Nat}{x:Stp}{a b:List (List Int)} (u:okD w a) (F:okD w b) (fa:eF x.f0 x.f1 (bL a)=true) (U:eF x.f0 x.f1 (bL b)=true) (G:dkC x a b=0):okD w (dkL x a b):=by
 have O:=fE u.1 fa;have Y:=fE F.1 U;have H:=lD u.1;have Z:=lD F.1;unfold dkC at G;unfold dkL;by_cases J:x.kind=1
 .rw[AY J] at G⊢;exact aBr u F (λc h=>.inl (aFa O H c h)) (by rw[aFb];exact H)
 rw[AJ J] at G⊢;by_cases h2:x.kind=2
 .rw[AY h2] at G⊢;have V:=aLB G;have I:(a++b).length<=40:=by rw[AC];exact V
  refine aBr u F (λc h=>?_) (by rw[aFb];exact I);exact Be.1 (aFa (λc h=>(Be.1 h).elim (O c) (Y c)) I c h)
 rw[AJ h2] at G⊢;by_cases L:x.kind=5
 .rw[AY L];exact aBr u F (λc h=>.inl (aHO c h)) (BJ (zT _ _) H)
 rw[AJ L];by_cases M:x.kind=6
 .rw[AY M];exact aBr u F (λc h=>.inl (aKm c h)) (BJ (aKn _ _ _) H)
 rw[AJ M];split
 .exact aBr u F (λc h=>.inl (aJY c h)) (BJ (aMl _ _ _ _ _) H)
 .exact aBr u F (λc h=>.inl (aJY c h)) (BJ (aMl _ _ _ _ _) H)
theorem aGm {fr to sf st:Int}{l:List (List Int)}{w:Nat} (M:w<=20) (h:okD w l):aGt (o7 fr to sf st l):=by
 have J:=lD h.1;have L:=aFR fr to l;refine⟨by unfold o7;rw[BC];omega,λt F=>?_⟩;unfold o7 at F;obtain⟨g,u,rfl⟩:=BG.1 F;obtain⟨G,_,H⟩:=aFQ u;have I:g.getD 0 []∈l:=H _ (by rw[show g.getD 0 []=g[0] by simp[List.getD,G]];exact Am _);show(txt (fH fr to (g.getD 0 []))).size<=1048576
 rw[aCJ];unfold fH;rw[Cf,Ch,h.2 _ I];omega
theorem st_ok {w:Nat}{o:Off}{x:Stp} (h:okO w o) (G:aMs x o) (u:stC x o=0):okO w (stO x o):=by
 have J:=h.2.1;have I:=dB G.a;have M:=dB G.b;unfold stC at u;unfold stO;by_cases L:x.kind=7
 .rw[AY L] at u⊢;refine⟨h.1,J,h.2.2.1,?_,λt F=>?_⟩
  .rw[AC,A9];split at u
   .cases u
   .omega
  .rcases Be.1 F with F|F
   .exact h.2.2.2.2 t F
   .rw[Ar.1 F];exact aGm h.1.2 (h.2.2.1 _ I)
 .rw[AJ L] at u⊢;refine⟨h.1,by simpa using J,λd H=>?_,h.2.2.2.1,h.2.2.2.2⟩;rcases CJ H with H|rfl
  .exact h.2.2.1 d H
  .exact dk_ok (h.2.2.1 _ I) (h.2.2.1 _ M) (yC (qD h I) G.f) (yC (qD h M) G.f) u
theorem yE {w:Nat}{o:Off}{x:Stp} (h:okO w o) (u:dsC x o=0):okO w (stO x o):=by
 unfold dsC at u;split at u
 .rename_i F;exact st_ok h (nC h F) u
 .cases u
theorem aJw {w:Nat}:∀(u:List Stp) (o:Off),okO w o->okO w (run o u).1∧(run o u).2<=u.length
 | [],o,h=>⟨h,AL _⟩
 | x::r,o,h=>by
  unfold run;by_cases F:dsC x o=0
  .rw[AY F];obtain⟨G,h2⟩:=aJw r (stO x o) (yE h F);exact⟨G,Nat.succ_le_succ h2⟩
  .rw[AJ F];exact⟨h,BX _⟩
def aDK (o:Off) (fl:List Stp) (i:Nat) (o':Off):Prop:=run o fl=((run o' (fl.drop i)).1,(run o' (fl.drop i)).2+i)
theorem aDW (o:Off) (u:List Stp):aDK o u 0 o:=rfl
theorem yS {o F:Off}{u:List Stp}{i:Nat} (hi:i<u.length) (h:aDK o u i F) (G:dsC u[i] F=0):aDK o u (i+1) (stO u[i] F):=by
 unfold aDK at h⊢;rw[Bn hi,run,AY G] at h;rw[h];simp only[AZ,Ci];omega
theorem mQ {o F:Off}{u:List Stp}{i:Nat} (hi:i<u.length) (h:aDK o u i F) (G:dsC u[i] F≠0):run o u=(F,i):=by
 unfold aDK at h;rw[Bn hi,run,AJ G] at h;rw[h,BF]
theorem aAN {o F:Off}{u:List Stp} (h:aDK o u u.length F):run o u=(F,u.length):=by
 unfold aDK at h;rw[Cs,run] at h;rw[h,BF]
end
section
variable [Vs.Tab 1 Vs.powP]
attribute [local irreducible] Vs.Fn dW stC stO iU bR chOK areCh chTo chAt l03 chB rk cd3 chI stp stpTo
def fbC (fr to:Int) (o:Off) (n:Nat):Int:=if rR o then(if kX fr to (wO o.trays)&&decide ((n:Int)<=20) then 0 else 2) else 1
def exC (fr to:Int) (o:Off):Int:=if rR o then(if kX fr to (wO o.trays) then 0 else 2) else 1
theorem aHz {o:Off} (h:rR o=true):o.trays.length=6:=by
 simp only[rR,Au,Bj] at h;omega
theorem aJL {o:Off} (h:rR o=true) {i:Nat} (hi:i<6):tX o i=true:=by
 have F:=aHz h;simp only[rR,Au] at h;have u:=h.1;rw[aIt] at u;exact u i (by omega)
theorem aBb {l:List (List Int)} (h:bB l=true):l.length<=40:=by
 simp only[bB,Au,Bb] at h;omega
theorem aCs (fr to:Int) (o:Off) (u:fC o):Fz F.qR [.ro (cO o),.agg (cFd fr to)] (.v (.int .i64 (exC fr to o))):=by
 refine fn0 Cd.s_l18Code_k λX=>?_
 repeat' first|simp -dsimp only[go_sem,cFd,cO]|apply Br.mk<;>intro h<;>try simp -dsimp only[h]|refine aA.c (by first|exact l15Ok o u|exact nN o u|exact xR fr to _) ?_|refine aC ?_|fail
 all_goals(simp_all [exC])
theorem aAm {o:Off} (h:rR o=true) (M:fC o):okO (wO o.trays) o:=by
 have J:=aHz h
 have hin:∀d,d∈o.trays->okD (wO o.trays) d:=by
  intro d u;obtain⟨i,hi,rfl⟩:=Ct.1 u;have F:=aJL h (i:=i) (by omega);rw[tX,getD_lt hi] at F;simp only[Au,Cn,Bj] at F;refine⟨F.1,λc G=>?_⟩;have I:o.trays[i].length≠0:=by intro e;rw[Bl e] at G;cases G
  rw[←F.2.resolve_left I];have u:=F.1;simp only[bB,Au,Aw,Bb] at u;exact(u.1 c G).2
 have O:1<=wO o.trays∧wO o.trays<=20:=by
  have H:∀l:List (List (List Int)),(∀d,d∈l->bB d=true)->1<=wO l∧wO l<=20:=by
   intro l
   induction l with
   |nil=>intro _;simp[wO]
   | cons d r ih =>
    intro h;rw[wO];split
    .exact ih λe L=>h e (by simp[L])
    .rename_i I;have u:=h d (by simp);have F:0<d.length:=by omega
     simp only[bB,Au,Aw,Bb] at u;have G:=(u.1 d[0] (Am F)).1;simp only[gL,inB,Au,Aw,Bb] at G;rw[getD_lt F];omega
  exact H _ λd u=>(hin d u).1
 simp only[rR,Au,Bb] at h;exact⟨O,J,hin,by omega,M.2.2⟩
theorem tV {o:Off}{w:Nat} (h:okO w o) {fr to:Int} (G:kX fr to w=true) {d:List (List Int)} (V:d∈o.trays):∀c,c∈d->okP fr to c:=by
 intro c J;obtain⟨I,h2⟩:=h.2.2.1 d V;have F:=h2 c J;simp only[bB,Au,Aw,Bb] at I;have u:=(I.1 c J).1;simp only[gL,inB,Au,Aw,Bb] at u;simp only[kX,eF,Au,Bb] at G;rw[←F] at G;obtain⟨⟨L,M,O⟩,H⟩:=G;obtain⟨U,h6,h7⟩:=u;have Y:W (to-fr)=to-fr:=aM (by omega) (by omega);rw[Y] at H;exact⟨L,M,O,H,by omega,λx Z=>U x Z⟩
def tlK (x:Stp):Int:=if x.kind=7 then x.a else x.to
def tlT (x:Stp) (o:Off):List (List Int):=tr o.trays (tlK x)
def alg (fr to:Int):Off->List Stp->List (Int×Int×Int)×Bool
 |_,[]=>([],true)
 | o,x::r=>if dsC x o=0 then
   (if iU fr to (tlT x (stO x o)) then(bR fr to (tlT x (stO x o))::(alg fr to (stO x o) r).1,(alg fr to (stO x o) r).2) else([],false))
  else([],true)
def aCh (fr to:Int) (o:Off) (fl:List Stp) (i:Nat) (o':Off) (acc:List (Int×Int×Int)):Prop:=
 (alg fr to o fl).2=(alg fr to o' (fl.drop i)).2∧((alg fr to o fl).2=true->(alg fr to o fl).1=acc++(alg fr to o' (fl.drop i)).1)∧acc.length=i
theorem zV (fr to:Int) (o:Off) (u:List Stp):aCh fr to o u 0 o []:=⟨rfl,λ_=>rfl,rfl⟩
theorem qZ {fr to:Int}{o G:Off}{u:List Stp}{i:Nat}{F:List (Int×Int×Int)} (H:i<u.length) (h:aCh fr to o u i G F) (M:dsC u[i] G=0) (L:iU fr to (tlT u[i] (stO u[i] G))=true) :
  aCh fr to o u (i+1) (stO u[i] G) (F++[bR fr to (tlT u[i] (stO u[i] G))]):=by
 obtain⟨I,h2,J⟩:=h;rw[Bn H,alg,AY M,AY L] at I h2;refine⟨I,λh=>?_,by simp[J]⟩;rw[h2 h,Bp];rfl
theorem vS {fr to:Int}{o H:Off}{u:List Stp}{i:Nat}{F:List (Int×Int×Int)} (G:i<u.length) (h:aCh fr to o u i H F) (L:dsC u[i] H=0) (J:iU fr to (tlT u[i] (stO u[i] H))=false):(alg fr to o u).2=false:=by
 obtain⟨I,h2,M⟩:=h;rw[Bn G,alg,AY L,AJ (by rw[J];simp)] at I;exact I
theorem jW {fr to:Int}{o I:Off}{F:List Stp}{i:Nat}{u:List (Int×Int×Int)} (H:i<F.length) (h:aCh fr to o F i I u) (J:dsC F[i] I≠0):alg fr to o F=(u,true):=by
 obtain⟨G,h2,L⟩:=h;rw[Bn H,alg,AJ J] at G h2;have:=h2 G;rw[AA] at this;exact Prod.ext this G
theorem vR {fr to:Int}{o H:Off}{F:List Stp}{u:List (Int×Int×Int)} (h:aCh fr to o F F.length H u):alg fr to o F=(u,true):=by
 obtain⟨G,h2,I⟩:=h;rw[Cs,alg] at G h2;have:=h2 G;rw[AA] at this;exact Prod.ext this G
def fbI:List (Int×Int×Int)->List (Int×Int×Int)->Nat->Int
 |_,[],_=>-1
 | [],_::_,i=>i
 |a::r,b::s,i=>if a=b then fbI r s (i+1) else i
end
section
variable [Vs.Envs]
attribute [local irreducible] Vs.Fn bD mgC lM mtC eU uB mat aAx dkC dkL nZ o7 dW wO chOK areCh chTo chAt l03 chB rk cd3 chI stp stpTo
def noO:AV:=.agg [.v (.slice none 0 0),.v (.slice none 0 0)]
def dsV (x:Stp) (o:Off):AV:=if dsC x o=0 then .agg (cO (stO x o)) else noO
theorem aHb (m:List (List (List Int))) (i:Nat) (d:List (List Int)):(E cD m).set i [.sl 1 (E cC d)]=E cD (m.set i d):=by simp[E,Db,cD]
theorem aK1 (m:List (List Tot)) (t:List Tot):E cTs m++[[.sl 2 (E cT t)]]=E cTs (m++[t]):=by rw[aS];rfl
theorem aEz {fr to sf st:Int}{l:List (List Int)} (h:nZ fr to sf st l=true):wX fr to sf st l=.sl 2 (E cT (o7 fr to sf st l)):=by unfold wX;rw[AY h];rfl
theorem aEA {fr to sf st:Int}{l:List (List Int)} (h:nZ fr to sf st l=false):wX fr to sf st l=.v (.slice none 0 0):=by unfold wX;rw[h];rfl
theorem aGX {x:Stp}{a b:List (List Int)} (h:dkC x a b=0):dkV x a b=.sl 1 (E cC (dkL x a b)):=by unfold dkV;rw[AY h]
theorem aGY {x:Stp}{a b:List (List Int)} (h:dkC x a b≠0):dkV x a b=.v (.slice none 0 0):=by unfold dkV;rw[AJ h]
theorem ds_dk {x:Stp}{o:Off} (F:dW x (wO o.trays)=true) (u:x.kind≠7):dsC x o=dkC x (tr o.trays x.a) (tr o.trays x.b):=by unfold dsC stC;rw[AY F,AJ u]
theorem aMc {x:Stp}{o:Off} (u:x.kind≠7):stO x o=⟨o.trays.set x.to.toNat (dkL x (tr o.trays x.a) (tr o.trays x.b)),o.totals⟩:=by unfold stO;rw[AJ u]
theorem aM7 {x:Stp}{o:Off} (F:dW x (wO o.trays)=true) (u:x.kind=7):dsC x o=if 20<=o.totals.length then 5 else if nZ x.f0 x.f1 x.s0 x.s1 (tr o.trays x.a) then 0 else 8:=by unfold dsC stC;rw[AY F,AY u]
theorem aJg {x:Stp}{o:Off} (u:x.kind=7):stO x o=⟨o.trays,o.totals++[o7 x.f0 x.f1 x.s0 x.s1 (tr o.trays x.a)]⟩:=by unfold stO;rw[AY u]
attribute [local go_sem] Int.reduceBEq Int.reduceBNe cC cFd aH Ai Ah Al Aq Ad Af Ac Ae Aa Ab Ao Ar Ay Az Bo Bq Vs.Name.t.injEq Ak AB in
theorem aKB (x:Stp) (hz:x.text.size<=1048576) (o:Off) (w:Nat) (I:okO w o):Fz F.xZ [.agg (cO o),.agg (cS x)] (.tup [dsV x o,.v (.int .i64 (dsC x o))]):=by
 have J:=dC I;have O:=lQ o J;have Z:=aIz o J;have G:=aDk x (wO o.trays:Int) hz;rw[wO_in I,CX] at G;have hl:=I.2.1;have hk:=I.2.2.2.1;cases hv:dW x (wO o.trays)
 .rw[hv] at G;rw[show dsC x o=2 by unfold dsC;rw[hv];rfl,show dsV x o=noO by unfold dsV dsC;rw[hv];rfl];refine fn0 Cd.i_doStep_k λX=>?_
  repeat' first|simp -dsimp only[go_sem,noO,cO,cS]|apply Br.mk<;>intro h<;>try simp -dsimp only[h]|refine aA.c (by first|exact G|exact O) ?_|refine aC ?_|fail
  all_goals first|omega|exact⟨_,_,rfl,rfl⟩
 rw[hv] at G;have u:=nC I hv;have ma:=dB u.a;have mb:=dB u.b;have ga:=dN u.a;have gb:=dN u.b;have a0:=u.a.1;have a1:=u.a.2;have gt:=dN u.to;have t0:=u.to.1;have t1:=u.to.2;have he:(E cD o.trays).length=o.trays.length:=aH _;have hf:(E cTs o.totals).length=o.totals.length:=aH _;have hc:(E cD o.trays).take o.trays.length=E cD o.trays:=Ag (by omega);have hd:(E cTs o.totals).take o.totals.length=E cTs o.totals:=Ag (by omega);by_cases L:x.kind=7
 .have V:(x.kind==7)=true:=Bj.2 L;rw[show dsV x o=if dsC x o=0 then .agg (cO (stO x o)) else noO from rfl,aM7 hv L,aJg L];by_cases ha:20<=o.totals.length
  .have H:((o.totals.length:Int)==20)=true:=Bj.2 (by omega);rw[AY ha];rw[AJ (by decide)];refine fn0 Cd.i_doStep_k λX=>?_
   repeat' first|simp -dsimp only[go_sem,V,H,noO,cO,cS]|apply Br.mk<;>intro h<;>try simp -dsimp only[h]|refine aA.own (by first|exact Z) rfl ?_|refine aA.c (by first|exact G|exact O) ?_|refine aC ?_|fail
   all_goals first|omega|exact⟨_,_,rfl,rfl⟩
  .have H:((o.totals.length:Int)==20)=false:=Ap.2 (by omega);rw[AJ ha];have da:=I.2.2.1 _ ma;have U:=aJa (tr o.trays x.a) x.f0 x.f1 x.s0 x.s1 (fE da.1 (yC (qD I ma) u.f)) (aGD da.1 (aC1 (qD I ma) (u.n L))) (bQ I.1.2 da).1;cases hb:nZ x.f0 x.f1 x.s0 x.s1 (tr o.trays x.a)
   .rw[aEA hb,hb] at U;simp only[A8,Bg] at U;rw[AJ (by decide),AJ (by decide)];refine fn0 Cd.i_doStep_k λX=>?_
    repeat' first|simp -dsimp only[go_sem,V,H,noO,ga,cO,cS]|apply Br.mk<;>intro h<;>try simp -dsimp only[h]|refine aA.own (by first|exact Z) rfl ?_|refine aA.c (by first|exact G|exact O|exact U) ?_|refine aC ?_|fail
    all_goals first|omega|exact⟨_,_,rfl,rfl⟩
   .rw[aEz hb,hb] at U;simp only[Bt] at U;rw[AY rfl,AY rfl];have hg:=aK1 o.totals (o7 x.f0 x.f1 x.s0 x.s1 (tr o.trays x.a));have M:(E cTs (o.totals++[o7 x.f0 x.f1 x.s0 x.s1 (tr o.trays x.a)])).take (o.totals.length+1)=E cTs (o.totals++[o7 x.f0 x.f1 x.s0 x.s1 (tr o.trays x.a)]):=Ag (by rw[aH,AC];exact AL _);refine fn0 Cd.i_doStep_k λX=>?_
    repeat' first|simp -dsimp only[go_sem,V,H,ga,he,hf,hg,hc,hd,M,cO,cS]|apply Br.mk<;>intro h<;>try simp -dsimp only[h]|refine aA.own (by first|exact Z) rfl ?_|refine aA.c (by first|exact G|exact O|exact U) ?_|refine aC ?_|fail
    all_goals first|omega|exact⟨_,_,rfl,rfl⟩
 .have V:(x.kind==7)=false:=Ap.2 L;rw[show dsV x o=if dsC x o=0 then .agg (cO (stO x o)) else noO from rfl,ds_dk hv L,aMc L];have Y:=aFP x hz o.trays J.1.2 J.1.1 u.a u.b o.totals;by_cases h0:dkC x (tr o.trays x.a) (tr o.trays x.b)=0
  .rw[aGX h0] at Y;rw[h0] at Y⊢;rw[AY rfl];generalize dkL x (tr o.trays x.a) (tr o.trays x.b)=D at *
   have hj:=aHb o.trays x.to.toNat D;have M:(E cD (o.trays.set x.to.toNat D)).take o.trays.length=E cD (o.trays.set x.to.toNat D):=Ag (by rw[aH,Ao];exact AL _);refine fn0 Cd.i_doStep_k λX=>?_
   repeat' first|simp -dsimp only[go_sem,V,gt,he,hf,hj,hc,hd,M,cO,cS]|apply Br.mk<;>intro h<;>try simp -dsimp only[h]|refine aA.own (by first|exact Z) rfl ?_|refine aA.c (by first|exact G|exact O|exact Y) ?_|refine aC ?_|fail
   all_goals first|omega|exact⟨_,_,rfl,rfl⟩
  .rw[aGY h0] at Y;rw[AJ h0];have e0:(dkC x (tr o.trays x.a) (tr o.trays x.b) != 0)=true:=by simp[h0]
   generalize dkC x (tr o.trays x.a) (tr o.trays x.b)=c at *
   refine fn0 Cd.i_doStep_k λX=>?_
   repeat' first|simp -dsimp only[go_sem,V,e0,noO,cO,cS]|apply Br.mk<;>intro h<;>try simp -dsimp only[h]|refine aA.own (by first|exact Z) rfl ?_|refine aA.c (by first|exact G|exact O|exact Y) ?_|refine aC ?_|fail
   all_goals first|omega|exact⟨_,_,rfl,rfl⟩
end
section
variable [Vs.Envs]
attribute [local irreducible] Vs.Fn bD mgC lM mtC eU flt jA uB mat chOK areCh chTo chAt l03 chB rk cd3 chI stp stpTo
attribute [local go_sem] Int.reduceBEq Int.reduceBNe cO cFd aH Ai Ah Al Aq Ad Af Ac Ae Aa Ab Ao Ar Ay Az Bo Bq Vs.Name.t.injEq Vs.Name.b.injEq Ak AB in
theorem aFE (x:Stp) (hz:x.text.size<=1048576) (T:List (List (List Int))) (hs:∀d,d∈T->bE d) (hl:T.length<=1048576) (iA:0<=x.a∧x.a<(T.length:Int)) (iB:0<=x.b∧x.b<(T.length:Int)):Vs.Fn Tryz.prog F.bZ [.var [.loc (.b 1) 0 T.length,.v (.slice none 0 0)] false,.arr 1 (E cD T) false] [.ptr (.b 0) 0 0,.ro (cS x)] (.tup [dkV x (tr T x.a) (tr T x.b),.v (.int .i64 (dkC x (tr T x.a) (tr T x.b)))]) ([.var [.loc (.b 1) 0 T.length,.v (.slice none 0 0)] false,.arr 1 (E cD T) false].map some):=by
 have Y:=hs _ (dB iA);have sb:=hs _ (dB iB);have gA:=dN iA;have L:=dN iB;have a0:=iA.1;have a1:=iA.2;have b0:=iB.1;have b1:=iB.2;by_cases M:x.kind=1
 .have H:=jL (tr T x.a) x.f0 x.f1 Y.2 Y.1;have G:dkC x (tr T x.a) (tr T x.b)=bD x.f0 x.f1 (tr T x.a):=by simp[dkC,M]
  have V:dkL x (tr T x.a) (tr T x.b)=eU x.f0 x.f1 (tr T x.a):=by simp[dkL,M]
  have I:dkV x (tr T x.a) (tr T x.b)=oF x.f0 x.f1 (tr T x.a):=by unfold dkV oF;rw[G,V]
  have u:oF x.f0 x.f1 (tr T x.a)=.sl 1 (E cC (eU x.f0 x.f1 (tr T x.a)))∨oF x.f0 x.f1 (tr T x.a)=.v (.slice none 0 0):=by unfold oF;split<;>simp
  rw[I,G];generalize bD x.f0 x.f1 (tr T x.a)=c at *
  rcases u with u|u<;>rw[u] at H⊢
  all_goals
   refine fn1 Cd.s_l15Make_k [.b 0,.b 1] [.var [.loc (.b 1) 0 T.length,.v (.slice none 0 0)] false,.arr 1 (E cD T) false] λX=>?_;unfold Cd.bZ
   repeat' first|simp -dsimp only[go_sem,M,gA,L,cS]|apply Br.mk<;>intro h<;>try simp -dsimp only[h]|refine aA.c (by first|exact H) ?_|refine aC ?_|fail
   all_goals first|omega|exact⟨_,_,rfl,rfl⟩
 by_cases h2:x.kind=2
 .have H:=wS (tr T x.a) (tr T x.b) x.f0 x.f1 Y sb;have G:dkC x (tr T x.a) (tr T x.b)=mgC x.f0 x.f1 (tr T x.a) (tr T x.b):=by simp[dkC,h2]
  have V:dkL x (tr T x.a) (tr T x.b)=eU x.f0 x.f1 (tr T x.a++tr T x.b):=by simp[dkL,h2]
  have I:dkV x (tr T x.a) (tr T x.b)=mgV x.f0 x.f1 (tr T x.a) (tr T x.b):=by unfold dkV mgV;rw[G,V]
  have u:mgV x.f0 x.f1 (tr T x.a) (tr T x.b)=.sl 1 (E cC (eU x.f0 x.f1 (tr T x.a++tr T x.b)))∨mgV x.f0 x.f1 (tr T x.a) (tr T x.b)=.v (.slice none 0 0):=by unfold mgV;split<;>simp
  rw[I,G];generalize mgC x.f0 x.f1 (tr T x.a) (tr T x.b)=c at *
  rcases u with u|u<;>rw[u] at H⊢
  all_goals
   refine fn1 Cd.s_l15Make_k [.b 0,.b 1] [.var [.loc (.b 1) 0 T.length,.v (.slice none 0 0)] false,.arr 1 (E cD T) false] λX=>?_;unfold Cd.bZ
   repeat' first|simp -dsimp only[go_sem,h2,gA,L,cS]|apply Br.mk<;>intro h<;>try simp -dsimp only[h]|refine aA.c (by first|exact H) ?_|refine aC ?_|fail
   all_goals first|omega|exact⟨_,_,rfl,rfl⟩
 by_cases O:x.kind=5
 .have H:=uF (tr T x.a) x.f0 x.f1 x.text Y hz;have G:dkC x (tr T x.a) (tr T x.b)=lM x.f0 x.f1 x.text (tr T x.a):=by simp[dkC,O]
  have V:dkL x (tr T x.a) (tr T x.b)=flt (jA x.f0 x.f1 x.text) (tr T x.a):=by simp[dkL,O]
  have I:dkV x (tr T x.a) (tr T x.b)=nD x.f0 x.f1 x.text (tr T x.a):=by unfold dkV nD;rw[G,V]
  have u:nD x.f0 x.f1 x.text (tr T x.a)=.sl 1 (E cC (flt (jA x.f0 x.f1 x.text) (tr T x.a)))∨nD x.f0 x.f1 x.text (tr T x.a)=.v (.slice none 0 0):=by unfold nD;split<;>simp
  rw[I,G];generalize lM x.f0 x.f1 x.text (tr T x.a)=c at *
  rcases u with u|u<;>rw[u] at H⊢
  all_goals
   refine fn1 Cd.s_l15Make_k [.b 0,.b 1] [.var [.loc (.b 1) 0 T.length,.v (.slice none 0 0)] false,.arr 1 (E cD T) false] λX=>?_;unfold Cd.bZ
   repeat' first|simp -dsimp only[go_sem,O,gA,L,cS]|apply Br.mk<;>intro h<;>try simp -dsimp only[h]|refine aA.c (by first|exact H) ?_|refine aC ?_|fail
   all_goals first|omega|exact⟨_,_,rfl,rfl⟩
 by_cases U:x.kind=6
 .have H:=rD (tr T x.a) x.f0 x.f1 Y;have G:dkC x (tr T x.a) (tr T x.b)=bD x.f0 x.f1 (tr T x.a):=by simp[dkC,U]
  have V:dkL x (tr T x.a) (tr T x.b)=uB x.f0 x.f1 (tr T x.a):=by simp[dkL,U]
  have I:dkV x (tr T x.a) (tr T x.b)=qG x.f0 x.f1 (tr T x.a):=by unfold dkV qG;rw[G,V]
  have u:qG x.f0 x.f1 (tr T x.a)=.sl 1 (E cC (uB x.f0 x.f1 (tr T x.a)))∨qG x.f0 x.f1 (tr T x.a)=.v (.slice none 0 0):=by unfold qG;split<;>simp
  rw[I,G];generalize bD x.f0 x.f1 (tr T x.a)=c at *
  rcases u with u|u<;>rw[u] at H⊢
  all_goals
   refine fn1 Cd.s_l15Make_k [.b 0,.b 1] [.var [.loc (.b 1) 0 T.length,.v (.slice none 0 0)] false,.arr 1 (E cD T) false] λX=>?_;unfold Cd.bZ
   repeat' first|simp -dsimp only[go_sem,U,gA,L,cS]|apply Br.mk<;>intro h<;>try simp -dsimp only[h]|refine aA.c (by first|exact H) ?_|refine aC ?_|fail
   all_goals first|omega|exact⟨_,_,rfl,rfl⟩
 have G:dkC x (tr T x.a) (tr T x.b)=mtC x.f0 x.f1 (tr T x.a) (tr T x.b):=by simp[dkC,M,h2,O,U]
 have e1:(x.kind==1)=false:=Ap.2 M;have e2:(x.kind==2)=false:=Ap.2 h2;have e5:(x.kind==5)=false:=Ap.2 O;have e6:(x.kind==6)=false:=Ap.2 U;have H:=l6 (tr T x.a) (tr T x.b) x.f0 x.f1 Y sb;by_cases J:mtC x.f0 x.f1 (tr T x.a) (tr T x.b)=0
 .rw[show mtV x.f0 x.f1 (tr T x.a) (tr T x.b)=.sl 1 (E cD (mtL x.f0 x.f1 (tr T x.a) (tr T x.b))) by simp[mtV,J],J] at H;have Z:(mtL x.f0 x.f1 (tr T x.a) (tr T x.b)).length=4:=rfl;have m0:(E cD (mtL x.f0 x.f1 (tr T x.a) (tr T x.b))).getD 0 []=[.sl 1 (E cC (mat x.f0 x.f1 (tr T x.a) (tr T x.b) true))]:=rfl;have m2:(E cD (mtL x.f0 x.f1 (tr T x.a) (tr T x.b))).getD 2 []=[.sl 1 (E cC (mat x.f0 x.f1 (tr T x.a) (tr T x.b) false))]:=rfl;generalize mtL x.f0 x.f1 (tr T x.a) (tr T x.b)=ML at *
  by_cases h3:x.kind=3
  .have e3:(x.kind==3)=true:=Bj.2 h3;have I:dkV x (tr T x.a) (tr T x.b)=.sl 1 (E cC (mat x.f0 x.f1 (tr T x.a) (tr T x.b) true)):=by unfold dkV;rw[G,J];simp[dkL,M,h2,O,U,h3]
   rw[I,G,J];refine fn1 Cd.s_l15Make_k [.b 0,.b 1] [.var [.loc (.b 1) 0 T.length,.v (.slice none 0 0)] false,.arr 1 (E cD T) false] λX=>?_;unfold Cd.bZ
   repeat' first|simp -dsimp only[go_sem,e1,e2,e5,e6,e3,gA,L,m0,m2,Z,cS]|apply Br.mk<;>intro h<;>try simp -dsimp only[h]|refine aA.c (by first|exact H) ?_|refine aC ?_|fail
   all_goals first|omega|exact⟨_,_,rfl,rfl⟩
  .have e3:(x.kind==3)=false:=Ap.2 h3;have I:dkV x (tr T x.a) (tr T x.b)=.sl 1 (E cC (mat x.f0 x.f1 (tr T x.a) (tr T x.b) false)):=by unfold dkV;rw[G,J];simp[dkL,M,h2,O,U,h3]
   rw[I,G,J];refine fn1 Cd.s_l15Make_k [.b 0,.b 1] [.var [.loc (.b 1) 0 T.length,.v (.slice none 0 0)] false,.arr 1 (E cD T) false] λX=>?_;unfold Cd.bZ
   repeat' first|simp -dsimp only[go_sem,e1,e2,e5,e6,e3,gA,L,m0,m2,Z,cS]|apply Br.mk<;>intro h<;>try simp -dsimp only[h]|refine aA.c (by first|exact H) ?_|refine aC ?_|fail
   all_goals first|omega|exact⟨_,_,rfl,rfl⟩
 .have e0:(mtC x.f0 x.f1 (tr T x.a) (tr T x.b) != 0)=true:=by simp[J]
  rw[show mtV x.f0 x.f1 (tr T x.a) (tr T x.b)=.v (.slice none 0 0) by simp[mtV,J]] at H;have I:dkV x (tr T x.a) (tr T x.b)=.v (.slice none 0 0):=by unfold dkV;rw[G,AJ J]
  rw[I,G];generalize mtC x.f0 x.f1 (tr T x.a) (tr T x.b)=c at *
  refine fn1 Cd.s_l15Make_k [.b 0,.b 1] [.var [.loc (.b 1) 0 T.length,.v (.slice none 0 0)] false,.arr 1 (E cD T) false] λX=>?_;unfold Cd.bZ
  repeat' first|simp -dsimp only[go_sem,e1,e2,e5,e6,e0,gA,L,cS]|apply Br.mk<;>intro h<;>try simp -dsimp only[h]|refine aA.c (by first|exact H) ?_|refine aC ?_|fail
  all_goals first|omega|exact⟨_,_,rfl,rfl⟩
attribute [local go_sem] Int.reduceBEq Int.reduceBNe cO cFd aH Ai Ah Al Aq Ad Af Ac Ae Aa Ab Ao Ar Ay Az Bo Bq Vs.Name.t.injEq Vs.Name.b.injEq Ak AB in
theorem aFF (x:Stp) (hz:x.text.size<=1048576) (T:List (List (List Int))) (hs:∀d,d∈T->bE d) (hl:T.length<=1048576) (iA:0<=x.a∧x.a<(T.length:Int)) (iB:0<=x.b∧x.b<(T.length:Int)) (G:List (List Tot)):Vs.Fn Tryz.prog F.bZ [.var [.loc (.b 1) 0 T.length,.loc (.b 2) 0 G.length] false,.arr 1 (E cD T) false,.arr 1 (E cTs G) false] [.ptr (.b 0) 0 0,.ro (cS x)] (.tup [dkV x (tr T x.a) (tr T x.b),.v (.int .i64 (dkC x (tr T x.a) (tr T x.b)))]) ([.var [.loc (.b 1) 0 T.length,.loc (.b 2) 0 G.length] false,.arr 1 (E cD T) false,.arr 1 (E cTs G) false].map some):=by
 have Z:=hs _ (dB iA);have sb:=hs _ (dB iB);have gA:=dN iA;have M:=dN iB;have a0:=iA.1;have a1:=iA.2;have b0:=iB.1;have b1:=iB.2;by_cases O:x.kind=1
 .have I:=jL (tr T x.a) x.f0 x.f1 Z.2 Z.1;have H:dkC x (tr T x.a) (tr T x.b)=bD x.f0 x.f1 (tr T x.a):=by simp[dkC,O]
  have Y:dkL x (tr T x.a) (tr T x.b)=eU x.f0 x.f1 (tr T x.a):=by simp[dkL,O]
  have J:dkV x (tr T x.a) (tr T x.b)=oF x.f0 x.f1 (tr T x.a):=by unfold dkV oF;rw[H,Y]
  have u:oF x.f0 x.f1 (tr T x.a)=.sl 1 (E cC (eU x.f0 x.f1 (tr T x.a)))∨oF x.f0 x.f1 (tr T x.a)=.v (.slice none 0 0):=by unfold oF;split<;>simp
  rw[J,H];generalize bD x.f0 x.f1 (tr T x.a)=c at *
  rcases u with u|u<;>rw[u] at I⊢
  all_goals
   refine fn1 Cd.s_l15Make_k [.b 0,.b 1,.b 2] [.var [.loc (.b 1) 0 T.length,.loc (.b 2) 0 G.length] false,.arr 1 (E cD T) false,.arr 1 (E cTs G) false] λX=>?_;unfold Cd.bZ
   repeat' first|simp -dsimp only[go_sem,O,gA,M,cS]|apply Br.mk<;>intro h<;>try simp -dsimp only[h]|refine aA.c (by first|exact I) ?_|refine aC ?_|fail
   all_goals first|omega|exact⟨_,_,rfl,rfl⟩
 by_cases h2:x.kind=2
 .have I:=wS (tr T x.a) (tr T x.b) x.f0 x.f1 Z sb;have H:dkC x (tr T x.a) (tr T x.b)=mgC x.f0 x.f1 (tr T x.a) (tr T x.b):=by simp[dkC,h2]
  have Y:dkL x (tr T x.a) (tr T x.b)=eU x.f0 x.f1 (tr T x.a++tr T x.b):=by simp[dkL,h2]
  have J:dkV x (tr T x.a) (tr T x.b)=mgV x.f0 x.f1 (tr T x.a) (tr T x.b):=by unfold dkV mgV;rw[H,Y]
  have u:mgV x.f0 x.f1 (tr T x.a) (tr T x.b)=.sl 1 (E cC (eU x.f0 x.f1 (tr T x.a++tr T x.b)))∨mgV x.f0 x.f1 (tr T x.a) (tr T x.b)=.v (.slice none 0 0):=by unfold mgV;split<;>simp
  rw[J,H];generalize mgC x.f0 x.f1 (tr T x.a) (tr T x.b)=c at *
  rcases u with u|u<;>rw[u] at I⊢
  all_goals
   refine fn1 Cd.s_l15Make_k [.b 0,.b 1,.b 2] [.var [.loc (.b 1) 0 T.length,.loc (.b 2) 0 G.length] false,.arr 1 (E cD T) false,.arr 1 (E cTs G) false] λX=>?_;unfold Cd.bZ
   repeat' first|simp -dsimp only[go_sem,h2,gA,M,cS]|apply Br.mk<;>intro h<;>try simp -dsimp only[h]|refine aA.c (by first|exact I) ?_|refine aC ?_|fail
   all_goals first|omega|exact⟨_,_,rfl,rfl⟩
 by_cases U:x.kind=5
 .have I:=uF (tr T x.a) x.f0 x.f1 x.text Z hz;have H:dkC x (tr T x.a) (tr T x.b)=lM x.f0 x.f1 x.text (tr T x.a):=by simp[dkC,U]
  have Y:dkL x (tr T x.a) (tr T x.b)=flt (jA x.f0 x.f1 x.text) (tr T x.a):=by simp[dkL,U]
  have J:dkV x (tr T x.a) (tr T x.b)=nD x.f0 x.f1 x.text (tr T x.a):=by unfold dkV nD;rw[H,Y]
  have u:nD x.f0 x.f1 x.text (tr T x.a)=.sl 1 (E cC (flt (jA x.f0 x.f1 x.text) (tr T x.a)))∨nD x.f0 x.f1 x.text (tr T x.a)=.v (.slice none 0 0):=by unfold nD;split<;>simp
  rw[J,H];generalize lM x.f0 x.f1 x.text (tr T x.a)=c at *
  rcases u with u|u<;>rw[u] at I⊢
  all_goals
   refine fn1 Cd.s_l15Make_k [.b 0,.b 1,.b 2] [.var [.loc (.b 1) 0 T.length,.loc (.b 2) 0 G.length] false,.arr 1 (E cD T) false,.arr 1 (E cTs G) false] λX=>?_;unfold Cd.bZ
   repeat' first|simp -dsimp only[go_sem,U,gA,M,cS]|apply Br.mk<;>intro h<;>try simp -dsimp only[h]|refine aA.c (by first|exact I) ?_|refine aC ?_|fail
   all_goals first|omega|exact⟨_,_,rfl,rfl⟩
 by_cases V:x.kind=6
 .have I:=rD (tr T x.a) x.f0 x.f1 Z;have H:dkC x (tr T x.a) (tr T x.b)=bD x.f0 x.f1 (tr T x.a):=by simp[dkC,V]
  have Y:dkL x (tr T x.a) (tr T x.b)=uB x.f0 x.f1 (tr T x.a):=by simp[dkL,V]
  have J:dkV x (tr T x.a) (tr T x.b)=qG x.f0 x.f1 (tr T x.a):=by unfold dkV qG;rw[H,Y]
  have u:qG x.f0 x.f1 (tr T x.a)=.sl 1 (E cC (uB x.f0 x.f1 (tr T x.a)))∨qG x.f0 x.f1 (tr T x.a)=.v (.slice none 0 0):=by unfold qG;split<;>simp
  rw[J,H];generalize bD x.f0 x.f1 (tr T x.a)=c at *
  rcases u with u|u<;>rw[u] at I⊢
  all_goals
   refine fn1 Cd.s_l15Make_k [.b 0,.b 1,.b 2] [.var [.loc (.b 1) 0 T.length,.loc (.b 2) 0 G.length] false,.arr 1 (E cD T) false,.arr 1 (E cTs G) false] λX=>?_;unfold Cd.bZ
   repeat' first|simp -dsimp only[go_sem,V,gA,M,cS]|apply Br.mk<;>intro h<;>try simp -dsimp only[h]|refine aA.c (by first|exact I) ?_|refine aC ?_|fail
   all_goals first|omega|exact⟨_,_,rfl,rfl⟩
 have H:dkC x (tr T x.a) (tr T x.b)=mtC x.f0 x.f1 (tr T x.a) (tr T x.b):=by simp[dkC,O,h2,U,V]
 have e1:(x.kind==1)=false:=Ap.2 O;have e2:(x.kind==2)=false:=Ap.2 h2;have e5:(x.kind==5)=false:=Ap.2 U;have e6:(x.kind==6)=false:=Ap.2 V;have I:=l6 (tr T x.a) (tr T x.b) x.f0 x.f1 Z sb;by_cases L:mtC x.f0 x.f1 (tr T x.a) (tr T x.b)=0
 .rw[show mtV x.f0 x.f1 (tr T x.a) (tr T x.b)=.sl 1 (E cD (mtL x.f0 x.f1 (tr T x.a) (tr T x.b))) by simp[mtV,L],L] at I;have ha:(mtL x.f0 x.f1 (tr T x.a) (tr T x.b)).length=4:=rfl;have m0:(E cD (mtL x.f0 x.f1 (tr T x.a) (tr T x.b))).getD 0 []=[.sl 1 (E cC (mat x.f0 x.f1 (tr T x.a) (tr T x.b) true))]:=rfl;have m2:(E cD (mtL x.f0 x.f1 (tr T x.a) (tr T x.b))).getD 2 []=[.sl 1 (E cC (mat x.f0 x.f1 (tr T x.a) (tr T x.b) false))]:=rfl;generalize mtL x.f0 x.f1 (tr T x.a) (tr T x.b)=ML at *
  by_cases h3:x.kind=3
  .have e3:(x.kind==3)=true:=Bj.2 h3;have J:dkV x (tr T x.a) (tr T x.b)=.sl 1 (E cC (mat x.f0 x.f1 (tr T x.a) (tr T x.b) true)):=by unfold dkV;rw[H,L];simp[dkL,O,h2,U,V,h3]
   rw[J,H,L];refine fn1 Cd.s_l15Make_k [.b 0,.b 1,.b 2] [.var [.loc (.b 1) 0 T.length,.loc (.b 2) 0 G.length] false,.arr 1 (E cD T) false,.arr 1 (E cTs G) false] λX=>?_;unfold Cd.bZ
   repeat' first|simp -dsimp only[go_sem,e1,e2,e5,e6,e3,gA,M,m0,m2,ha,cS]|apply Br.mk<;>intro h<;>try simp -dsimp only[h]|refine aA.c (by first|exact I) ?_|refine aC ?_|fail
   all_goals first|omega|exact⟨_,_,rfl,rfl⟩
  .have e3:(x.kind==3)=false:=Ap.2 h3;have J:dkV x (tr T x.a) (tr T x.b)=.sl 1 (E cC (mat x.f0 x.f1 (tr T x.a) (tr T x.b) false)):=by unfold dkV;rw[H,L];simp[dkL,O,h2,U,V,h3]
   rw[J,H,L];refine fn1 Cd.s_l15Make_k [.b 0,.b 1,.b 2] [.var [.loc (.b 1) 0 T.length,.loc (.b 2) 0 G.length] false,.arr 1 (E cD T) false,.arr 1 (E cTs G) false] λX=>?_;unfold Cd.bZ
   repeat' first|simp -dsimp only[go_sem,e1,e2,e5,e6,e3,gA,M,m0,m2,ha,cS]|apply Br.mk<;>intro h<;>try simp -dsimp only[h]|refine aA.c (by first|exact I) ?_|refine aC ?_|fail
   all_goals first|omega|exact⟨_,_,rfl,rfl⟩
 .have e0:(mtC x.f0 x.f1 (tr T x.a) (tr T x.b) != 0)=true:=by simp[L]
  rw[show mtV x.f0 x.f1 (tr T x.a) (tr T x.b)=.v (.slice none 0 0) by simp[mtV,L]] at I;have J:dkV x (tr T x.a) (tr T x.b)=.v (.slice none 0 0):=by unfold dkV;rw[H,AJ L]
  rw[J,H];generalize mtC x.f0 x.f1 (tr T x.a) (tr T x.b)=c at *
  refine fn1 Cd.s_l15Make_k [.b 0,.b 1,.b 2] [.var [.loc (.b 1) 0 T.length,.loc (.b 2) 0 G.length] false,.arr 1 (E cD T) false,.arr 1 (E cTs G) false] λX=>?_;unfold Cd.bZ
  repeat' first|simp -dsimp only[go_sem,e1,e2,e5,e6,e0,gA,M,cS]|apply Br.mk<;>intro h<;>try simp -dsimp only[h]|refine aA.c (by first|exact I) ?_|refine aC ?_|fail
  all_goals first|omega|exact⟨_,_,rfl,rfl⟩
end
end Go.Proofs.YtmiiohemehacjaaGreatDoor
