/- What control totals a step leads to: the program and the reference. -/
import Derived.Test.YtklmdppgonhflaaGreatDoorXwVm
import Derived.Test.YtklmdppgonhflaaGreatDoorXuI
import Derived.Test.YtklmdppgonhflaaGreatDoorXuO
import Derived.Test.YtklmdppgonhflaaGreatDoorVsI
import Derived.Test.YtklmdppgonhflaaGreatDoorXwD
import Derived.Test.YtklmdppgonhflaaGreatDoorXwLt
set_option linter.all false
set_option maxHeartbeats 8000000
namespace Go.Proofs.YtklmdppgonhflaaGreatDoor
open Go.Vs
section
variable [Vs.Envs]
attribute [local irreducible] Vs.Fn bL mgC oC mtC jH xN mat aAN dJ bB dK dL l03 chB rk cd3 chI stp bD
def stC (x:Stp) (o:Off):Int:=if x.kind=7 then(if 20<=o.totals.length then 5 else if o7 x.f0 x.f1 x.s0 x.s1 (tr o.trays x.a) then 0 else 8) else dkC x (tr o.trays x.a) (tr o.trays x.b)
def stO (x:Stp) (o:Off):Off:=if x.kind=7 then⟨o.trays,o.totals++[qI x.f0 x.f1 x.s0 x.s1 (tr o.trays x.a)]⟩ else⟨o.trays.set x.to.toNat (dkL x (tr o.trays x.a) (tr o.trays x.b)),o.totals⟩
def dsC (x:Stp) (o:Off):Int:=if gG x (wO o.trays) then stC x o else 2
def run:Off->List Stp->Off×Nat
 |o,[]=>(o,0)
 |o,x::r=>if dsC x o=0 then((run (stO x o) r).1,(run (stO x o) r).2+1) else(o,0)
def okD (w:Nat) (d:List (List Int)):Prop:=bC d=true∧∀c,c∈d->c.length=w
def okO (w:Nat) (o:Off):Prop:=(1<=w∧w<=20)∧o.trays.length=6∧(∀d,d∈o.trays->okD w d)∧o.totals.length<=20∧∀t,t∈o.totals->aHc t
theorem nN {w:Nat}{d:List (List Int)} (H:w<=20) (h:okD w d):bO d:=by
 have G:=jL h.1;exact⟨by omega,λc F=>by rw[h.2 c F];omega⟩
theorem iC {w:Nat}{o:Off} (h:okO w o):kP o:=by
 obtain⟨I,J,G,M,H⟩:=h;exact⟨⟨by omega,λd F=>nN I.2 (G d F)⟩,⟨by omega,H⟩⟩
theorem aFH {w:Nat}:∀T:List (List (List Int)),(∀d,d∈T->okD w d)->wO T=w∨(wO T=20∧∀d,d∈T->d.length=0)
 | [],_=>.inr ⟨rfl,λd H=>absurd H (by simp)⟩
 | d::r,h=>by
  unfold wO;by_cases G:d.length=0
  .rw[AP G];rcases aFH r λe F=>h e (C8 _ F) with h1|⟨h1,h2⟩
   .exact .inl h1
   .refine .inr ⟨h1,λe F=>?_⟩;rcases Am.1 F with rfl|F
    .exact G
    .exact h2 e F
  .rw[AC G];refine .inl ((h d (Dn ..)).2 _ ?_);rw[show d.getD 0 []=d[0]'(by omega) by simp[List.getD,(by omega:0<d.length)]];exact Aa _
theorem aMR {w:Nat}{d:List (List Int)} (h:okD w d):bK d=20∧d.length=0∨bK d=w∧d.length≠0:=by
 unfold bK;by_cases F:d.length=0
 .rw[AP F];exact .inl ⟨rfl,F⟩
 .rw[AC F,h.2 (d.getD 0 []) (by rw[show d.getD 0 []=d[0]'(by omega) by simp[List.getD,(by omega:0<d.length)]];exact Aa _)];exact .inr ⟨rfl,F⟩
theorem uX {a b v w:Int} (h:v<=w) (F:dW a b v=true):dW a b w=true:=by
 simp only[dW,Aw,Bb] at F⊢;omega
theorem aDt {a b v w:Int} (h:v<=w) (F:l9 a b v=true):l9 a b w=true:=by
 unfold l9 at F⊢;rw[Aw] at F⊢;exact⟨uX h F.1,F.2⟩
theorem oD {w:Nat}{o:Off} (h:okO w o) {d:List (List Int)} (G:d∈o.trays):(wO o.trays:Int)<=bK d:=by
 rcases aMR (h.2.2.1 d G) with⟨F,_⟩|⟨F,h2⟩
 .rcases aFH o.trays h.2.2.1 with h3|⟨h3,_⟩
  .rw[F,h3];have:=h.1.2;omega
  .rw[F,h3];omega
 .rcases aFH o.trays h.2.2.1 with h3|⟨h3,h4⟩
  .rw[F,h3];omega
  .exact absurd (h4 d G) h2
theorem wO_in {w:Nat}{o:Off} (h:okO w o):inB (wO o.trays:Int) 1 20=true:=by
 have:=h.1;rcases aFH o.trays h.2.2.1 with h3|⟨h3,_⟩<;>rw[h3]<;>simp[inB]<;>omega
structure aNV (x:Stp) (o:Off):Prop where
 k:1<=x.kind∧x.kind<=7
 a:0<=x.a∧x.a<(o.trays.length:Int)
 b:0<=x.b∧x.b<(o.trays.length:Int)
 to:0<=x.to∧x.to<(o.trays.length:Int)
 f:dW x.f0 x.f1 (wO o.trays)=true
 n:x.kind=7->l9 x.s0 x.s1 (wO o.trays)=true
theorem wY {w:Nat}{o:Off} (h:okO w o) {x:Stp} (G:gG x (wO o.trays)=true):aNV x o:=by
 unfold gG at G;simp only[Aw] at G;obtain⟨H,J,M,U,O,_,F⟩:=G;simp only[inB,Aw,Bb] at H J M U;have V:=h.2.1;refine⟨H,⟨by omega,by omega⟩,⟨by omega,by omega⟩,⟨by omega,by omega⟩,O,λI=>?_⟩;rw[AP (by simp[I])] at F;simp only[Aw] at F;exact F.2.1
theorem aBN {w:Nat}{a b m:List (List Int)} (M:okD w a) (O:okD w b) (U:∀c,c∈m->c∈a∨c∈b) (Y:m.length<=40):okD w m:=by
 have I:∀c,c∈m->c.length=w:=λc F=>(U c F).elim (M.2 c) (O.2 c)
 have G:∀c,c∈m->fC c=true:=λc F=>by
  have J:=M.1;have h2:=O.1;simp only[bC,Aw,Az,Bb] at J h2;rcases U c F with h|h
  .exact(J.1 c h).1
  .exact(h2.1 c h).1
 refine⟨?_,I⟩;simp only[bC,Aw,Az,Bb];refine⟨λc F=>⟨G c F,?_⟩,Y⟩;have V:0<m.length:=Dx F;have H:m.getD 0 []∈m:=by rw[show m.getD 0 []=m[0] by simp[List.getD,V]];exact Aa _
 rw[I c F,I _ H]
theorem aLJ {fr to:Int}{l:List (List Int)}:∀c,c∈xN fr to l->c∈l:=by
 intro c F;unfold xN at F;obtain⟨i,hi,rfl⟩:=Bq.1 F;exact oJ (aBW i hi)
theorem aLK (fr to:Int) (l:List (List Int)):(xN fr to l).length<=l.length:=by
 unfold xN;rw[Bh];exact kL fr to l l.length
theorem aIK {q:List Int->Bool}{l:List (List Int)}:∀c,c∈flt q l->c∈l:=λc F=>(Dm.1 F).1
theorem aLf {fr to:Int}{l o:List (List Int)}{e:Bool}:∀c,c∈mat fr to l o e->c∈l:=by unfold mat;exact aIK
theorem aNN (fr to:Int) (l o:List (List Int)) (e:Bool):(mat fr to l o e).length<=l.length:=by unfold mat;exact aAq _ _
theorem aIw {fr to:Int}{a b:List (List Int)} (h:mgC fr to a b=0):a.length+b.length<=40:=by
 unfold mgC at h;split at h
 .split at h
  .cases h
  .split at h
   .split at h
    .cases h
    .omega
   .cases h
 .contradiction
theorem dk_ok {w:Nat}{x:Stp}{a b:List (List Int)} (F:okD w a) (G:okD w b) (fa:dW x.f0 x.f1 (bK a)=true) (Y:dW x.f0 x.f1 (bK b)=true) (H:dkC x a b=0):okD w (dkL x a b):=by
 have V:=eG F.1 fa;have ob:=eG G.1 Y;have I:=jL F.1;have lb:=jL G.1;unfold dkC at H;unfold dkL;by_cases M:x.kind=1
 .rw[AP M] at H⊢;exact aBN F G (λc h=>.inl (aFN V I c h)) (by rw[aFO];exact I)
 rw[AC M] at H⊢;by_cases h2:x.kind=2
 .rw[AP h2] at H⊢;have Z:=aIw H;have J:(a++b).length<=40:=by rw[AX];exact Z
  refine aBN F G (λc h=>?_) (by rw[aFO];exact J);exact Bg.1 (aFN (λc h=>(Bg.1 h).elim (V c) (ob c)) J c h)
 rw[AC h2] at H⊢;by_cases O:x.kind=5
 .rw[AP O];exact aBN F G (λc h=>.inl (aIK c h)) (Bl (aAq _ _) I)
 rw[AC O];by_cases U:x.kind=6
 .rw[AP U];exact aBN F G (λc h=>.inl (aLJ c h)) (Bl (aLK _ _ _) I)
 rw[AC U];split
 .exact aBN F G (λc h=>.inl (aLf c h)) (Bl (aNN _ _ _ _ _) I)
 .exact aBN F G (λc h=>.inl (aLf c h)) (Bl (aNN _ _ _ _ _) I)
theorem aG3 {fr to sf st:Int}{l:List (List Int)}{w:Nat} (U:w<=20) (h:okD w l):aHc (qI fr to sf st l):=by
 have M:=jL h.1;have O:=aGw fr to l;refine⟨by unfold qI;rw[Bh];omega,λt G=>?_⟩;unfold qI at G;obtain⟨g,F,rfl⟩:=Bq.1 G;obtain⟨H,_,I⟩:=aGv F;have J:g.getD 0 []∈l:=I _ (by rw[show g.getD 0 []=g[0] by simp[List.getD,H]];exact Aa _);show(txt (fH fr to (g.getD 0 []))).size<=1048576
 rw[aC6];unfold fH;rw[Cg,BM,h.2 _ J];omega
theorem st_ok {w:Nat}{o:Off}{x:Stp} (h:okO w o) (H:aNV x o) (F:stC x o=0):okO w (stO x o):=by
 have M:=h.2.1;have J:=fM H.a;have U:=fM H.b;unfold stC at F;unfold stO;by_cases O:x.kind=7
 .rw[AP O] at F⊢;refine⟨h.1,M,h.2.2.1,?_,λt G=>?_⟩
  .rw[AX,Cf];split at F
   .cases F
   .omega
  .rcases Bg.1 G with G|G
   .exact h.2.2.2.2 t G
   .rw[Av.1 G];exact aG3 h.1.2 (h.2.2.1 _ J)
 .rw[AC O] at F⊢;refine⟨h.1,by simpa using M,λd I=>?_,h.2.2.2.1,h.2.2.2.2⟩;rcases List.mem_or_eq_of_mem_set I with I|rfl
  .exact h.2.2.1 d I
  .exact dk_ok (h.2.2.1 _ J) (h.2.2.1 _ U) (uX (oD h J) H.f) (uX (oD h U) H.f) F
theorem aIO {w:Nat}{o:Off}{x:Stp} (h:okO w o) (F:dsC x o=0):okO w (stO x o):=by
 unfold dsC at F;split at F
 .rename_i G;exact st_ok h (wY h G) F
 .cases F
theorem aKI {w:Nat}:∀(F:List Stp) (o:Off),okO w o->okO w (run o F).1∧(run o F).2<=F.length
 | [],o,h=>⟨h,Au _⟩
 | x::r,o,h=>by
  unfold run;by_cases G:dsC x o=0
  .rw[AP G];obtain⟨H,h2⟩:=aKI r (stO x o) (aIO h G);exact⟨H,Nat.succ_le_succ h2⟩
  .rw[AC G];exact⟨h,Nat.zero_le _⟩
def aE9 (o:Off) (fl:List Stp) (i:Nat) (o':Off):Prop:=run o fl=((run o' (fl.drop i)).1,(run o' (fl.drop i)).2+i)
theorem aJn (o:Off) (F:List Stp):aE9 o F 0 o:=rfl
theorem aEp {o G:Off}{F:List Stp}{i:Nat} (hi:i<F.length) (h:aE9 o F i G) (H:dsC F[i] G=0):aE9 o F (i+1) (stO F[i] G):=by
 unfold aE9 at h⊢;rw[Ci hi,run,AP H] at h;rw[h];simp only[AL,Ck];omega
theorem aAa {o G:Off}{F:List Stp}{i:Nat} (hi:i<F.length) (h:aE9 o F i G) (H:dsC F[i] G≠0):run o F=(G,i):=by
 unfold aE9 at h;rw[Ci hi,run,AC H] at h;rw[h,Ca]
theorem aFU {o G:Off}{F:List Stp} (h:aE9 o F F.length G):run o F=(G,F.length):=by
 unfold aE9 at h;rw[De,run] at h;rw[h,Ca]
end
section
variable [Vs.Tab 0 Vs.powP]
attribute [local irreducible] Vs.Fn gG stC stO lU fK dJ bB dK dL l03 chB rk cd3 chI stp bD
def exC (fr to:Int) (o:Off):Int:=if o8 o then(if l9 fr to (wO o.trays) then 0 else 2) else 1
theorem aCL {o:Off} (h:o8 o=true):o.trays.length=6:=by
 simp only[o8,Aw,BO] at h;omega
theorem aDs {o:Off} (h:o8 o=true) {i:Nat} (hi:i<6):rU o i=true:=by
 have G:=aCL h;simp only[o8,Aw] at h;have F:=h.1;rw[aEs] at F;exact F i (by omega)
theorem yQ {o:Off} (h:o8 o=true) {i:Nat} (hi:i<6):bC (o.trays.getD i [])=true:=by
 have:=aDs h hi;simp only[rU,Aw] at this;exact this.1
theorem aBs {l:List (List Int)} (h:bC l=true):l.length<=40:=by
 simp only[bC,Aw,Bb] at h;omega
theorem aCK {o:Off} (h:o8 o=true) {fr to:Int} (I:l9 fr to (wO o.trays)=true) {i:Nat} (hi:i<6):∀c,c∈o.trays.getD i []->okP fr to c:=by
 have J:=aDs h hi;simp only[rU,Aw,Ct,BO] at J;intro c G;have V:(o.trays.getD i []).length≠0:=by intro e;rw[Bv e] at G;cases G
 have M:=J.2.resolve_left V;have U:=J.1;simp only[bC,Aw,Az,Bb] at U;simp only[l9,dW,Aw,Bb] at I;obtain⟨F,H⟩:=U.1 c G;simp only[fC,inB,Aw,Az,Bb] at F;rw[←M,←H] at I;obtain⟨⟨Y,h2,Z⟩,O⟩:=I;obtain⟨h5,h6,h7⟩:=F;have M:W (to-fr)=to-fr:=aI (by omega) (by omega);rw[M] at O;exact⟨Y,h2,Z,O,by omega,λx hx=>h5 x hx⟩
theorem rV (fr to:Int) (o:Off) (G:kP o):Fz F.vD [.ro (cO o),.agg (cFd fr to)] (.v (.int .i64 (exC fr to o))):=by
 refine fn0 Cd.s_l18Code_k λX=>?_
 repeat' first|simp -dsimp only[go_sem,cFd,cO]|apply Br.mk<;>intro h<;>try simp -dsimp only[h]|refine aA.c (by first|exact aNO o G|exact gQ o G|exact aGi fr to _) ?_|refine aC ?_|refine aC9 ?_|fail
 all_goals(simp_all [exC])
theorem aK1 {o:Off} (h:o8 o=true) (U:kP o):okO (wO o.trays) o:=by
 have M:=aCL h
 have hin:∀d,d∈o.trays->okD (wO o.trays) d:=by
  intro d F;obtain⟨i,hi,rfl⟩:=BZ.1 F;have G:=aDs h (i:=i) (by omega);rw[rU,getD_lt hi] at G;simp only[Aw,Ct,BO] at G;refine⟨G.1,λc H=>?_⟩;have J:o.trays[i].length≠0:=by intro e;rw[Bv e] at H;cases H
  rw[←G.2.resolve_left J];have F:=G.1;simp only[bC,Aw,Az,Bb] at F;exact(F.1 c H).2
 have V:1<=wO o.trays∧wO o.trays<=20:=by
  have I:∀l:List (List (List Int)),(∀d,d∈l->bC d=true)->1<=wO l∧wO l<=20:=by
   intro l
   induction l with
   |nil=>intro _;simp[wO]
   | cons d r ih =>
    intro h;rw[wO];split
    .exact ih λe O=>h e (by simp[O])
    .rename_i J;have F:=h d (by simp);have G:0<d.length:=by omega
     simp only[bC,Aw,Az,Bb] at F;have H:=(F.1 d[0] (Aa G)).1;simp only[fC,inB,Aw,Az,Bb] at H;rw[getD_lt G];omega
  exact I _ λd F=>(hin d F).1
 simp only[o8,Aw,Bb] at h;exact⟨V,M,hin,by omega,U.2.2⟩
theorem aKY {o:Off}{w:Nat} (h:okO w o) {fr to:Int} (H:l9 fr to w=true) {d:List (List Int)} (Z:d∈o.trays):∀c,c∈d->okP fr to c:=by
 intro c M;obtain⟨J,h2⟩:=h.2.2.1 d Z;have G:=h2 c M;simp only[bC,Aw,Az,Bb] at J;have F:=(J.1 c M).1;simp only[fC,inB,Aw,Az,Bb] at F;simp only[l9,dW,Aw,Bb] at H;rw[←G] at H;obtain⟨⟨O,U,V⟩,I⟩:=H;obtain⟨Y,h6,h7⟩:=F;have hw:W (to-fr)=to-fr:=aI (by omega) (by omega);rw[hw] at I;exact⟨O,U,V,I,by omega,λx hx=>Y x hx⟩
end
section
variable [Vs.Tab 0 Vs.powP]
attribute [local irreducible] Vs.Fn
theorem aHL:∀(k n:Nat),n<10 ^ k->dsN n<=9*k
 | 0,n,h=>by
  have:n=0:=by simpa using h
  subst this;simp[wN]
 | k+1,n,h=>by
  rw[Nat.pow_succ] at h;have:=aHL k (n/10) (by omega);rw[aIP n];omega
theorem aIT (fr to:Int):∀(l:List (List Int)) (m:Nat) (s d a b:Int),(∀c,c∈l->okP fr to c)->m+l.length<=40->-1000000000000*m<=s->s<=1000000000000*m->0<=d->d<=117*m->
  zN fr to l s d=some (a,b)->-40000000000000<=a∧a<=40000000000000∧0<=b∧b<=4680
 | [],m,s,d,a,b,_,hm,h1,h2,h3,h4,h=>by
  simp only[zN,Ab,AL] at h;simp only[Ai] at hm;omega
 | c::r,m,s,d,a,b,hk,hm,h1,h2,h3,h4,h=>by
  simp only[Ac] at hm;have H:=hk c (by simp);have I:=aCM H;have M:=aHL 13 (dX fr to c).1.natAbs (by omega);simp only[zN] at h;split at h
  .have F:W (s+(dX fr to c).1)=s+(dX fr to c).1:=aI (by omega) (by omega);have G:W (d+(dsN (dX fr to c).1.natAbs:Int))=d+(dsN (dX fr to c).1.natAbs:Int):=aI (by omega) (by omega);rw[F,G] at h;exact aIT fr to r (m+1) _ _ a b (λx J=>hk x (by simp[J])) (by omega) (by omega) (by omega) (by omega) (by omega) h
  .cases h
theorem aC0 {fr to:Int}{l:List (List Int)} (F:∀c,c∈l->okP fr to c) (G:l.length<=40) :
  (0<=(fK fr to l).1∧(fK fr to l).1<=40)∧(-40000000000000<=(fK fr to l).2.1∧(fK fr to l).2.1<=40000000000000)∧(0<=(fK fr to l).2.2∧(fK fr to l).2.2<=4680):=by
 unfold fK;split
 .rename_i s d h;have:=aIT fr to l 0 0 0 s d F (by omega) (by omega) (by omega) (by omega) (by omega) h;simp only;omega
 .simp
theorem iJ (fr to:Int) (o:Off) (G:kP o):Fz F.oU [.agg (cO o),.v (.slice none 0 0),.agg (cFd fr to)] (.v (.int .i64 (exC fr to o))):=by
 refine fn0 Cd.i_officeCode_k λX=>?_
 repeat' first|simp -dsimp only[go_sem,cFd,cO]|apply Br.mk<;>intro h<;>try simp -dsimp only[h]|refine aA.c (by first|exact vU o G|exact bS o G|exact uU fr to _) ?_|refine aC ?_|refine aC9 ?_|fail
 all_goals(simp_all [exC])
theorem dB (k:Int):Fz F.iX [.v (.int .i64 k)] (.v (.bool (k==1||k==2))):=by
 refine fn0 Cd.s_KeepsControl_k λX=>?_
 repeat' first|simp -dsimp only[go_sem]|apply Br.mk<;>intro h<;>try simp -dsimp only[h]|refine aC ?_|refine aC9 ?_|fail
 all_goals(first|(simp_all;done)|(refine aR ?_;grind))
theorem dE (k:Int):Fz F.jA [.v (.int .i64 k)] (.v (.bool (k==1||k==2))):=by
 refine fn0 Cd.i_KeepsControl_k λX=>?_
 repeat' first|simp -dsimp only[go_sem]|apply Br.mk<;>intro h<;>try simp -dsimp only[h]|refine aC ?_|refine aC9 ?_|fail
 all_goals(first|(simp_all;done)|(refine aR ?_;grind))
def trD (o:Off) (k:Int):List (List Int):=o.trays.getD k.toNat []
def plC (x y:Int×Int×Int):Int×Int×Int:=(x.1+y.1,x.2.1+y.2.1,x.2.2+y.2.2)
def oZ (fr to:Int) (o:Off) (x:Stp):(Int×Int×Int)×Int:=
 if exC fr to o=0 then(if gG x (wO o.trays) then(if x.kind==1||x.kind==2 then
   (if x.kind==1 then(if lU fr to (trD o x.a) then(fK fr to (trD o x.a),0) else((0,0,0),8))
     else(if lU fr to (trD o x.a)&&lU fr to (trD o x.b) then(plC (fK fr to (trD o x.a)) (fK fr to (trD o x.b)),0) else((0,0,0),8))) else((0,0,0),6)) else((0,0,0),2)) else((0,0,0),exC fr to o)
theorem aKg:∀(l:List (List (List Int))),(∀d,d∈l->bC d=true)->1<=wO l∧wO l<=20
 | [],_=>by simp[wO]
 | d::r,h=>by
  rw[wO];split
  .exact aKg r λe I=>h e (by simp[I])
  .rename_i J;have G:=h d (by simp);have F:0<d.length:=by omega
   simp only[bC,Aw,Az,Bb] at G;have H:=(G.1 d[0] (Aa F)).1;simp only[fC,inB,Aw,Az,Bb] at H;rw[getD_lt F];omega
theorem aK0 {o:Off} (h:o8 o=true):inB (wO o.trays:Int) 1 20=true:=by
 have G:=aCL h
 have:=aKg o.trays λd F=>by
  obtain⟨i,hi,rfl⟩:=BZ.1 F;have:=yQ h (i:=i) (by omega);rw[getD_lt hi] at this;exact this
 simp only[inB,Aw,Bb];omega
theorem aBr {fr to:Int}{o:Off} (h:exC fr to o=0):o8 o=true∧l9 fr to (wO o.trays)=true:=by
 unfold exC at h;split at h
 .split at h
  .exact⟨by assumption,by assumption⟩
  .cases h
 .cases h
theorem aH8 {x:Stp}{w:Int} (h:gG x w=true):(0<=x.a∧x.a<=5)∧(0<=x.b∧x.b<=5):=by
 simp only[gG,inB,Aw,Bb] at h;omega
theorem aE0 {o:Off} (h:o8 o=true) {k:Int} (G:0<=k∧k<=5):(0<=k∧k<(o.trays.length:Int))∧(E cD o.trays).getD k.toNat []=[.sl 1 (E cC (trD o k))]:=by
 have H:=aCL h;have F:k.toNat<o.trays.length:=by omega
 refine⟨by omega,?_⟩;rw[aW F,trD,getD_lt F];rfl
theorem aCm {a b:Int×Int×Int} (O:(0<=a.1∧a.1<=40)∧(-40000000000000<=a.2.1∧a.2.1<=40000000000000)∧(0<=a.2.2∧a.2.2<=4680)) (U:(0<=b.1∧b.1<=40)∧(-40000000000000<=b.2.1∧b.2.1<=40000000000000)∧(0<=b.2.2∧b.2.2<=4680)) :
  dP a.1 a.2.1 a.2.2 b.1 b.2.1 b.2.2 (W (a.1+b.1)) (W (a.2.1+b.2.1)) (W (a.2.2+b.2.2))=((plC a b).1,(plC a b).2.1,(plC a b).2.2,0):=by
 have F:W (a.1+b.1)=a.1+b.1:=aI (by omega) (by omega);have G:W (a.2.1+b.2.1)=a.2.1+b.2.1:=aI (by omega) (by omega);have H:W (a.2.2+b.2.2)=a.2.2+b.2.2:=aI (by omega) (by omega);have I:okC a.1 a.2.1 a.2.2=true:=by simp only[okC,inB,Aw,Bb];omega
 have J:okC b.1 b.2.1 b.2.2=true:=by simp only[okC,inB,Aw,Bb];omega
 have M:okC (a.1+b.1) (a.2.1+b.2.1) (a.2.2+b.2.2)=true:=by simp only[okC,inB,Aw,Bb];omega
 simp[dP,F,G,H,I,J,M,plC]
theorem qA {a b:Int}{k:Int} (H:0<=k∧k<=1000000000000000) (F:-k<=a∧a<=k) (G:-k<=b∧b<=k):IntKind.i64.wrap (a+IntKind.i64.wrap (1*b))=a+b:=by
 rw[aI (n:=1*b) (by omega) (by omega),Int.one_mul,aI (by omega) (by omega)]
end
section
variable [Vs.Tab 0 Vs.powP]
attribute [local irreducible] Vs.Fn
theorem yD (o:Off) (x:Stp) (fr to:Int) (V:kP o) (hs:x.text.size<=1048576):Fz F.iG [.agg (cO o),.agg (cS x),.agg (cFd fr to)] (.tup [.agg (cCt (oZ fr to o x).1),.v (.int .i64 (oZ fr to o x).2)]):=by
 by_cases U:exC fr to o=0
 rotate_left
 .have Y:(exC fr to o != 0)=true:=by simp[U]
  have J:(exC fr to o==0)=false:=by simp[U]
  refine fn0 Cd.s_ExpectedControl_k λX=>?_;simp -dsimp only[go_sem,cFd,cO,cS]
  repeat' first|simp -dsimp only[go_sem,cFd,cO,cS,Y,J]|apply Br.mk<;>intro h<;>try simp -dsimp only[h]|refine aA.c (by first|exact rV fr to o V|exact gQ o V) ?_|refine aC ?_|refine aC9 ?_|fail
  all_goals simp_all [oZ,cCt]
 have Y:(exC fr to o != 0)=false:=by simp[U]
 have J:(exC fr to o==0)=true:=by simp[U]
 obtain⟨hf,hl⟩:=aBr U;cases hst:gG x (wO o.trays)
 .refine fn0 Cd.s_ExpectedControl_k λX=>?_;simp -dsimp only[go_sem,cFd,cO,cS,U,Y,J]
  repeat' first|simp -dsimp only[go_sem,cFd,cO,cS,U,Y,J,hst]|apply Br.mk<;>intro h<;>try simp -dsimp only[h]|refine aA.c (by first|exact rV fr to o V|exact gQ o V|exact qG x _ hs) ?_|refine aC ?_|refine aC9 ?_|fail
  all_goals simp_all [oZ,cCt]
 obtain⟨ha,hb⟩:=aH8 hst;have I:=aK0 hf;obtain⟨G,M⟩:=aE0 hf ha;obtain⟨H,O⟩:=aE0 hf hb;have hg:bO (trD o x.a):=V.1.2 _ (by unfold trD;rw[getD_lt (by omega)];exact Aa _);have hk:bO (trD o x.b):=V.1.2 _ (by unfold trD;rw[getD_lt (by omega)];exact Aa _);have hc:∀c,c∈trD o x.a->okP fr to c:=aCK hf hl (by omega);have hd:∀c,c∈trD o x.b->okP fr to c:=aCK hf hl (by omega);have hm:bC (trD o x.a)=true:=yQ hf (by omega);have hn:bC (trD o x.b)=true:=yQ hf (by omega);have qa:=aC0 hc (aBs hm);have qb:=aC0 hd (aBs hn);have hj:=aCm qa qb;have p1:IntKind.i64.wrap ((fK fr to (trD o x.a)).1+IntKind.i64.wrap (1*(fK fr to (trD o x.b)).1))=(fK fr to (trD o x.a)).1+(fK fr to (trD o x.b)).1:=qA (k:=40) (by omega) (by omega) (by omega);have p2:IntKind.i64.wrap ((fK fr to (trD o x.a)).2.1+IntKind.i64.wrap (1*(fK fr to (trD o x.b)).2.1))=(fK fr to (trD o x.a)).2.1+(fK fr to (trD o x.b)).2.1:=qA (k:=40000000000000) (by omega) (by omega) (by omega);have p3:IntKind.i64.wrap ((fK fr to (trD o x.a)).2.2+IntKind.i64.wrap (1*(fK fr to (trD o x.b)).2.2))=(fK fr to (trD o x.a)).2.2+(fK fr to (trD o x.b)).2.2:=qA (k:=4680) (by omega) (by omega) (by omega);by_cases k1:x.kind=1
 .have b1:(x.kind==1)=true:=by simp[k1]
  have Z:(x.kind==2)=false:=by simp[k1]
  cases hca:lU fr to (trD o x.a)
  .refine fn0 Cd.s_ExpectedControl_k λX=>?_;simp -dsimp only[go_sem,cFd,cO,cS,cCt,I,U,Y,J,hst,M,O,cD,p1,p2,p3,hj,b1,Z]
   repeat' first|simp -dsimp only[go_sem,cFd,cO,cS,cCt,I,U,Y,J,hst,M,O,cD,p1,p2,p3,hj,b1,Z,hca]|apply Br.mk<;>intro h<;>try simp -dsimp only[h]|refine RgK.mk rfl ?_|refine aA.c (by first|exact rV fr to o V|exact gQ o V|exact qG x _ hs|exact dB _|exact vR _ fr to hg.1 hc|exact vR _ fr to hk.1 hd|exact sN _ _ _ _ _ _) ?_|refine And.intro (by first|rfl|omega|decide|exact G|exact H|(refine⟨?_,?_⟩<;>(first|rfl|omega|decide|exact G|exact H))|(refine⟨?_,?_,?_⟩<;>(first|rfl|omega|decide|exact G|exact H))|(refine⟨?_,?_,?_,?_⟩<;>(first|rfl|omega|decide|exact G|exact H))) ?_|fail
   all_goals simp_all [oZ,cCt]
  .refine fn0 Cd.s_ExpectedControl_k λX=>?_;simp -dsimp only[go_sem,cFd,cO,cS,cCt,I,U,Y,J,hst,M,O,cD,p1,p2,p3,hj,b1,Z]
   repeat' first|simp -dsimp only[go_sem,cFd,cO,cS,cCt,I,U,Y,J,hst,M,O,cD,p1,p2,p3,hj,b1,Z,hca]|apply Br.mk<;>intro h<;>try simp -dsimp only[h]|refine RgK.mk rfl ?_|refine aA.c (by first|exact rV fr to o V|exact gQ o V|exact qG x _ hs|exact dB _|exact vR _ fr to hg.1 hc|exact vR _ fr to hk.1 hd|exact sN _ _ _ _ _ _) ?_|refine And.intro (by first|rfl|omega|decide|exact G|exact H|(refine⟨?_,?_⟩<;>(first|rfl|omega|decide|exact G|exact H))|(refine⟨?_,?_,?_⟩<;>(first|rfl|omega|decide|exact G|exact H))|(refine⟨?_,?_,?_,?_⟩<;>(first|rfl|omega|decide|exact G|exact H))) ?_|fail
   all_goals simp_all [oZ,cCt]
 have b1:(x.kind==1)=false:=by simp[k1]
 by_cases k2:x.kind=2
 .have Z:(x.kind==2)=true:=by simp[k2]
  cases hca:lU fr to (trD o x.a)<;>cases hcb:lU fr to (trD o x.b)
  .refine fn0 Cd.s_ExpectedControl_k λX=>?_;simp -dsimp only[go_sem,cFd,cO,cS,cCt,I,U,Y,J,hst,M,O,cD,p1,p2,p3,hj,b1,Z]
   repeat' first|simp -dsimp only[go_sem,cFd,cO,cS,cCt,I,U,Y,J,hst,M,O,cD,p1,p2,p3,hj,b1,Z,hca,hcb]|apply Br.mk<;>intro h<;>try simp -dsimp only[h]|refine RgK.mk rfl ?_|refine aA.c (by first|exact rV fr to o V|exact gQ o V|exact qG x _ hs|exact dB _|exact vR _ fr to hg.1 hc|exact vR _ fr to hk.1 hd|exact sN _ _ _ _ _ _) ?_|refine And.intro (by first|rfl|omega|decide|exact G|exact H|(refine⟨?_,?_⟩<;>(first|rfl|omega|decide|exact G|exact H))|(refine⟨?_,?_,?_⟩<;>(first|rfl|omega|decide|exact G|exact H))|(refine⟨?_,?_,?_,?_⟩<;>(first|rfl|omega|decide|exact G|exact H))) ?_|fail
   all_goals simp_all [oZ,cCt,plC]
  .refine fn0 Cd.s_ExpectedControl_k λX=>?_;simp -dsimp only[go_sem,cFd,cO,cS,cCt,I,U,Y,J,hst,M,O,cD,p1,p2,p3,hj,b1,Z]
   repeat' first|simp -dsimp only[go_sem,cFd,cO,cS,cCt,I,U,Y,J,hst,M,O,cD,p1,p2,p3,hj,b1,Z,hca,hcb]|apply Br.mk<;>intro h<;>try simp -dsimp only[h]|refine RgK.mk rfl ?_|refine aA.c (by first|exact rV fr to o V|exact gQ o V|exact qG x _ hs|exact dB _|exact vR _ fr to hg.1 hc|exact vR _ fr to hk.1 hd|exact sN _ _ _ _ _ _) ?_|refine And.intro (by first|rfl|omega|decide|exact G|exact H|(refine⟨?_,?_⟩<;>(first|rfl|omega|decide|exact G|exact H))|(refine⟨?_,?_,?_⟩<;>(first|rfl|omega|decide|exact G|exact H))|(refine⟨?_,?_,?_,?_⟩<;>(first|rfl|omega|decide|exact G|exact H))) ?_|fail
   all_goals simp_all [oZ,cCt,plC]
  .refine fn0 Cd.s_ExpectedControl_k λX=>?_;simp -dsimp only[go_sem,cFd,cO,cS,cCt,I,U,Y,J,hst,M,O,cD,p1,p2,p3,hj,b1,Z]
   repeat' first|simp -dsimp only[go_sem,cFd,cO,cS,cCt,I,U,Y,J,hst,M,O,cD,p1,p2,p3,hj,b1,Z,hca,hcb]|apply Br.mk<;>intro h<;>try simp -dsimp only[h]|refine RgK.mk rfl ?_|refine aA.c (by first|exact rV fr to o V|exact gQ o V|exact qG x _ hs|exact dB _|exact vR _ fr to hg.1 hc|exact vR _ fr to hk.1 hd|exact sN _ _ _ _ _ _) ?_|refine And.intro (by first|rfl|omega|decide|exact G|exact H|(refine⟨?_,?_⟩<;>(first|rfl|omega|decide|exact G|exact H))|(refine⟨?_,?_,?_⟩<;>(first|rfl|omega|decide|exact G|exact H))|(refine⟨?_,?_,?_,?_⟩<;>(first|rfl|omega|decide|exact G|exact H))) ?_|fail
   all_goals simp_all [oZ,cCt,plC]
  .refine fn0 Cd.s_ExpectedControl_k λX=>?_;simp -dsimp only[go_sem,cFd,cO,cS,cCt,I,U,Y,J,hst,M,O,cD,p1,p2,p3,hj,b1,Z]
   repeat' first|simp -dsimp only[go_sem,cFd,cO,cS,cCt,I,U,Y,J,hst,M,O,cD,p1,p2,p3,hj,b1,Z,hca,hcb]|apply Br.mk<;>intro h<;>try simp -dsimp only[h]|refine RgK.mk rfl ?_|refine aA.c (by first|exact rV fr to o V|exact gQ o V|exact qG x _ hs|exact dB _|exact vR _ fr to hg.1 hc|exact vR _ fr to hk.1 hd|exact sN _ _ _ _ _ _) ?_|refine And.intro (by first|rfl|omega|decide|exact G|exact H|(refine⟨?_,?_⟩<;>(first|rfl|omega|decide|exact G|exact H))|(refine⟨?_,?_,?_⟩<;>(first|rfl|omega|decide|exact G|exact H))|(refine⟨?_,?_,?_,?_⟩<;>(first|rfl|omega|decide|exact G|exact H))) ?_|fail
   all_goals simp_all [oZ,cCt,plC]
 have Z:(x.kind==2)=false:=by simp[k2]
 refine fn0 Cd.s_ExpectedControl_k λX=>?_
 repeat' first|simp -dsimp only[go_sem,cFd,cO,cS,cCt,I,U,Y,J,hst,M,O,cD,p1,p2,p3,hj,b1,Z]|apply Br.mk<;>intro h<;>try simp -dsimp only[h]|refine RgK.mk rfl ?_|refine aA.c (by first|exact rV fr to o V|exact gQ o V|exact qG x _ hs|exact dB _) ?_|refine And.intro (by first|rfl|omega|decide|exact G|exact H|(refine⟨?_,?_⟩<;>(first|rfl|omega|decide|exact G|exact H))|(refine⟨?_,?_,?_⟩<;>(first|rfl|omega|decide|exact G|exact H))|(refine⟨?_,?_,?_,?_⟩<;>(first|rfl|omega|decide|exact G|exact H))) ?_|fail
 all_goals simp_all [oZ,cCt]
theorem yZ (o:Off) (x:Stp) (fr to:Int) (V:kP o) (hs:x.text.size<=1048576):Fz F.iO [.agg (cO o),.agg (cS x),.agg (cFd fr to)] (.tup [.agg (cCt (oZ fr to o x).1),.v (.int .i64 (oZ fr to o x).2)]):=by
 by_cases U:exC fr to o=0
 rotate_left
 .have Y:(exC fr to o != 0)=true:=by simp[U]
  have J:(exC fr to o==0)=false:=by simp[U]
  refine fn0 Cd.i_ExpectedControl_k λX=>?_;simp -dsimp only[go_sem,cFd,cO,cS]
  repeat' first|simp -dsimp only[go_sem,cFd,cO,cS,Y,J]|apply Br.mk<;>intro h<;>try simp -dsimp only[h]|refine aA.c (by first|exact iJ fr to o V|exact bS o V) ?_|refine aC ?_|refine aC9 ?_|fail
  all_goals simp_all [oZ,cCt]
 have Y:(exC fr to o != 0)=false:=by simp[U]
 have J:(exC fr to o==0)=true:=by simp[U]
 obtain⟨hf,hl⟩:=aBr U;cases hst:gG x (wO o.trays)
 .refine fn0 Cd.i_ExpectedControl_k λX=>?_;simp -dsimp only[go_sem,cFd,cO,cS,U,Y,J]
  repeat' first|simp -dsimp only[go_sem,cFd,cO,cS,U,Y,J,hst]|apply Br.mk<;>intro h<;>try simp -dsimp only[h]|refine aA.c (by first|exact iJ fr to o V|exact bS o V|exact dO x _ hs) ?_|refine aC ?_|refine aC9 ?_|fail
  all_goals simp_all [oZ,cCt]
 obtain⟨ha,hb⟩:=aH8 hst;have I:=aK0 hf;obtain⟨G,M⟩:=aE0 hf ha;obtain⟨H,O⟩:=aE0 hf hb;have hg:bO (trD o x.a):=V.1.2 _ (by unfold trD;rw[getD_lt (by omega)];exact Aa _);have hk:bO (trD o x.b):=V.1.2 _ (by unfold trD;rw[getD_lt (by omega)];exact Aa _);have hc:∀c,c∈trD o x.a->okP fr to c:=aCK hf hl (by omega);have hd:∀c,c∈trD o x.b->okP fr to c:=aCK hf hl (by omega);have hm:bC (trD o x.a)=true:=yQ hf (by omega);have hn:bC (trD o x.b)=true:=yQ hf (by omega);have qa:=aC0 hc (aBs hm);have qb:=aC0 hd (aBs hn);have hj:=aCm qa qb;have p1:IntKind.i64.wrap ((fK fr to (trD o x.a)).1+IntKind.i64.wrap (1*(fK fr to (trD o x.b)).1))=(fK fr to (trD o x.a)).1+(fK fr to (trD o x.b)).1:=qA (k:=40) (by omega) (by omega) (by omega);have p2:IntKind.i64.wrap ((fK fr to (trD o x.a)).2.1+IntKind.i64.wrap (1*(fK fr to (trD o x.b)).2.1))=(fK fr to (trD o x.a)).2.1+(fK fr to (trD o x.b)).2.1:=qA (k:=40000000000000) (by omega) (by omega) (by omega);have p3:IntKind.i64.wrap ((fK fr to (trD o x.a)).2.2+IntKind.i64.wrap (1*(fK fr to (trD o x.b)).2.2))=(fK fr to (trD o x.a)).2.2+(fK fr to (trD o x.b)).2.2:=qA (k:=4680) (by omega) (by omega) (by omega);by_cases k1:x.kind=1
 .have b1:(x.kind==1)=true:=by simp[k1]
  have Z:(x.kind==2)=false:=by simp[k1]
  cases hca:lU fr to (trD o x.a)
  .refine fn0 Cd.i_ExpectedControl_k λX=>?_;simp -dsimp only[go_sem,cFd,cO,cS,cCt,I,U,Y,J,hst,M,O,cD,p1,p2,p3,hj,b1,Z]
   repeat' first|simp -dsimp only[go_sem,cFd,cO,cS,cCt,I,U,Y,J,hst,M,O,cD,p1,p2,p3,hj,b1,Z,hca]|apply Br.mk<;>intro h<;>try simp -dsimp only[h]|refine RgK.mk rfl ?_|refine aA.c (by first|exact iJ fr to o V|exact bS o V|exact dO x _ hs|exact dE _|exact gM _ fr to hg.1 hc|exact gM _ fr to hk.1 hd|exact aDl _ _ _ _ _ _ _) ?_|refine And.intro (by first|rfl|omega|decide|exact G|exact H|(refine⟨?_,?_⟩<;>(first|rfl|omega|decide|exact G|exact H))|(refine⟨?_,?_,?_⟩<;>(first|rfl|omega|decide|exact G|exact H))|(refine⟨?_,?_,?_,?_⟩<;>(first|rfl|omega|decide|exact G|exact H))) ?_|fail
   all_goals simp_all [oZ,cCt]
  .refine fn0 Cd.i_ExpectedControl_k λX=>?_;simp -dsimp only[go_sem,cFd,cO,cS,cCt,I,U,Y,J,hst,M,O,cD,p1,p2,p3,hj,b1,Z]
   repeat' first|simp -dsimp only[go_sem,cFd,cO,cS,cCt,I,U,Y,J,hst,M,O,cD,p1,p2,p3,hj,b1,Z,hca]|apply Br.mk<;>intro h<;>try simp -dsimp only[h]|refine RgK.mk rfl ?_|refine aA.c (by first|exact iJ fr to o V|exact bS o V|exact dO x _ hs|exact dE _|exact gM _ fr to hg.1 hc|exact gM _ fr to hk.1 hd|exact aDl _ _ _ _ _ _ _) ?_|refine And.intro (by first|rfl|omega|decide|exact G|exact H|(refine⟨?_,?_⟩<;>(first|rfl|omega|decide|exact G|exact H))|(refine⟨?_,?_,?_⟩<;>(first|rfl|omega|decide|exact G|exact H))|(refine⟨?_,?_,?_,?_⟩<;>(first|rfl|omega|decide|exact G|exact H))) ?_|fail
   all_goals simp_all [oZ,cCt]
 have b1:(x.kind==1)=false:=by simp[k1]
 by_cases k2:x.kind=2
 .have Z:(x.kind==2)=true:=by simp[k2]
  cases hca:lU fr to (trD o x.a)<;>cases hcb:lU fr to (trD o x.b)
  .refine fn0 Cd.i_ExpectedControl_k λX=>?_;simp -dsimp only[go_sem,cFd,cO,cS,cCt,I,U,Y,J,hst,M,O,cD,p1,p2,p3,hj,b1,Z]
   repeat' first|simp -dsimp only[go_sem,cFd,cO,cS,cCt,I,U,Y,J,hst,M,O,cD,p1,p2,p3,hj,b1,Z,hca,hcb]|apply Br.mk<;>intro h<;>try simp -dsimp only[h]|refine RgK.mk rfl ?_|refine aA.c (by first|exact iJ fr to o V|exact bS o V|exact dO x _ hs|exact dE _|exact gM _ fr to hg.1 hc|exact gM _ fr to hk.1 hd|exact aDl _ _ _ _ _ _ _) ?_|refine And.intro (by first|rfl|omega|decide|exact G|exact H|(refine⟨?_,?_⟩<;>(first|rfl|omega|decide|exact G|exact H))|(refine⟨?_,?_,?_⟩<;>(first|rfl|omega|decide|exact G|exact H))|(refine⟨?_,?_,?_,?_⟩<;>(first|rfl|omega|decide|exact G|exact H))) ?_|fail
   all_goals simp_all [oZ,cCt,plC]
  .refine fn0 Cd.i_ExpectedControl_k λX=>?_;simp -dsimp only[go_sem,cFd,cO,cS,cCt,I,U,Y,J,hst,M,O,cD,p1,p2,p3,hj,b1,Z]
   repeat' first|simp -dsimp only[go_sem,cFd,cO,cS,cCt,I,U,Y,J,hst,M,O,cD,p1,p2,p3,hj,b1,Z,hca,hcb]|apply Br.mk<;>intro h<;>try simp -dsimp only[h]|refine RgK.mk rfl ?_|refine aA.c (by first|exact iJ fr to o V|exact bS o V|exact dO x _ hs|exact dE _|exact gM _ fr to hg.1 hc|exact gM _ fr to hk.1 hd|exact aDl _ _ _ _ _ _ _) ?_|refine And.intro (by first|rfl|omega|decide|exact G|exact H|(refine⟨?_,?_⟩<;>(first|rfl|omega|decide|exact G|exact H))|(refine⟨?_,?_,?_⟩<;>(first|rfl|omega|decide|exact G|exact H))|(refine⟨?_,?_,?_,?_⟩<;>(first|rfl|omega|decide|exact G|exact H))) ?_|fail
   all_goals simp_all [oZ,cCt,plC]
  .refine fn0 Cd.i_ExpectedControl_k λX=>?_;simp -dsimp only[go_sem,cFd,cO,cS,cCt,I,U,Y,J,hst,M,O,cD,p1,p2,p3,hj,b1,Z]
   repeat' first|simp -dsimp only[go_sem,cFd,cO,cS,cCt,I,U,Y,J,hst,M,O,cD,p1,p2,p3,hj,b1,Z,hca,hcb]|apply Br.mk<;>intro h<;>try simp -dsimp only[h]|refine RgK.mk rfl ?_|refine aA.c (by first|exact iJ fr to o V|exact bS o V|exact dO x _ hs|exact dE _|exact gM _ fr to hg.1 hc|exact gM _ fr to hk.1 hd|exact aDl _ _ _ _ _ _ _) ?_|refine And.intro (by first|rfl|omega|decide|exact G|exact H|(refine⟨?_,?_⟩<;>(first|rfl|omega|decide|exact G|exact H))|(refine⟨?_,?_,?_⟩<;>(first|rfl|omega|decide|exact G|exact H))|(refine⟨?_,?_,?_,?_⟩<;>(first|rfl|omega|decide|exact G|exact H))) ?_|fail
   all_goals simp_all [oZ,cCt,plC]
  .refine fn0 Cd.i_ExpectedControl_k λX=>?_;simp -dsimp only[go_sem,cFd,cO,cS,cCt,I,U,Y,J,hst,M,O,cD,p1,p2,p3,hj,b1,Z]
   repeat' first|simp -dsimp only[go_sem,cFd,cO,cS,cCt,I,U,Y,J,hst,M,O,cD,p1,p2,p3,hj,b1,Z,hca,hcb]|apply Br.mk<;>intro h<;>try simp -dsimp only[h]|refine RgK.mk rfl ?_|refine aA.c (by first|exact iJ fr to o V|exact bS o V|exact dO x _ hs|exact dE _|exact gM _ fr to hg.1 hc|exact gM _ fr to hk.1 hd|exact aDl _ _ _ _ _ _ _) ?_|refine And.intro (by first|rfl|omega|decide|exact G|exact H|(refine⟨?_,?_⟩<;>(first|rfl|omega|decide|exact G|exact H))|(refine⟨?_,?_,?_⟩<;>(first|rfl|omega|decide|exact G|exact H))|(refine⟨?_,?_,?_,?_⟩<;>(first|rfl|omega|decide|exact G|exact H))) ?_|fail
   all_goals simp_all [oZ,cCt,plC]
 have Z:(x.kind==2)=false:=by simp[k2]
 refine fn0 Cd.i_ExpectedControl_k λX=>?_
 repeat' first|simp -dsimp only[go_sem,cFd,cO,cS,cCt,I,U,Y,J,hst,M,O,cD,p1,p2,p3,hj,b1,Z]|apply Br.mk<;>intro h<;>try simp -dsimp only[h]|refine RgK.mk rfl ?_|refine aA.c (by first|exact iJ fr to o V|exact bS o V|exact dO x _ hs|exact dE _) ?_|refine And.intro (by first|rfl|omega|decide|exact G|exact H|(refine⟨?_,?_⟩<;>(first|rfl|omega|decide|exact G|exact H))|(refine⟨?_,?_,?_⟩<;>(first|rfl|omega|decide|exact G|exact H))|(refine⟨?_,?_,?_,?_⟩<;>(first|rfl|omega|decide|exact G|exact H))) ?_|fail
 all_goals simp_all [oZ,cCt]
end
end Go.Proofs.YtklmdppgonhflaaGreatDoor
