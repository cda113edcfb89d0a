/- A step done by the program. -/
import Derived.Test.YtkgeiaideklmoaaGreatZwVm
import Derived.Test.YtkgeiaideklmoaaGreatZuO
import Derived.Test.YtkgeiaideklmoaaGreatZwVg
import Derived.Test.YtkgeiaideklmoaaGreatVtR
import Derived.Test.YtkgeiaideklmoaaGreatZuS
set_option linter.all false
set_option maxHeartbeats 8000000
namespace Go.Proofs.YtkgeiaideklmoaaGreat
open Go.Vs
section
variable [Vs.Envs]
attribute [local irreducible] Vs.Fn aZ mgC iN mtC iU pJ mat uF bL aP bM bP l03 chB rk cd3 chI stp aQ
def stC (x:Stp) (o:Off):Int:=if x.kind=7 then(if 20<=o.totals.length then 5 else if jS x.f0 x.f1 x.s0 x.s1 (tr o.trays x.a) then 0 else 8) else dkC x (tr o.trays x.a) (tr o.trays x.b)
def stO (x:Stp) (o:Off):Off:=if x.kind=7 then⟨o.trays,o.totals++[kS x.f0 x.f1 x.s0 x.s1 (tr o.trays x.a)]⟩ else⟨o.trays.set x.to.toNat (dkL x (tr o.trays x.a) (tr o.trays x.b)),o.totals⟩
def dsC (x:Stp) (o:Off):Int:=if mY x (wO o.trays) then stC x o else 2
def run:Off->List Stp->Off×Nat
 |o,[]=>(o,0)
 |o,x::r=>if dsC x o=0 then((run (stO x o) r).1,(run (stO x o) r).2+1) else(o,0)
def okD (w:Nat) (d:List (List Int)):Prop:=bE d=true∧∀c,c∈d->c.length=w
def okO (w:Nat) (o:Off):Prop:=(1<=w∧w<=20)∧o.trays.length=6∧(∀d,d∈o.trays->okD w d)∧o.totals.length<=20∧∀t,t∈o.totals->aEf t
theorem oK {w:Nat}{d:List (List Int)} (I:w<=20) (h:okD w d):aY d:=by
 have H:=iZ h.1;exact⟨by omega,λc F=>by rw[h.2 c F];omega⟩
theorem iO {w:Nat}{o:Off} (h:okO w o):eD o:=by
 obtain⟨J,L,H,O,I⟩:=h;exact⟨⟨by omega,λd F=>oK J.2 (H d F)⟩,⟨by omega,I⟩⟩
theorem aHf {w:Nat}:∀T:List (List (List Int)),(∀d,d∈T->okD w d)->wO T=w∨(wO T=20∧∀d,d∈T->d.length=0)
 | [],_=>.inr ⟨rfl,λd H=>absurd H (by simp)⟩
 | d::r,h=>by
  unfold wO;by_cases h0:d.length=0
  .rw[AP h0];rcases aHf r λe F=>h e (C8 _ F) with h1|⟨h1,h2⟩
   .exact .inl h1
   .refine .inr ⟨h1,λe F=>?_⟩;rcases Am.1 F with rfl|F
    .exact h0
    .exact h2 e F
  .rw[AC h0];refine .inl ((h d (Dn ..)).2 _ ?_);rw[show d.getD 0 []=d[0]'(by omega) by simp[List.getD,(by omega:0<d.length)]];exact Aa _
theorem aLI {w:Nat}{d:List (List Int)} (h:okD w d):bJ d=20∧d.length=0∨bJ d=w∧d.length≠0:=by
 unfold bJ;by_cases h0:d.length=0
 .rw[AP h0];exact .inl ⟨rfl,h0⟩
 .rw[AC h0,h.2 (d.getD 0 []) (by rw[show d.getD 0 []=d[0]'(by omega) by simp[List.getD,(by omega:0<d.length)]];exact Aa _)];exact .inr ⟨rfl,h0⟩
theorem wE {a b v w:Int} (h:v<=w) (F:dX a b v=true):dX a b w=true:=by
 simp only[dX,Aw,Bb] at F⊢;omega
theorem aA7 {a b v w:Int} (h:v<=w) (F:zA a b v=true):zA a b w=true:=by
 unfold zA at F⊢;rw[Aw] at F⊢;exact⟨wE h F.1,F.2⟩
theorem mX {w:Nat}{o:Off} (h:okO w o) {d:List (List Int)} (H:d∈o.trays):(wO o.trays:Int)<=bJ d:=by
 rcases aLI (h.2.2.1 d H) with⟨F,_⟩|⟨F,h2⟩
 .rcases aHf o.trays h.2.2.1 with h3|⟨h3,_⟩
  .rw[F,h3];have:=h.1.2;omega
  .rw[F,h3];omega
 .rcases aHf o.trays h.2.2.1 with h3|⟨h3,h4⟩
  .rw[F,h3];omega
  .exact absurd (h4 d H) h2
theorem aMq {w:Nat}{o:Off} (h:okO w o):inB (wO o.trays:Int) 1 20=true:=by
 have:=h.1;rcases aHf o.trays h.2.2.1 with h3|⟨h3,_⟩<;>rw[h3]<;>simp[inB]<;>omega
structure aMF (x:Stp) (o:Off):Prop where
 k:1<=x.kind∧x.kind<=7
 a:0<=x.a∧x.a<(o.trays.length:Int)
 b:0<=x.b∧x.b<(o.trays.length:Int)
 to:0<=x.to∧x.to<(o.trays.length:Int)
 f:dX x.f0 x.f1 (wO o.trays)=true
 n:x.kind=7->zA x.s0 x.s1 (wO o.trays)=true
theorem vN {w:Nat}{o:Off} (h:okO w o) {x:Stp} (H:mY x (wO o.trays)=true):aMF x o:=by
 unfold mY at H;simp only[Aw] at H;obtain⟨I,L,O,Y,U,_,F⟩:=H;simp only[inB,Aw,Bb] at I L O Y;have Z:=h.2.1;refine⟨I,⟨by omega,by omega⟩,⟨by omega,by omega⟩,⟨by omega,by omega⟩,U,λJ=>?_⟩;rw[AP (by simp[J])] at F;simp only[Aw] at F;exact F.2.1
theorem aA6 {w:Nat}{a b m:List (List Int)} (O:okD w a) (U:okD w b) (Y:∀c,c∈m->c∈a∨c∈b) (Z:m.length<=40):okD w m:=by
 have J:∀c,c∈m->c.length=w:=λc F=>(Y c F).elim (O.2 c) (U.2 c)
 have H:∀c,c∈m->iH c=true:=λc F=>by
  have L:=O.1;have h2:=U.1;simp only[bE,Aw,Az,Bb] at L h2;rcases Y c F with h|h
  .exact(L.1 c h).1
  .exact(h2.1 c h).1
 refine⟨?_,J⟩;simp only[bE,Aw,Az,Bb];refine⟨λc F=>⟨H c F,?_⟩,Z⟩;have h0:0<m.length:=Dx F;have I:m.getD 0 []∈m:=by rw[show m.getD 0 []=m[0] by simp[List.getD,h0]];exact Aa _
 rw[J c F,J _ I]
theorem aKz {fr to:Int}{l:List (List Int)}:∀c,c∈pJ fr to l->c∈l:=by
 intro c F;unfold pJ at F;obtain⟨i,hi,rfl⟩:=Bq.1 F;exact nG (yU i hi)
theorem aKA (fr to:Int) (l:List (List Int)):(pJ fr to l).length<=l.length:=by
 unfold pJ;rw[Bh];exact iR fr to l l.length
theorem aHR {q:List Int->Bool}{l:List (List Int)}:∀c,c∈flt q l->c∈l:=λc F=>(Dm.1 F).1
theorem aKf {fr to:Int}{l o:List (List Int)}{e:Bool}:∀c,c∈mat fr to l o e->c∈l:=by unfold mat;exact aHR
theorem aMy (fr to:Int) (l o:List (List Int)) (e:Bool):(mat fr to l o e).length<=l.length:=by unfold mat;exact yY _ _
theorem aLP {fr to:Int}{a b:List (List Int)} (h:mgC fr to a b=0):a.length+b.length<=40:=by
 unfold mgC at h;split at h
 .split at h
  .cases h
  .split at h
   .split at h
    .cases h
    .omega
   .cases h
 .contradiction
theorem dk_ok {w:Nat}{x:Stp}{a b:List (List Int)} (F:okD w a) (H:okD w b) (fa:dX x.f0 x.f1 (bJ a)=true) (fb:dX x.f0 x.f1 (bJ b)=true) (I:dkC x a b=0):okD w (dkL x a b):=by
 have Z:=dE F.1 fa;have ob:=dE H.1 fb;have J:=iZ F.1;have lb:=iZ H.1;unfold dkC at I;unfold dkL;by_cases O:x.kind=1
 .rw[AP O] at I⊢;exact aA6 F H (λc h=>.inl (aE0 Z J c h)) (by rw[aE1];exact J)
 rw[AC O] at I⊢;by_cases h2:x.kind=2
 .rw[AP h2] at I⊢;have hl:=aLP I;have L:(a++b).length<=40:=by rw[AX];exact hl
  refine aA6 F H (λc h=>?_) (by rw[aE1];exact L);exact Bg.1 (aE0 (λc h=>(Bg.1 h).elim (Z c) (ob c)) L c h)
 rw[AC h2] at I⊢;by_cases U:x.kind=5
 .rw[AP U];exact aA6 F H (λc h=>.inl (aHR c h)) (Bl (yY _ _) J)
 rw[AC U];by_cases Y:x.kind=6
 .rw[AP Y];exact aA6 F H (λc h=>.inl (aKz c h)) (Bl (aKA _ _ _) J)
 rw[AC Y];split
 .exact aA6 F H (λc h=>.inl (aKf c h)) (Bl (aMy _ _ _ _ _) J)
 .exact aA6 F H (λc h=>.inl (aKf c h)) (Bl (aMy _ _ _ _ _) J)
theorem aGg {fr to sf st:Int}{l:List (List Int)}{w:Nat} (Y:w<=20) (h:okD w l):aEf (kS fr to sf st l):=by
 have O:=iZ h.1;have U:=aCK fr to l;refine⟨by unfold kS;rw[Bh];omega,λt H=>?_⟩;unfold kS at H;obtain⟨g,F,rfl⟩:=Bq.1 H;obtain⟨I,_,J⟩:=aCJ F;have L:g.getD 0 []∈l:=J _ (by rw[show g.getD 0 []=g[0] by simp[List.getD,I]];exact Aa _);show(txt (fH fr to (g.getD 0 []))).size<=1048576
 rw[aCd];unfold fH;rw[Cg,BM,h.2 _ L];omega
theorem st_ok {w:Nat}{o:Off}{x:Stp} (h:okO w o) (I:aMF x o) (F:stC x o=0):okO w (stO x o):=by
 have O:=h.2.1;have L:=gI I.a;have Y:=gI I.b;unfold stC at F;unfold stO;by_cases U:x.kind=7
 .rw[AP U] at F⊢;refine⟨h.1,O,h.2.2.1,?_,λt H=>?_⟩
  .rw[AX,Cf];split at F
   .cases F
   .omega
  .rcases Bg.1 H with H|H
   .exact h.2.2.2.2 t H
   .rw[Av.1 H];exact aGg h.1.2 (h.2.2.1 _ L)
 .rw[AC U] at F⊢;refine⟨h.1,by simpa using O,λd J=>?_,h.2.2.2.1,h.2.2.2.2⟩;rcases List.mem_or_eq_of_mem_set J with J|rfl
  .exact h.2.2.1 d J
  .exact dk_ok (h.2.2.1 _ L) (h.2.2.1 _ Y) (wE (mX h L) I.f) (wE (mX h Y) I.f) F
theorem ds_ok {w:Nat}{o:Off}{x:Stp} (h:okO w o) (F:dsC x o=0):okO w (stO x o):=by
 unfold dsC at F;split at F
 .rename_i H;exact st_ok h (vN h H) F
 .cases F
end
section
variable [Vs.Envs]
attribute [local irreducible] Vs.Fn aZ mgC iN mtC iU pJ mat uF dkC dkL jS kS mY wO bL aP bM bP l03 chB rk cd3 chI stp aQ
def noO:AV:=.agg [.v (.slice none 0 0),.v (.slice none 0 0)]
theorem aK5 (m:List (List (List Int))) (i:Nat) (d:List (List Int)):(E cD m).set i [.sl 1 (E cC d)]=E cD (m.set i d):=by simp[E,Dc,cD]
theorem aMG (m:List (List Tot)) (t:List Tot):E cTs m++[[.sl 2 (E cT t)]]=E cTs (m++[t]):=by rw[bG];rfl
theorem aHj {fr to sf st:Int}{l:List (List Int)} (h:jS fr to sf st l=true):wL fr to sf st l=.sl 2 (E cT (kS fr to sf st l)):=by unfold wL;rw[AP h];rfl
theorem aD7 {fr to sf st:Int}{l:List (List Int)} (h:jS fr to sf st l=false):wL fr to sf st l=.v (.slice none 0 0):=by unfold wL;rw[h];rfl
theorem aKL {x:Stp}{a b:List (List Int)} (h:dkC x a b=0):dkV x a b=.sl 1 (E cC (dkL x a b)):=by unfold dkV;rw[AP h]
theorem aKM {x:Stp}{a b:List (List Int)} (h:dkC x a b≠0):dkV x a b=.v (.slice none 0 0):=by unfold dkV;rw[AC h]
theorem aMA {x:Stp}{o:Off} (H:mY x (wO o.trays)=true) (F:x.kind≠7):dsC x o=dkC x (tr o.trays x.a) (tr o.trays x.b):=by unfold dsC stC;rw[AP H,AC F]
theorem aMr {x:Stp}{o:Off} (F:x.kind≠7):stO x o=⟨o.trays.set x.to.toNat (dkL x (tr o.trays x.a) (tr o.trays x.b)),o.totals⟩:=by unfold stO;rw[AC F]
theorem aKK {x:Stp}{o:Off} (H:mY x (wO o.trays)=true) (F:x.kind=7):dsC x o=if 20<=o.totals.length then 5 else if jS x.f0 x.f1 x.s0 x.s1 (tr o.trays x.a) then 0 else 8:=by unfold dsC stC;rw[AP H,AP F]
theorem aJw {x:Stp}{o:Off} (F:x.kind=7):stO x o=⟨o.trays,o.totals++[kS x.f0 x.f1 x.s0 x.s1 (tr o.trays x.a)]⟩:=by unfold stO;rw[AP F]
attribute [local go_sem] Int.reduceBEq Int.reduceBNe cC cFd aH Af Ag Ao Aq Ae Aj Ad Al Ac Ai Ap Av Am Ak AR BQ Vs.Name.t.injEq Ar AY in
theorem aNh (x:Stp) (hz:x.text.size<=1048576) (o:Off) (w:Nat) (I:okO w o) (U:dsC x o≠0):Fz F.qI [.agg (cO o),.agg (cS x)] (.tup [noO,.v (.int .i64 (dsC x o))]):=by
 have J:=iO I;have OC:=lI o J;have NO:=aIA o J;have L:=xM x (wO o.trays:Int) hz;rw[aMq I,CW] at L;have hc:=I.2.1;have ha:=I.2.2.2.1;cases hv:mY x (wO o.trays)
 .rw[hv] at L;rw[show dsC x o=2 by unfold dsC;rw[hv];rfl];refine fn0 Cd.i_doStep_k λX=>?_
  repeat' first|simp -dsimp only[go_sem,noO,cO,cS]|apply Br.mk<;>intro h<;>try simp -dsimp only[h]|refine aB.c (by first|exact L|exact OC) ?_|refine aC ?_|fail
  all_goals first|omega|exact⟨_,_,rfl,rfl⟩
 rw[hv] at L;have H:=vN I hv;have ma:=gI H.a;have mb:=gI H.b;have ga:=iG H.a;have gb:=iG H.b;have a0:=H.a.1;have a1:=H.a.2;have gt:=iG H.to;have t0:=H.to.1;have t1:=H.to.2;have hf:(E cD o.trays).length=o.trays.length:=aH _;have hg:(E cTs o.totals).length=o.totals.length:=aH _;have hd:(E cD o.trays).take o.trays.length=E cD o.trays:=Ah (by omega);have he:(E cTs o.totals).take o.totals.length=E cTs o.totals:=Ah (by omega);by_cases Z:x.kind=7
 .have e7:(x.kind==7)=true:=BO.2 Z;rw[aKK hv Z] at U⊢;by_cases Y:20<=o.totals.length
  .have O:((o.totals.length:Int)==20)=true:=BO.2 (by omega);rw[AP Y];refine fn0 Cd.i_doStep_k λX=>?_
   repeat' first|simp -dsimp only[go_sem,e7,O,noO,cO,cS]|apply Br.mk<;>intro h<;>try simp -dsimp only[h]|refine aB.own (by first|exact NO) rfl ?_|refine aB.c (by first|exact L|exact OC) ?_|refine aC ?_|fail
   all_goals first|omega|exact⟨_,_,rfl,rfl⟩
  .have O:((o.totals.length:Int)==20)=false:=AB.2 (by omega);rw[AC Y] at U⊢;have da:=I.2.2.1 _ ma;have TO:=aJd (tr o.trays x.a) x.f0 x.f1 x.s0 x.s1 (dE da.1 (wE (mX I ma) H.f)) (aEm da.1 (aA7 (mX I ma) (H.n Z))) (oK I.1.2 da).1;cases hb:jS x.f0 x.f1 x.s0 x.s1 (tr o.trays x.a)
   .rw[aD7 hb,hb] at TO;simp only[AO,Bc] at TO;rw[AC (by decide)];refine fn0 Cd.i_doStep_k λX=>?_
    repeat' first|simp -dsimp only[go_sem,e7,O,noO,ga,cO,cS]|apply Br.mk<;>intro h<;>try simp -dsimp only[h]|refine aB.own (by first|exact NO) rfl ?_|refine aB.c (by first|exact L|exact OC|exact TO) ?_|refine aC ?_|fail
    all_goals first|omega|exact⟨_,_,rfl,rfl⟩
   .exact absurd (by rw[hb];rfl) U
 .have e7:(x.kind==7)=false:=AB.2 Z;rw[aMA hv Z] at U⊢;have DK:=aFG x hz o.trays J.1.2 J.1.1 H.a H.b o.totals U;have e0:(dkC x (tr o.trays x.a) (tr o.trays x.b) != 0)=true:=by simp[U]
  generalize dkC x (tr o.trays x.a) (tr o.trays x.b)=c at *
  refine fn0 Cd.i_doStep_k λX=>?_
  repeat' first|simp -dsimp only[go_sem,e7,e0,noO,cO,cS]|apply Br.mk<;>intro h<;>try simp -dsimp only[h]|refine aB.own (by first|exact NO) rfl ?_|refine aB.c (by first|exact L|exact OC|exact DK) ?_|refine aC ?_|fail
  all_goals first|omega|exact⟨_,_,rfl,rfl⟩
end
end Go.Proofs.YtkgeiaideklmoaaGreat
