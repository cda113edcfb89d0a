/- A step done by the program. -/
import Derived.Test.YtkgeiaideklmoaaGreatZwVm
import Derived.Test.YtkgeiaideklmoaaGreatZuO
import Derived.Test.YtkgeiaideklmoaaGreatZwVg
import Derived.Test.YtkgeiaideklmoaaGreatVtR
import Derived.Test.YtkgeiaideklmoaaGreatZuS
set_option linter.all false
set_option maxHeartbeats 8000000
namespace Go.Proofs.YtkgeiaideklmoaaGreat
open Go.Vs
section
variable [Vs.Envs]
attribute [local irreducible] Vs.Fn bA mgC iM mtC iP oC mat tX bK aO bL bM l03 chB rk cd3 chI stp aP
def stC (x:Stp) (o:Off):Int:=if x.kind=7 then(if 20<=o.totals.length then 5 else if jS x.f0 x.f1 x.s0 x.s1 (tr o.trays x.a) then 0 else 8) else dkC x (tr o.trays x.a) (tr o.trays x.b)
def stO (x:Stp) (o:Off):Off:=if x.kind=7 then⟨o.trays,o.totals++[jX x.f0 x.f1 x.s0 x.s1 (tr o.trays x.a)]⟩ else⟨o.trays.set x.to.toNat (dkL x (tr o.trays x.a) (tr o.trays x.b)),o.totals⟩
def dsC (x:Stp) (o:Off):Int:=if lM x (wO o.trays) then stC x o else 2
def run:Off->List Stp->Off×Nat
 |o,[]=>(o,0)
 |o,x::r=>if dsC x o=0 then((run (stO x o) r).1,(run (stO x o) r).2+1) else(o,0)
def okD (w:Nat) (d:List (List Int)):Prop:=bF d=true∧∀c,c∈d->c.length=w
def okO (w:Nat) (o:Off):Prop:=(1<=w∧w<=20)∧o.trays.length=6∧(∀d,d∈o.trays->okD w d)∧o.totals.length<=20∧∀t,t∈o.totals->aEI t
theorem oU {w:Nat}{d:List (List Int)} (I:w<=20) (h:okD w d):aZ d:=by
 have H:=jB h.1;exact⟨by omega,λc F=>by rw[h.2 c F];omega⟩
theorem eG {w:Nat}{o:Off} (h:okO w o):dY o:=by
 obtain⟨J,L,H,O,I⟩:=h;exact⟨⟨by omega,λd F=>oU J.2 (H d F)⟩,⟨by omega,I⟩⟩
theorem aHJ {w:Nat}:∀T:List (List (List Int)),(∀d,d∈T->okD w d)->wO T=w∨(wO T=20∧∀d,d∈T->d.length=0)
 | [],_=>.inr ⟨rfl,λd H=>absurd H (by simp)⟩
 | d::r,h=>by
  unfold wO;by_cases h0:d.length=0
  .rw[AP h0];rcases aHJ r λe F=>h e (C9 _ F) with h1|⟨h1,h2⟩
   .exact .inl h1
   .refine .inr ⟨h1,λe F=>?_⟩;rcases Ap.1 F with rfl|F
    .exact h0
    .exact h2 e F
  .rw[AB h0];refine .inl ((h d (Dp ..)).2 _ ?_);rw[show d.getD 0 []=d[0]'(by omega) by simp[List.getD,(by omega:0<d.length)]];exact Aa _
theorem aMj {w:Nat}{d:List (List Int)} (h:okD w d):bJ d=20∧d.length=0∨bJ d=w∧d.length≠0:=by
 unfold bJ;by_cases h0:d.length=0
 .rw[AP h0];exact .inl ⟨rfl,h0⟩
 .rw[AB h0,h.2 (d.getD 0 []) (by rw[show d.getD 0 []=d[0]'(by omega) by simp[List.getD,(by omega:0<d.length)]];exact Aa _)];exact .inr ⟨rfl,h0⟩
theorem wT {a b v w:Int} (h:v<=w) (F:dZ a b v=true):dZ a b w=true:=by
 simp only[dZ,Av,Bb] at F⊢;omega
theorem aBo {a b v w:Int} (h:v<=w) (F:zT a b v=true):zT a b w=true:=by
 unfold zT at F⊢;rw[Av] at F⊢;exact⟨wT h F.1,F.2⟩
theorem nH {w:Nat}{o:Off} (h:okO w o) {d:List (List Int)} (H:d∈o.trays):(wO o.trays:Int)<=bJ d:=by
 rcases aMj (h.2.2.1 d H) with⟨F,_⟩|⟨F,h2⟩
 .rcases aHJ o.trays h.2.2.1 with h3|⟨h3,_⟩
  .rw[F,h3];have:=h.1.2;omega
  .rw[F,h3];omega
 .rcases aHJ o.trays h.2.2.1 with h3|⟨h3,h4⟩
  .rw[F,h3];omega
  .exact absurd (h4 d H) h2
theorem aM5 {w:Nat}{o:Off} (h:okO w o):inB (wO o.trays:Int) 1 20=true:=by
 have:=h.1;rcases aHJ o.trays h.2.2.1 with h3|⟨h3,_⟩<;>rw[h3]<;>simp[inB]<;>omega
structure aNk (x:Stp) (o:Off):Prop where
 k:1<=x.kind∧x.kind<=7
 a:0<=x.a∧x.a<(o.trays.length:Int)
 b:0<=x.b∧x.b<(o.trays.length:Int)
 to:0<=x.to∧x.to<(o.trays.length:Int)
 f:dZ x.f0 x.f1 (wO o.trays)=true
 n:x.kind=7->zT x.s0 x.s1 (wO o.trays)=true
theorem wD {w:Nat}{o:Off} (h:okO w o) {x:Stp} (H:lM x (wO o.trays)=true):aNk x o:=by
 unfold lM at H;simp only[Av] at H;obtain⟨I,L,O,Y,U,_,F⟩:=H;simp only[inB,Av,Bb] at I L O Y;have Z:=h.2.1;refine⟨I,⟨by omega,by omega⟩,⟨by omega,by omega⟩,⟨by omega,by omega⟩,U,λJ=>?_⟩;rw[AP (by simp[J])] at F;simp only[Av] at F;exact F.2.1
theorem aBn {w:Nat}{a b m:List (List Int)} (O:okD w a) (U:okD w b) (Y:∀c,c∈m->c∈a∨c∈b) (Z:m.length<=40):okD w m:=by
 have J:∀c,c∈m->c.length=w:=λc F=>(Y c F).elim (O.2 c) (U.2 c)
 have H:∀c,c∈m->iL c=true:=λc F=>by
  have L:=O.1;have h2:=U.1;simp only[bF,Av,Az,Bb] at L h2;rcases Y c F with h|h
  .exact(L.1 c h).1
  .exact(h2.1 c h).1
 refine⟨?_,J⟩;simp only[bF,Av,Az,Bb];refine⟨λc F=>⟨H c F,?_⟩,Z⟩;have h0:0<m.length:=Dy F;have I:m.getD 0 []∈m:=by rw[show m.getD 0 []=m[0] by simp[List.getD,h0]];exact Aa _
 rw[J c F,J _ I]
theorem aLd {fr to:Int}{l:List (List Int)}:∀c,c∈oC fr to l->c∈l:=by
 intro c F;unfold oC at F;obtain⟨i,hi,rfl⟩:=Bq.1 F;exact nO (zJ i hi)
theorem aLe (fr to:Int) (l:List (List Int)):(oC fr to l).length<=l.length:=by
 unfold oC;rw[Bg];exact iU fr to l l.length
theorem aIq {q:List Int->Bool}{l:List (List Int)}:∀c,c∈flt q l->c∈l:=λc F=>(Dn.1 F).1
theorem aKR {fr to:Int}{l o:List (List Int)}{e:Bool}:∀c,c∈mat fr to l o e->c∈l:=by unfold mat;exact aIq
theorem aNc (fr to:Int) (l o:List (List Int)) (e:Bool):(mat fr to l o e).length<=l.length:=by unfold mat;exact zM _ _
theorem aMq {fr to:Int}{a b:List (List Int)} (h:mgC fr to a b=0):a.length+b.length<=40:=by
 unfold mgC at h;split at h
 .split at h
  .cases h
  .split at h
   .split at h
    .cases h
    .omega
   .cases h
 .contradiction
theorem dk_ok {w:Nat}{x:Stp}{a b:List (List Int)} (F:okD w a) (H:okD w b) (fa:dZ x.f0 x.f1 (bJ a)=true) (fb:dZ x.f0 x.f1 (bJ b)=true) (I:dkC x a b=0):okD w (dkL x a b):=by
 have Z:=dF F.1 fa;have ob:=dF H.1 fb;have J:=jB F.1;have lb:=jB H.1;unfold dkC at I;unfold dkL;by_cases O:x.kind=1
 .rw[AP O] at I⊢;exact aBn F H (λc h=>.inl (aFt Z J c h)) (by rw[aFu];exact J)
 rw[AB O] at I⊢;by_cases h2:x.kind=2
 .rw[AP h2] at I⊢;have hl:=aMq I;have L:(a++b).length<=40:=by rw[AQ];exact hl
  refine aBn F H (λc h=>?_) (by rw[aFu];exact L);exact Bf.1 (aFt (λc h=>(Bf.1 h).elim (Z c) (ob c)) L c h)
 rw[AB h2] at I⊢;by_cases U:x.kind=5
 .rw[AP U];exact aBn F H (λc h=>.inl (aIq c h)) (Bl (zM _ _) J)
 rw[AB U];by_cases Y:x.kind=6
 .rw[AP Y];exact aBn F H (λc h=>.inl (aLd c h)) (Bl (aLe _ _ _) J)
 rw[AB Y];split
 .exact aBn F H (λc h=>.inl (aKR c h)) (Bl (aNc _ _ _ _ _) J)
 .exact aBn F H (λc h=>.inl (aKR c h)) (Bl (aNc _ _ _ _ _) J)
theorem aGG {fr to sf st:Int}{l:List (List Int)}{w:Nat} (Y:w<=20) (h:okD w l):aEI (jX fr to sf st l):=by
 have O:=jB h.1;have U:=aC7 fr to l;refine⟨by unfold jX;rw[Bg];omega,λt H=>?_⟩;unfold jX at H;obtain⟨g,F,rfl⟩:=Bq.1 H;obtain⟨I,_,J⟩:=aC6 F;have L:g.getD 0 []∈l:=J _ (by rw[show g.getD 0 []=g[0] by simp[List.getD,I]];exact Aa _);show(txt (fH fr to (g.getD 0 []))).size<=1048576
 rw[aCt];unfold fH;rw[Cg,BM,h.2 _ L];omega
theorem st_ok {w:Nat}{o:Off}{x:Stp} (h:okO w o) (I:aNk x o) (F:stC x o=0):okO w (stO x o):=by
 have O:=h.2.1;have L:=gJ I.a;have Y:=gJ I.b;unfold stC at F;unfold stO;by_cases U:x.kind=7
 .rw[AP U] at F⊢;refine⟨h.1,O,h.2.2.1,?_,λt H=>?_⟩
  .rw[AQ,Cf];split at F
   .cases F
   .omega
  .rcases Bf.1 H with H|H
   .exact h.2.2.2.2 t H
   .rw[Au.1 H];exact aGG h.1.2 (h.2.2.1 _ L)
 .rw[AB U] at F⊢;refine⟨h.1,by simpa using O,λd J=>?_,h.2.2.2.1,h.2.2.2.2⟩;rcases List.mem_or_eq_of_mem_set J with J|rfl
  .exact h.2.2.1 d J
  .exact dk_ok (h.2.2.1 _ L) (h.2.2.1 _ Y) (wT (nH h L) I.f) (wT (nH h Y) I.f) F
theorem aIw {w:Nat}{o:Off}{x:Stp} (h:okO w o) (F:dsC x o=0):okO w (stO x o):=by
 unfold dsC at F;split at F
 .rename_i H;exact st_ok h (wD h H) F
 .cases F
theorem aKo {w:Nat}:∀(fl:List Stp) (o:Off),okO w o->okO w (run o fl).1∧(run o fl).2<=fl.length
 | [],o,h=>⟨h,Ar _⟩
 | x::r,o,h=>by
  unfold run;by_cases F:dsC x o=0
  .rw[AP F];obtain⟨H,h2⟩:=aKo r (stO x o) (aIw h F);exact⟨H,Nat.succ_le_succ h2⟩
  .rw[AB F];exact⟨h,Nat.zero_le _⟩
def aCC (o:Off) (fl:List Stp) (i:Nat) (o':Off):Prop:=run o fl=((run o' (fl.drop i)).1,(run o' (fl.drop i)).2+i)
theorem aDS (o:Off) (fl:List Stp):aCC o fl 0 o:=rfl
theorem aBl {o F:Off}{fl:List Stp}{i:Nat} (hi:i<fl.length) (h:aCC o fl i F) (H:dsC fl[i] F=0):aCC o fl (i+1) (stO fl[i] F):=by
 unfold aCC at h⊢;rw[BS hi,run,AP H] at h;rw[h];simp only[AL,Ci];omega
theorem uX {o F:Off}{fl:List Stp}{i:Nat} (hi:i<fl.length) (h:aCC o fl i F) (H:dsC fl[i] F≠0):run o fl=(F,i):=by
 unfold aCC at h;rw[BS hi,run,AB H] at h;rw[h,BU]
theorem aCB {o F:Off}{fl:List Stp} (h:aCC o fl fl.length F):run o fl=(F,fl.length):=by
 unfold aCC at h;rw[CV,run] at h;rw[h,BU]
end
section
variable [Vs.Envs]
attribute [local irreducible] Vs.Fn bA mgC iM mtC iP oC mat tX dkC dkL jS jX lM wO bK aO bL bM l03 chB rk cd3 chI stp aP
def noO:AV:=.agg [.v (.slice none 0 0),.v (.slice none 0 0)]
theorem aLJ (m:List (List (List Int))) (i:Nat) (d:List (List Int)):(E cD m).set i [.sl 1 (E cC d)]=E cD (m.set i d):=by simp[E,De,cD]
theorem aNl (m:List (List Tot)) (t:List Tot):E cTs m++[[.sl 2 (E cT t)]]=E cTs (m++[t]):=by rw[bH];rfl
theorem aHN {fr to sf st:Int}{l:List (List Int)} (h:jS fr to sf st l=true):xB fr to sf st l=.sl 2 (E cT (jX fr to sf st l)):=by unfold xB;rw[AP h];rfl
theorem aEx {fr to sf st:Int}{l:List (List Int)} (h:jS fr to sf st l=false):xB fr to sf st l=.v (.slice none 0 0):=by unfold xB;rw[h];rfl
theorem aLp {x:Stp}{a b:List (List Int)} (h:dkC x a b=0):dkV x a b=.sl 1 (E cC (dkL x a b)):=by unfold dkV;rw[AP h]
theorem aLq {x:Stp}{a b:List (List Int)} (h:dkC x a b≠0):dkV x a b=.v (.slice none 0 0):=by unfold dkV;rw[AB h]
theorem aNf {x:Stp}{o:Off} (H:lM x (wO o.trays)=true) (F:x.kind≠7):dsC x o=dkC x (tr o.trays x.a) (tr o.trays x.b):=by unfold dsC stC;rw[AP H,AB F]
theorem aM6 {x:Stp}{o:Off} (F:x.kind≠7):stO x o=⟨o.trays.set x.to.toNat (dkL x (tr o.trays x.a) (tr o.trays x.b)),o.totals⟩:=by unfold stO;rw[AB F]
theorem aLn {x:Stp}{o:Off} (H:lM x (wO o.trays)=true) (F:x.kind=7):dsC x o=if 20<=o.totals.length then 5 else if jS x.f0 x.f1 x.s0 x.s1 (tr o.trays x.a) then 0 else 8:=by unfold dsC stC;rw[AP H,AP F]
theorem aJ7 {x:Stp}{o:Off} (F:x.kind=7):stO x o=⟨o.trays,o.totals++[jX x.f0 x.f1 x.s0 x.s1 (tr o.trays x.a)]⟩:=by unfold stO;rw[AP F]
attribute [local go_sem] Int.reduceBEq Int.reduceBNe cC cFd aH Af Ag Al Aq Ae Ai Ac Ak Ab Ah Am Au Ap Ao AX BH Vs.Name.t.injEq Aw A9 in
theorem aN5 (x:Stp) (hz:x.text.size<=1048576) (o:Off) (w:Nat) (I:okO w o) (U:dsC x o≠0):Fz F.qN [.agg (cO o),.agg (cS x)] (.tup [noO,.v (.int .i64 (dsC x o))]):=by
 have J:=eG I;have OC:=lS o J;have NO:=aJd o J;have L:=yB x (wO o.trays:Int) hz;rw[aM5 I,CX] at L;have hc:=I.2.1;have ha:=I.2.2.2.1;cases hv:lM x (wO o.trays)
 .rw[hv] at L;rw[show dsC x o=2 by unfold dsC;rw[hv];rfl];refine fn0 Cd.i_doStep_k λX=>?_
  repeat' first|simp -dsimp only[go_sem,noO,cO,cS]|apply Br.mk<;>intro h<;>try simp -dsimp only[h]|refine aB.c (by first|exact L|exact OC) ?_|refine aC ?_|fail
  all_goals first|omega|exact⟨_,_,rfl,rfl⟩
 rw[hv] at L;have H:=wD I hv;have ma:=gJ H.a;have mb:=gJ H.b;have ga:=iK H.a;have gb:=iK H.b;have a0:=H.a.1;have a1:=H.a.2;have gt:=iK H.to;have t0:=H.to.1;have t1:=H.to.2;have hf:(E cD o.trays).length=o.trays.length:=aH _;have hg:(E cTs o.totals).length=o.totals.length:=aH _;have hd:(E cD o.trays).take o.trays.length=E cD o.trays:=Aj (by omega);have he:(E cTs o.totals).take o.totals.length=E cTs o.totals:=Aj (by omega);by_cases Z:x.kind=7
 .have e7:(x.kind==7)=true:=BN.2 Z;rw[aLn hv Z] at U⊢;by_cases Y:20<=o.totals.length
  .have O:((o.totals.length:Int)==20)=true:=BN.2 (by omega);rw[AP Y];refine fn0 Cd.i_doStep_k λX=>?_
   repeat' first|simp -dsimp only[go_sem,e7,O,noO,cO,cS]|apply Br.mk<;>intro h<;>try simp -dsimp only[h]|refine aB.own (by first|exact NO) rfl ?_|refine aB.c (by first|exact L|exact OC) ?_|refine aC ?_|fail
   all_goals first|omega|exact⟨_,_,rfl,rfl⟩
  .have O:((o.totals.length:Int)==20)=false:=AC.2 (by omega);rw[AB Y] at U⊢;have da:=I.2.2.1 _ ma;have TO:=aJP (tr o.trays x.a) x.f0 x.f1 x.s0 x.s1 (dF da.1 (wT (nH I ma) H.f)) (aEP da.1 (aBo (nH I ma) (H.n Z))) (oU I.1.2 da).1;cases hb:jS x.f0 x.f1 x.s0 x.s1 (tr o.trays x.a)
   .rw[aEx hb,hb] at TO;simp only[AR,Bd] at TO;rw[AB (by decide)];refine fn0 Cd.i_doStep_k λX=>?_
    repeat' first|simp -dsimp only[go_sem,e7,O,noO,ga,cO,cS]|apply Br.mk<;>intro h<;>try simp -dsimp only[h]|refine aB.own (by first|exact NO) rfl ?_|refine aB.c (by first|exact L|exact OC|exact TO) ?_|refine aC ?_|fail
    all_goals first|omega|exact⟨_,_,rfl,rfl⟩
   .exact absurd (by rw[hb];rfl) U
 .have e7:(x.kind==7)=false:=AC.2 Z;rw[aNf hv Z] at U⊢;have DK:=aF7 x hz o.trays J.1.2 J.1.1 H.a H.b o.totals U;have e0:(dkC x (tr o.trays x.a) (tr o.trays x.b) != 0)=true:=by simp[U]
  generalize dkC x (tr o.trays x.a) (tr o.trays x.b)=c at *
  refine fn0 Cd.i_doStep_k λX=>?_
  repeat' first|simp -dsimp only[go_sem,e7,e0,noO,cO,cS]|apply Br.mk<;>intro h<;>try simp -dsimp only[h]|refine aB.own (by first|exact NO) rfl ?_|refine aB.c (by first|exact L|exact OC|exact DK) ?_|refine aC ?_|fail
  all_goals first|omega|exact⟨_,_,rfl,rfl⟩
end
end Go.Proofs.YtkgeiaideklmoaaGreat
