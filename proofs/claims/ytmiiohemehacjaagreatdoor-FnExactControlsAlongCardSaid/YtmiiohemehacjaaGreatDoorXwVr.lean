/- A step done by the reference. -/
import Derived.Test.YtmiiohemehacjaaGreatDoorXwVm
import Derived.Test.YtmiiohemehacjaaGreatDoorXuO
import Derived.Test.YtmiiohemehacjaaGreatDoorVsI
import Derived.Test.YtmiiohemehacjaaGreatDoorXwD
import Derived.Test.YtmiiohemehacjaaGreatDoorXwVf
import Derived.Test.YtmiiohemehacjaaGreatDoorVtR
import Derived.Test.YtmiiohemehacjaaGreatDoorXuF
set_option linter.all false
set_option maxHeartbeats 8000000
namespace Go.Proofs.YtmiiohemehacjaaGreatDoor
open Go.Vs
section
variable [Vs.Envs]
attribute [local irreducible] Vs.Fn aY mgC kS mtC gQ uI mat z8 chOK areCh chTo chAt l03 chB rk cd3 chI stp stpTo
def stC (x:Stp) (o:Off):Int:=if x.kind=7 then(if 20<=o.totals.length then 5 else if nG x.f0 x.f1 x.s0 x.s1 (tr o.trays x.a) then 0 else 8) else dkC x (tr o.trays x.a) (tr o.trays x.b)
def stO (x:Stp) (o:Off):Off:=if x.kind=7 then⟨o.trays,o.totals++[oH x.f0 x.f1 x.s0 x.s1 (tr o.trays x.a)]⟩ else⟨o.trays.set x.to.toNat (dkL x (tr o.trays x.a) (tr o.trays x.b)),o.totals⟩
def dsC (x:Stp) (o:Off):Int:=if mE x (wO o.trays) then stC x o else 2
def run:Off->List Stp->Off×Nat
 |o,[]=>(o,0)
 |o,x::r=>if dsC x o=0 then((run (stO x o) r).1,(run (stO x o) r).2+1) else(o,0)
def okD (w:Nat) (d:List (List Int)):Prop:=bA d=true∧∀c,c∈d->c.length=w
def okO (w:Nat) (o:Off):Prop:=(1<=w∧w<=20)∧o.trays.length=6∧(∀d,d∈o.trays->okD w d)∧o.totals.length<=20∧∀t,t∈o.totals->aEx t
theorem fT {w:Nat}{d:List (List Int)} (I:w<=20) (h:okD w d):bJ d:=by
 have H:=kM h.1;exact⟨by omega,λc F=>by rw[h.2 c F];omega⟩
theorem iZ {w:Nat}{o:Off} (h:okO w o):dD o:=by
 obtain⟨J,L,H,O,I⟩:=h;exact⟨⟨by omega,λd F=>fT J.2 (H d F)⟩,⟨by omega,I⟩⟩
theorem aHy {w:Nat}:∀T:List (List (List Int)),(∀d,d∈T->okD w d)->wO T=w∨(wO T=20∧∀d,d∈T->d.length=0)
 | [],_=>.inr ⟨rfl,λd I=>absurd I (by simp)⟩
 | d::r,h=>by
  unfold wO;by_cases H:d.length=0
  .rw[if_pos H];rcases aHy r λe F=>h e (List.mem_cons_of_mem _ F) with h1|⟨h1,h2⟩
   .exact .inl h1
   .refine .inr ⟨h1,λe F=>?_⟩;rcases List.mem_cons.1 F with rfl|F
    .exact H
    .exact h2 e F
  .rw[if_neg H];refine .inl ((h d (List.mem_cons_self ..)).2 _ ?_);rw[show d.getD 0 []=d[0]'(by omega) by simp[List.getD,(by omega:0<d.length)]];exact List.getElem_mem _
theorem aLQ {w:Nat}{d:List (List Int)} (h:okD w d):bF d=20∧d.length=0∨bF d=w∧d.length≠0:=by
 unfold bF;by_cases F:d.length=0
 .rw[if_pos F];exact .inl ⟨rfl,F⟩
 .rw[if_neg F,h.2 (d.getD 0 []) (by rw[show d.getD 0 []=d[0]'(by omega) by simp[List.getD,(by omega:0<d.length)]];exact List.getElem_mem _)];exact .inr ⟨rfl,F⟩
theorem x8 {a b v w:Int} (h:v<=w) (F:dR a b v=true):dR a b w=true:=by
 simp only[dR,Bool.and_eq_true,decide_eq_true_eq] at F⊢;omega
theorem aCF {a b v w:Int} (h:v<=w) (F:nO a b v=true):nO a b w=true:=by
 unfold nO at F⊢;rw[Bool.and_eq_true] at F⊢;exact⟨x8 h F.1,F.2⟩
theorem pV {w:Nat}{o:Off} (h:okO w o) {d:List (List Int)} (H:d∈o.trays):(wO o.trays:Int)<=bF d:=by
 rcases aLQ (h.2.2.1 d H) with⟨F,_⟩|⟨F,h2⟩
 .rcases aHy o.trays h.2.2.1 with h3|⟨h3,_⟩
  .rw[F,h3];have:=h.1.2;omega
  .rw[F,h3];omega
 .rcases aHy o.trays h.2.2.1 with h3|⟨h3,h4⟩
  .rw[F,h3];omega
  .exact absurd (h4 d H) h2
theorem wO_in {w:Nat}{o:Off} (h:okO w o):inB (wO o.trays:Int) 1 20=true:=by
 have:=h.1;rcases aHy o.trays h.2.2.1 with h3|⟨h3,_⟩<;>rw[h3]<;>simp[inB]<;>omega
structure aMS (x:Stp) (o:Off):Prop where
 k:1<=x.kind∧x.kind<=7
 a:0<=x.a∧x.a<(o.trays.length:Int)
 b:0<=x.b∧x.b<(o.trays.length:Int)
 to:0<=x.to∧x.to<(o.trays.length:Int)
 f:dR x.f0 x.f1 (wO o.trays)=true
 n:x.kind=7->nO x.s0 x.s1 (wO o.trays)=true
theorem pX {w:Nat}{o:Off} (h:okO w o) {x:Stp} (H:mE x (wO o.trays)=true):aMS x o:=by
 unfold mE at H;simp only[Bool.and_eq_true] at H;obtain⟨I,L,O,Y,U,_,F⟩:=H;simp only[inB,Bool.and_eq_true,decide_eq_true_eq] at I L O Y;have Z:=h.2.1;refine⟨I,⟨by omega,by omega⟩,⟨by omega,by omega⟩,⟨by omega,by omega⟩,U,λJ=>?_⟩;rw[if_pos (by simp[J])] at F;simp only[Bool.and_eq_true] at F;exact F.2.1
theorem aA8 {w:Nat}{a b m:List (List Int)} (O:okD w a) (U:okD w b) (Y:∀c,c∈m->c∈a∨c∈b) (hl:m.length<=40):okD w m:=by
 have J:∀c,c∈m->c.length=w:=λc F=>(Y c F).elim (O.2 c) (U.2 c)
 have H:∀c,c∈m->gL c=true:=λc F=>by
  have L:=O.1;have h2:=U.1;simp only[bA,Bool.and_eq_true,List.all_eq_true,decide_eq_true_eq] at L h2;rcases Y c F with h|h
  .exact(L.1 c h).1
  .exact(h2.1 c h).1
 refine⟨?_,J⟩;simp only[bA,Bool.and_eq_true,List.all_eq_true,decide_eq_true_eq];refine⟨λc F=>⟨H c F,?_⟩,hl⟩;have Z:0<m.length:=List.length_pos_of_mem F;have I:m.getD 0 []∈m:=by rw[show m.getD 0 []=m[0] by simp[List.getD,Z]];exact List.getElem_mem _
 rw[J c F,J _ I]
theorem aKL {fr to:Int}{l:List (List Int)}:∀c,c∈uI fr to l->c∈l:=by
 intro c F;unfold uI at F;obtain⟨i,hi,rfl⟩:=List.mem_map.1 F;exact mP (aBi i hi)
theorem aKM (fr to:Int) (l:List (List Int)):(uI fr to l).length<=l.length:=by
 unfold uI;rw[List.length_map];exact jG fr to l l.length
theorem aIb {q:List Int->Bool}{l:List (List Int)}:∀c,c∈flt q l->c∈l:=λc F=>(List.mem_filter.1 F).1
theorem aKo {fr to:Int}{l o:List (List Int)}{e:Bool}:∀c,c∈mat fr to l o e->c∈l:=by unfold mat;exact aIb
theorem aMK (fr to:Int) (l o:List (List Int)) (e:Bool):(mat fr to l o e).length<=l.length:=by unfold mat;exact yZ _ _
theorem aLY {fr to:Int}{a b:List (List Int)} (h:mgC fr to a b=0):a.length+b.length<=40:=by
 unfold mgC at h;split at h
 .split at h
  .cases h
  .split at h
   .split at h
    .cases h
    .omega
   .cases h
 .contradiction
theorem dk_ok {w:Nat}{x:Stp}{a b:List (List Int)} (F:okD w a) (H:okD w b) (fa:dR x.f0 x.f1 (bF a)=true) (fb:dR x.f0 x.f1 (bF b)=true) (I:dkC x a b=0):okD w (dkL x a b):=by
 have Z:=eF F.1 fa;have ob:=eF H.1 fb;have J:=kM F.1;have lb:=kM H.1;unfold dkC at I;unfold dkL;by_cases O:x.kind=1
 .rw[if_pos O] at I⊢;exact aA8 F H (λc h=>.inl (aFh Z J c h)) (by rw[aFi];exact J)
 rw[if_neg O] at I⊢;by_cases h2:x.kind=2
 .rw[if_pos h2] at I⊢;have hl:=aLY I;have L:(a++b).length<=40:=by rw[List.length_append];exact hl
  refine aA8 F H (λc h=>?_) (by rw[aFi];exact L);exact List.mem_append.1 (aFh (λc h=>(List.mem_append.1 h).elim (Z c) (ob c)) L c h)
 rw[if_neg h2] at I⊢;by_cases U:x.kind=5
 .rw[if_pos U];exact aA8 F H (λc h=>.inl (aIb c h)) (Nat.le_trans (yZ _ _) J)
 rw[if_neg U];by_cases Y:x.kind=6
 .rw[if_pos Y];exact aA8 F H (λc h=>.inl (aKL c h)) (Nat.le_trans (aKM _ _ _) J)
 rw[if_neg Y];split
 .exact aA8 F H (λc h=>.inl (aKo c h)) (Nat.le_trans (aMK _ _ _ _ _) J)
 .exact aA8 F H (λc h=>.inl (aKo c h)) (Nat.le_trans (aMK _ _ _ _ _) J)
theorem aGx {fr to sf st:Int}{l:List (List Int)}{w:Nat} (Y:w<=20) (h:okD w l):aEx (oH fr to sf st l):=by
 have O:=kM h.1;have U:=aFY fr to l;refine⟨by unfold oH;rw[List.length_map];omega,λt H=>?_⟩;unfold oH at H;obtain⟨g,F,rfl⟩:=List.mem_map.1 H;obtain⟨I,_,J⟩:=aFX F;have L:g.getD 0 []∈l:=J _ (by rw[show g.getD 0 []=g[0] by simp[List.getD,I]];exact List.getElem_mem _);show(txt (fH fr to (g.getD 0 []))).size<=1048576
 rw[aCm];unfold fH;rw[List.length_drop,List.length_take,h.2 _ L];omega
theorem st_ok {w:Nat}{o:Off}{x:Stp} (h:okO w o) (I:aMS x o) (F:stC x o=0):okO w (stO x o):=by
 have O:=h.2.1;have L:=dA I.a;have Y:=dA I.b;unfold stC at F;unfold stO;by_cases U:x.kind=7
 .rw[if_pos U] at F⊢;refine⟨h.1,O,h.2.2.1,?_,λt H=>?_⟩
  .rw[List.length_append,List.length_singleton];split at F
   .cases F
   .omega
  .rcases List.mem_append.1 H with H|H
   .exact h.2.2.2.2 t H
   .rw[List.mem_singleton.1 H];exact aGx h.1.2 (h.2.2.1 _ L)
 .rw[if_neg U] at F⊢;refine⟨h.1,by simpa using O,λd J=>?_,h.2.2.2.1,h.2.2.2.2⟩;rcases List.mem_or_eq_of_mem_set J with J|rfl
  .exact h.2.2.1 d J
  .exact dk_ok (h.2.2.1 _ L) (h.2.2.1 _ Y) (x8 (pV h L) I.f) (x8 (pV h Y) I.f) F
theorem aIh {w:Nat}{o:Off}{x:Stp} (h:okO w o) (F:dsC x o=0):okO w (stO x o):=by
 unfold dsC at F;split at F
 .rename_i H;exact st_ok h (pX h H) F
 .cases F
end
section
variable [Vs.Tab 1 Vs.powP]
attribute [local irreducible] Vs.Fn mE stC stO wN xA chOK areCh chTo chAt l03 chB rk cd3 chI stp stpTo
def fbC (fr to:Int) (o:Off) (n:Nat):Int:=if tH o then(if nO fr to (wO o.trays)&&decide ((n:Int)<=20) then 0 else 2) else 1
def exC (fr to:Int) (o:Off):Int:=if tH o then(if nO fr to (wO o.trays) then 0 else 2) else 1
theorem aHU {o:Off} (h:tH o=true):o.trays.length=6:=by
 simp only[tH,Bool.and_eq_true,beq_iff_eq] at h;omega
theorem aKe {o:Off} (h:tH o=true) {i:Nat} (hi:i<6):uF o i=true:=by
 have H:=aHU h;simp only[tH,Bool.and_eq_true] at h;have F:=h.1;rw[aIO] at F;exact F i (by omega)
theorem aH4 (fr to:Int) (o:Off) (H:dD o):Fz F.uQ [.ro (cO o),.agg (cFd fr to)] (.v (.int .i64 (exC fr to o))):=by
 refine fn0 Cd.s_l18Code_k λX=>?_
 repeat' first|simp -dsimp only[go_sem,cFd,cO]|apply Br.mk<;>intro h<;>try simp -dsimp only[h]|refine aD.c (by first|exact l15Ok o H|exact vH o H|exact aKs fr to _) ?_|refine aC ?_|fail
 all_goals(simp_all [exC])
theorem aEE {o:Off} (h:tH o=true) (Y:dD o):okO (wO o.trays) o:=by
 have O:=aHU h
 have hin:∀d,d∈o.trays->okD (wO o.trays) d:=by
  intro d F;obtain⟨i,hi,rfl⟩:=List.mem_iff_getElem.1 F;have H:=aKe h (i:=i) (by omega);rw[uF,getD_lt hi] at H;simp only[Bool.and_eq_true,Bool.or_eq_true,beq_iff_eq] at H;refine⟨H.1,λc I=>?_⟩;have L:o.trays[i].length≠0:=by intro e;rw[List.eq_nil_of_length_eq_zero e] at I;cases I
  rw[←H.2.resolve_left L];have F:=H.1;simp only[bA,Bool.and_eq_true,List.all_eq_true,decide_eq_true_eq] at F;exact(F.1 c I).2
 have Z:1<=wO o.trays∧wO o.trays<=20:=by
  have J:∀l:List (List (List Int)),(∀d,d∈l->bA d=true)->1<=wO l∧wO l<=20:=by
   intro l
   induction l with
   |nil=>intro _;simp[wO]
   | cons d r ih =>
    intro h;rw[wO];split
    .exact ih λe U=>h e (by simp[U])
    .rename_i L;have F:=h d (by simp);have H:0<d.length:=by omega
     simp only[bA,Bool.and_eq_true,List.all_eq_true,decide_eq_true_eq] at F;have I:=(F.1 d[0] (List.getElem_mem H)).1;simp only[gL,inB,Bool.and_eq_true,List.all_eq_true,decide_eq_true_eq] at I;rw[getD_lt H];omega
  exact J _ λd F=>(hin d F).1
 simp only[tH,Bool.and_eq_true,decide_eq_true_eq] at h;exact⟨Z,O,hin,by omega,Y.2.2⟩
theorem aA7 {o:Off}{w:Nat} (h:okO w o) {fr to:Int} (I:nO fr to w=true) {d:List (List Int)} (hd:d∈o.trays):∀c,c∈d->okP fr to c:=by
 intro c O;obtain⟨L,h2⟩:=h.2.2.1 d hd;have H:=h2 c O;simp only[bA,Bool.and_eq_true,List.all_eq_true,decide_eq_true_eq] at L;have F:=(L.1 c O).1;simp only[gL,inB,Bool.and_eq_true,List.all_eq_true,decide_eq_true_eq] at F;simp only[nO,dR,Bool.and_eq_true,decide_eq_true_eq] at I;rw[←H] at I;obtain⟨⟨U,Y,Z⟩,J⟩:=I;obtain⟨h5,h6,h7⟩:=F;have hw:W (to-fr)=to-fr:=aO (by omega) (by omega);rw[hw] at J;exact⟨U,Y,Z,J,by omega,λx hx=>h5 x hx⟩
def tlK (x:Stp):Int:=if x.kind=7 then x.a else x.to
def tlT (x:Stp) (o:Off):List (List Int):=tr o.trays (tlK x)
def alg (fr to:Int):Off->List Stp->List (Int×Int×Int)×Bool
 |_,[]=>([],true)
 | o,x::r=>if dsC x o=0 then
   (if wN fr to (tlT x (stO x o)) then(xA fr to (tlT x (stO x o))::(alg fr to (stO x o) r).1,(alg fr to (stO x o) r).2) else([],false))
  else([],true)
def aDA (fr to:Int) (o:Off) (fl:List Stp) (i:Nat) (o':Off) (acc:List (Int×Int×Int)):Prop:=
 (alg fr to o fl).2=(alg fr to o' (fl.drop i)).2∧((alg fr to o fl).2=true->(alg fr to o fl).1=acc++(alg fr to o' (fl.drop i)).1)∧acc.length=i
theorem aBu (fr to:Int) (o:Off) (F:List Stp):aDA fr to o F 0 o []:=⟨rfl,λ_=>rfl,rfl⟩
theorem y8 {fr to:Int}{o I:Off}{F:List Stp}{i:Nat}{H:List (Int×Int×Int)} (J:i<F.length) (h:aDA fr to o F i I H) (Y:dsC F[i] I=0) (U:wN fr to (tlT F[i] (stO F[i] I))=true) :
  aDA fr to o F (i+1) (stO F[i] I) (H++[xA fr to (tlT F[i] (stO F[i] I))]):=by
 obtain⟨L,h2,O⟩:=h;rw[List.drop_eq_getElem_cons J,alg,if_pos Y,if_pos U] at L h2;refine⟨L,λh=>?_,by simp[O]⟩;rw[h2 h,List.append_assoc];rfl
theorem aAW {fr to:Int}{o J:Off}{F:List Stp}{i:Nat}{H:List (Int×Int×Int)} (I:i<F.length) (h:aDA fr to o F i J H) (U:dsC F[i] J=0) (O:wN fr to (tlT F[i] (stO F[i] J))=false):(alg fr to o F).2=false:=by
 obtain⟨L,h2,Y⟩:=h;rw[List.drop_eq_getElem_cons I,alg,if_pos U,if_neg (by rw[O];simp)] at L;exact L
theorem rC {fr to:Int}{o L:Off}{H:List Stp}{i:Nat}{F:List (Int×Int×Int)} (J:i<H.length) (h:aDA fr to o H i L F) (O:dsC H[i] L≠0):alg fr to o H=(F,true):=by
 obtain⟨I,h2,U⟩:=h;rw[List.drop_eq_getElem_cons J,alg,if_neg O] at I h2;have:=h2 I;rw[List.append_nil] at this;exact Prod.ext this I
theorem aAV {fr to:Int}{o J:Off}{H:List Stp}{F:List (Int×Int×Int)} (h:aDA fr to o H H.length J F):alg fr to o H=(F,true):=by
 obtain⟨I,h2,L⟩:=h;rw[List.drop_length,alg] at I h2;have:=h2 I;rw[List.append_nil] at this;exact Prod.ext this I
end
section
variable [Vs.Envs]
attribute [local irreducible] Vs.Fn aY mgC kS mtC gQ uI mat z8 dkC dkL nG oH mE wO chOK areCh chTo chAt l03 chB rk cd3 chI stp stpTo
def noO:AV:=.agg [.v (.slice none 0 0),.v (.slice none 0 0)]
def dsV (x:Stp) (o:Off):AV:=if dsC x o=0 then .agg (cO (stO x o)) else noO
theorem aHu (m:List (List (List Int))) (i:Nat) (d:List (List Int)):(E cD m).set i [.sl 1 (E cC d)]=E cD (m.set i d):=by simp[E,List.map_set,cD]
theorem aLj (m:List (List Tot)) (t:List Tot):E cTs m++[[.sl 2 (E cT t)]]=E cTs (m++[t]):=by rw[aV];rfl
theorem aEn {fr to sf st:Int}{l:List (List Int)} (h:nG fr to sf st l=true):wV fr to sf st l=.sl 2 (E cT (oH fr to sf st l)):=by unfold wV;rw[if_pos h];rfl
theorem aEo {fr to sf st:Int}{l:List (List Int)} (h:nG fr to sf st l=false):wV fr to sf st l=.v (.slice none 0 0):=by unfold wV;rw[h];rfl
theorem aHh {x:Stp}{a b:List (List Int)} (h:dkC x a b=0):dkV x a b=.sl 1 (E cC (dkL x a b)):=by unfold dkV;rw[if_pos h]
theorem aHi {x:Stp}{a b:List (List Int)} (h:dkC x a b≠0):dkV x a b=.v (.slice none 0 0):=by unfold dkV;rw[if_neg h]
theorem ds_dk {x:Stp}{o:Off} (H:mE x (wO o.trays)=true) (F:x.kind≠7):dsC x o=dkC x (tr o.trays x.a) (tr o.trays x.b):=by unfold dsC stC;rw[if_pos H,if_neg F]
theorem aMD {x:Stp}{o:Off} (F:x.kind≠7):stO x o=⟨o.trays.set x.to.toNat (dkL x (tr o.trays x.a) (tr o.trays x.b)),o.totals⟩:=by unfold stO;rw[if_neg F]
theorem aNB {x:Stp}{o:Off} (H:mE x (wO o.trays)=true) (F:x.kind=7):dsC x o=if 20<=o.totals.length then 5 else if nG x.f0 x.f1 x.s0 x.s1 (tr o.trays x.a) then 0 else 8:=by unfold dsC stC;rw[if_pos H,if_pos F]
theorem aJO {x:Stp}{o:Off} (F:x.kind=7):stO x o=⟨o.trays,o.totals++[oH x.f0 x.f1 x.s0 x.s1 (tr o.trays x.a)]⟩:=by unfold stO;rw[if_pos F]
attribute [local go_sem] Int.reduceBEq Int.reduceBNe cC cFd aI List.replicate_succ List.replicate_zero List.flatten_cons List.flatten_nil List.cons_append List.nil_append List.set_cons_zero List.set_cons_succ List.length_cons List.length_nil List.length_set List.mem_singleton List.mem_cons List.not_mem_nil or_false false_or Vs.Name.t.injEq List.getD_cons_zero List.getD_cons_succ in
theorem aKY (x:Stp) (hz:x.text.size<=1048576) (o:Off) (w:Nat) (L:okO w o):Fz F.xV [.agg (cO o),.agg (cS x)] (.tup [dsV x o,.v (.int .i64 (dsC x o))]):=by
 have O:=iZ L;have Z:=kU o O;have NO:=aIT o O;have I:=aCT x (wO o.trays:Int) hz;rw[wO_in L,Bool.true_and] at I;have hk:=L.2.1;have hj:=L.2.2.2.1;cases hv:mE x (wO o.trays)
 .rw[hv] at I;rw[show dsC x o=2 by unfold dsC;rw[hv];rfl,show dsV x o=noO by unfold dsV dsC;rw[hv];rfl];refine fn0 Cd.i_doStep_k λX=>?_
  repeat' first|simp -dsimp only[go_sem,noO,cO,cS]|apply Br.mk<;>intro h<;>try simp -dsimp only[h]|refine aD.c (by first|exact I|exact Z) ?_|refine aC ?_|fail
  all_goals first|omega|exact⟨_,_,rfl,rfl⟩
 rw[hv] at I;have H:=pX L hv;have ma:=dA H.a;have mb:=dA H.b;have ga:=dS H.a;have gb:=dS H.b;have a0:=H.a.1;have a1:=H.a.2;have gt:=dS H.to;have t0:=H.to.1;have t1:=H.to.2;have he:(E cD o.trays).length=o.trays.length:=aI _;have hf:(E cTs o.totals).length=o.totals.length:=aI _;have hc:(E cD o.trays).take o.trays.length=E cD o.trays:=List.take_of_length_le (by omega);have hd:(E cTs o.totals).take o.totals.length=E cTs o.totals:=List.take_of_length_le (by omega);by_cases U:x.kind=7
 .have e7:(x.kind==7)=true:=beq_iff_eq.2 U;rw[show dsV x o=if dsC x o=0 then .agg (cO (stO x o)) else noO from rfl,aNB hv U,aJO U];by_cases ha:20<=o.totals.length
  .have J:((o.totals.length:Int)==20)=true:=beq_iff_eq.2 (by omega);rw[if_pos ha];rw[if_neg (by decide)];refine fn0 Cd.i_doStep_k λX=>?_
   repeat' first|simp -dsimp only[go_sem,e7,J,noO,cO,cS]|apply Br.mk<;>intro h<;>try simp -dsimp only[h]|refine aD.own (by first|exact NO) rfl ?_|refine aD.c (by first|exact I|exact Z) ?_|refine aC ?_|fail
   all_goals first|omega|exact⟨_,_,rfl,rfl⟩
  .have J:((o.totals.length:Int)==20)=false:=beq_eq_false_iff_ne.2 (by omega);rw[if_neg ha];have da:=L.2.2.1 _ ma;have TO:=aJu (tr o.trays x.a) x.f0 x.f1 x.s0 x.s1 (eF da.1 (x8 (pV L ma) H.f)) (aGR da.1 (aCF (pV L ma) (H.n U))) (fT L.1.2 da).1;cases hb:nG x.f0 x.f1 x.s0 x.s1 (tr o.trays x.a)
   .rw[aEo hb,hb] at TO;simp only[Bool.false_eq_true,if_false] at TO;rw[if_neg (by decide),if_neg (by decide)];refine fn0 Cd.i_doStep_k λX=>?_
    repeat' first|simp -dsimp only[go_sem,e7,J,noO,ga,cO,cS]|apply Br.mk<;>intro h<;>try simp -dsimp only[h]|refine aD.own (by first|exact NO) rfl ?_|refine aD.c (by first|exact I|exact Z|exact TO) ?_|refine aC ?_|fail
    all_goals first|omega|exact⟨_,_,rfl,rfl⟩
   .rw[aEn hb,hb] at TO;simp only[if_true] at TO;rw[if_pos rfl,if_pos rfl];have hg:=aLj o.totals (oH x.f0 x.f1 x.s0 x.s1 (tr o.trays x.a));have Y:(E cTs (o.totals++[oH x.f0 x.f1 x.s0 x.s1 (tr o.trays x.a)])).take (o.totals.length+1)=E cTs (o.totals++[oH x.f0 x.f1 x.s0 x.s1 (tr o.trays x.a)]):=List.take_of_length_le (by rw[aI,List.length_append];exact Nat.le_refl _);refine fn0 Cd.i_doStep_k λX=>?_
    repeat' first|simp -dsimp only[go_sem,e7,J,ga,he,hf,hg,hc,hd,Y,cO,cS]|apply Br.mk<;>intro h<;>try simp -dsimp only[h]|refine aD.own (by first|exact NO) rfl ?_|refine aD.c (by first|exact I|exact Z|exact TO) ?_|refine aC ?_|fail
    all_goals first|omega|exact⟨_,_,rfl,rfl⟩
 .have e7:(x.kind==7)=false:=beq_eq_false_iff_ne.2 U;rw[show dsV x o=if dsC x o=0 then .agg (cO (stO x o)) else noO from rfl,ds_dk hv U,aMD U];have DK:=aFW x hz o.trays O.1.2 O.1.1 H.a H.b o.totals;by_cases h0:dkC x (tr o.trays x.a) (tr o.trays x.b)=0
  .rw[aHh h0] at DK;rw[h0] at DK⊢;rw[if_pos rfl];generalize dkL x (tr o.trays x.a) (tr o.trays x.b)=D at *
   have hh:=aHu o.trays x.to.toNat D;have Y:(E cD (o.trays.set x.to.toNat D)).take o.trays.length=E cD (o.trays.set x.to.toNat D):=List.take_of_length_le (by rw[aI,List.length_set];exact Nat.le_refl _);refine fn0 Cd.i_doStep_k λX=>?_
   repeat' first|simp -dsimp only[go_sem,e7,gt,he,hf,hh,hc,hd,Y,cO,cS]|apply Br.mk<;>intro h<;>try simp -dsimp only[h]|refine aD.own (by first|exact NO) rfl ?_|refine aD.c (by first|exact I|exact Z|exact DK) ?_|refine aC ?_|fail
   all_goals first|omega|exact⟨_,_,rfl,rfl⟩
  .rw[aHi h0] at DK;rw[if_neg h0];have e0:(dkC x (tr o.trays x.a) (tr o.trays x.b) != 0)=true:=by simp[h0]
   generalize dkC x (tr o.trays x.a) (tr o.trays x.b)=c at *
   refine fn0 Cd.i_doStep_k λX=>?_
   repeat' first|simp -dsimp only[go_sem,e7,e0,noO,cO,cS]|apply Br.mk<;>intro h<;>try simp -dsimp only[h]|refine aD.own (by first|exact NO) rfl ?_|refine aD.c (by first|exact I|exact Z|exact DK) ?_|refine aC ?_|fail
   all_goals first|omega|exact⟨_,_,rfl,rfl⟩
end
section
variable [Vs.Envs]
attribute [local irreducible] Vs.Fn aY mgC kS mtC gQ flt iH uI mat chOK areCh chTo chAt l03 chB rk cd3 chI stp stpTo
attribute [local go_sem] Int.reduceBEq Int.reduceBNe cO cFd aI List.replicate_succ List.replicate_zero List.flatten_cons List.flatten_nil List.cons_append List.nil_append List.set_cons_zero List.set_cons_succ List.length_cons List.length_nil List.length_set List.mem_singleton List.mem_cons List.not_mem_nil or_false false_or Vs.Name.t.injEq Vs.Name.b.injEq List.getD_cons_zero List.getD_cons_succ in
theorem aFK (x:Stp) (hz:x.text.size<=1048576) (T:List (List (List Int))) (hs:∀d,d∈T->bJ d) (hl:T.length<=1048576) (iA:0<=x.a∧x.a<(T.length:Int)) (iB:0<=x.b∧x.b<(T.length:Int)):Vs.Fn Tryz.prog F.bR [.var [.loc (.b 1) 0 T.length,.v (.slice none 0 0)] false,.arr 1 (E cD T) false] [.ptr (.b 0) 0 0,.ro (cS x)] (.tup [dkV x (tr T x.a) (tr T x.b),.v (.int .i64 (dkC x (tr T x.a) (tr T x.b)))]) ([.var [.loc (.b 1) 0 T.length,.v (.slice none 0 0)] false,.arr 1 (E cD T) false].map some):=by
 have sa:=hs _ (dA iA);have sb:=hs _ (dA iB);have gA:=dS iA;have U:=dS iB;have a0:=iA.1;have a1:=iA.2;have b0:=iB.1;have b1:=iB.2;by_cases Y:x.kind=1
 .have J:=zG (tr T x.a) x.f0 x.f1 sa.2 sa.1;have I:dkC x (tr T x.a) (tr T x.b)=aY x.f0 x.f1 (tr T x.a):=by simp[dkC,Y]
  have hL:dkL x (tr T x.a) (tr T x.b)=gQ x.f0 x.f1 (tr T x.a):=by simp[dkL,Y]
  have L:dkV x (tr T x.a) (tr T x.b)=pY x.f0 x.f1 (tr T x.a):=by unfold dkV pY;rw[I,hL]
  have H:pY x.f0 x.f1 (tr T x.a)=.sl 1 (E cC (gQ x.f0 x.f1 (tr T x.a)))∨pY x.f0 x.f1 (tr T x.a)=.v (.slice none 0 0):=by unfold pY;split<;>simp
  rw[L,I];generalize aY x.f0 x.f1 (tr T x.a)=c at *
  rcases H with H|H<;>rw[H] at J⊢
  all_goals
   refine fn1 Cd.s_l15Make_k [.b 0,.b 1] [.var [.loc (.b 1) 0 T.length,.v (.slice none 0 0)] false,.arr 1 (E cD T) false] λX=>?_;unfold Cd.bR
   repeat' first|simp -dsimp only[go_sem,Y,gA,U,cS]|apply Br.mk<;>intro h<;>try simp -dsimp only[h]|refine aD.c (by first|exact J) ?_|refine aC ?_|fail
   all_goals first|omega|exact⟨_,_,rfl,rfl⟩
 by_cases h2:x.kind=2
 .have J:=wS (tr T x.a) (tr T x.b) x.f0 x.f1 sa sb;have I:dkC x (tr T x.a) (tr T x.b)=mgC x.f0 x.f1 (tr T x.a) (tr T x.b):=by simp[dkC,h2]
  have hL:dkL x (tr T x.a) (tr T x.b)=gQ x.f0 x.f1 (tr T x.a++tr T x.b):=by simp[dkL,h2]
  have L:dkV x (tr T x.a) (tr T x.b)=mgV x.f0 x.f1 (tr T x.a) (tr T x.b):=by unfold dkV mgV;rw[I,hL]
  have H:mgV x.f0 x.f1 (tr T x.a) (tr T x.b)=.sl 1 (E cC (gQ x.f0 x.f1 (tr T x.a++tr T x.b)))∨mgV x.f0 x.f1 (tr T x.a) (tr T x.b)=.v (.slice none 0 0):=by unfold mgV;split<;>simp
  rw[L,I];generalize mgC x.f0 x.f1 (tr T x.a) (tr T x.b)=c at *
  rcases H with H|H<;>rw[H] at J⊢
  all_goals
   refine fn1 Cd.s_l15Make_k [.b 0,.b 1] [.var [.loc (.b 1) 0 T.length,.v (.slice none 0 0)] false,.arr 1 (E cD T) false] λX=>?_;unfold Cd.bR
   repeat' first|simp -dsimp only[go_sem,h2,gA,U,cS]|apply Br.mk<;>intro h<;>try simp -dsimp only[h]|refine aD.c (by first|exact J) ?_|refine aC ?_|fail
   all_goals first|omega|exact⟨_,_,rfl,rfl⟩
 by_cases Z:x.kind=5
 .have J:=uN (tr T x.a) x.f0 x.f1 x.text sa hz;have I:dkC x (tr T x.a) (tr T x.b)=kS x.f0 x.f1 x.text (tr T x.a):=by simp[dkC,Z]
  have hL:dkL x (tr T x.a) (tr T x.b)=flt (iH x.f0 x.f1 x.text) (tr T x.a):=by simp[dkL,Z]
  have L:dkV x (tr T x.a) (tr T x.b)=mF x.f0 x.f1 x.text (tr T x.a):=by unfold dkV mF;rw[I,hL]
  have H:mF x.f0 x.f1 x.text (tr T x.a)=.sl 1 (E cC (flt (iH x.f0 x.f1 x.text) (tr T x.a)))∨mF x.f0 x.f1 x.text (tr T x.a)=.v (.slice none 0 0):=by unfold mF;split<;>simp
  rw[L,I];generalize kS x.f0 x.f1 x.text (tr T x.a)=c at *
  rcases H with H|H<;>rw[H] at J⊢
  all_goals
   refine fn1 Cd.s_l15Make_k [.b 0,.b 1] [.var [.loc (.b 1) 0 T.length,.v (.slice none 0 0)] false,.arr 1 (E cD T) false] λX=>?_;unfold Cd.bR
   repeat' first|simp -dsimp only[go_sem,Z,gA,U,cS]|apply Br.mk<;>intro h<;>try simp -dsimp only[h]|refine aD.c (by first|exact J) ?_|refine aC ?_|fail
   all_goals first|omega|exact⟨_,_,rfl,rfl⟩
 by_cases h6:x.kind=6
 .have J:=rE (tr T x.a) x.f0 x.f1 sa;have I:dkC x (tr T x.a) (tr T x.b)=aY x.f0 x.f1 (tr T x.a):=by simp[dkC,h6]
  have hL:dkL x (tr T x.a) (tr T x.b)=uI x.f0 x.f1 (tr T x.a):=by simp[dkL,h6]
  have L:dkV x (tr T x.a) (tr T x.b)=qC x.f0 x.f1 (tr T x.a):=by unfold dkV qC;rw[I,hL]
  have H:qC x.f0 x.f1 (tr T x.a)=.sl 1 (E cC (uI x.f0 x.f1 (tr T x.a)))∨qC x.f0 x.f1 (tr T x.a)=.v (.slice none 0 0):=by unfold qC;split<;>simp
  rw[L,I];generalize aY x.f0 x.f1 (tr T x.a)=c at *
  rcases H with H|H<;>rw[H] at J⊢
  all_goals
   refine fn1 Cd.s_l15Make_k [.b 0,.b 1] [.var [.loc (.b 1) 0 T.length,.v (.slice none 0 0)] false,.arr 1 (E cD T) false] λX=>?_;unfold Cd.bR
   repeat' first|simp -dsimp only[go_sem,h6,gA,U,cS]|apply Br.mk<;>intro h<;>try simp -dsimp only[h]|refine aD.c (by first|exact J) ?_|refine aC ?_|fail
   all_goals first|omega|exact⟨_,_,rfl,rfl⟩
 have I:dkC x (tr T x.a) (tr T x.b)=mtC x.f0 x.f1 (tr T x.a) (tr T x.b):=by simp[dkC,Y,h2,Z,h6]
 have e1:(x.kind==1)=false:=beq_eq_false_iff_ne.2 Y;have e2:(x.kind==2)=false:=beq_eq_false_iff_ne.2 h2;have e5:(x.kind==5)=false:=beq_eq_false_iff_ne.2 Z;have e6:(x.kind==6)=false:=beq_eq_false_iff_ne.2 h6;have J:=wT (tr T x.a) (tr T x.b) x.f0 x.f1 sa sb;by_cases O:mtC x.f0 x.f1 (tr T x.a) (tr T x.b)=0
 .rw[show mtV x.f0 x.f1 (tr T x.a) (tr T x.b)=.sl 1 (E cD (mtL x.f0 x.f1 (tr T x.a) (tr T x.b))) by simp[mtV,O],O] at J;have ha:(mtL x.f0 x.f1 (tr T x.a) (tr T x.b)).length=4:=rfl;have m0:(E cD (mtL x.f0 x.f1 (tr T x.a) (tr T x.b))).getD 0 []=[.sl 1 (E cC (mat x.f0 x.f1 (tr T x.a) (tr T x.b) true))]:=rfl;have m2:(E cD (mtL x.f0 x.f1 (tr T x.a) (tr T x.b))).getD 2 []=[.sl 1 (E cC (mat x.f0 x.f1 (tr T x.a) (tr T x.b) false))]:=rfl;generalize mtL x.f0 x.f1 (tr T x.a) (tr T x.b)=ML at *
  by_cases h3:x.kind=3
  .have e3:(x.kind==3)=true:=beq_iff_eq.2 h3;have L:dkV x (tr T x.a) (tr T x.b)=.sl 1 (E cC (mat x.f0 x.f1 (tr T x.a) (tr T x.b) true)):=by unfold dkV;rw[I,O];simp[dkL,Y,h2,Z,h6,h3]
   rw[L,I,O];refine fn1 Cd.s_l15Make_k [.b 0,.b 1] [.var [.loc (.b 1) 0 T.length,.v (.slice none 0 0)] false,.arr 1 (E cD T) false] λX=>?_;unfold Cd.bR
   repeat' first|simp -dsimp only[go_sem,e1,e2,e5,e6,e3,gA,U,m0,m2,ha,cS]|apply Br.mk<;>intro h<;>try simp -dsimp only[h]|refine aD.c (by first|exact J) ?_|refine aC ?_|fail
   all_goals first|omega|exact⟨_,_,rfl,rfl⟩
  .have e3:(x.kind==3)=false:=beq_eq_false_iff_ne.2 h3;have L:dkV x (tr T x.a) (tr T x.b)=.sl 1 (E cC (mat x.f0 x.f1 (tr T x.a) (tr T x.b) false)):=by unfold dkV;rw[I,O];simp[dkL,Y,h2,Z,h6,h3]
   rw[L,I,O];refine fn1 Cd.s_l15Make_k [.b 0,.b 1] [.var [.loc (.b 1) 0 T.length,.v (.slice none 0 0)] false,.arr 1 (E cD T) false] λX=>?_;unfold Cd.bR
   repeat' first|simp -dsimp only[go_sem,e1,e2,e5,e6,e3,gA,U,m0,m2,ha,cS]|apply Br.mk<;>intro h<;>try simp -dsimp only[h]|refine aD.c (by first|exact J) ?_|refine aC ?_|fail
   all_goals first|omega|exact⟨_,_,rfl,rfl⟩
 .have e0:(mtC x.f0 x.f1 (tr T x.a) (tr T x.b) != 0)=true:=by simp[O]
  rw[show mtV x.f0 x.f1 (tr T x.a) (tr T x.b)=.v (.slice none 0 0) by simp[mtV,O]] at J;have L:dkV x (tr T x.a) (tr T x.b)=.v (.slice none 0 0):=by unfold dkV;rw[I,if_neg O]
  rw[L,I];generalize mtC x.f0 x.f1 (tr T x.a) (tr T x.b)=c at *
  refine fn1 Cd.s_l15Make_k [.b 0,.b 1] [.var [.loc (.b 1) 0 T.length,.v (.slice none 0 0)] false,.arr 1 (E cD T) false] λX=>?_;unfold Cd.bR
  repeat' first|simp -dsimp only[go_sem,e1,e2,e5,e6,e0,gA,U,cS]|apply Br.mk<;>intro h<;>try simp -dsimp only[h]|refine aD.c (by first|exact J) ?_|refine aC ?_|fail
  all_goals first|omega|exact⟨_,_,rfl,rfl⟩
attribute [local go_sem] Int.reduceBEq Int.reduceBNe cO cFd aI List.replicate_succ List.replicate_zero List.flatten_cons List.flatten_nil List.cons_append List.nil_append List.set_cons_zero List.set_cons_succ List.length_cons List.length_nil List.length_set List.mem_singleton List.mem_cons List.not_mem_nil or_false false_or Vs.Name.t.injEq Vs.Name.b.injEq List.getD_cons_zero List.getD_cons_succ in
theorem aFL (x:Stp) (hz:x.text.size<=1048576) (T:List (List (List Int))) (hs:∀d,d∈T->bJ d) (hl:T.length<=1048576) (iA:0<=x.a∧x.a<(T.length:Int)) (iB:0<=x.b∧x.b<(T.length:Int)) (I:List (List Tot)):Vs.Fn Tryz.prog F.bR [.var [.loc (.b 1) 0 T.length,.loc (.b 2) 0 I.length] false,.arr 1 (E cD T) false,.arr 1 (E cTs I) false] [.ptr (.b 0) 0 0,.ro (cS x)] (.tup [dkV x (tr T x.a) (tr T x.b),.v (.int .i64 (dkC x (tr T x.a) (tr T x.b)))]) ([.var [.loc (.b 1) 0 T.length,.loc (.b 2) 0 I.length] false,.arr 1 (E cD T) false,.arr 1 (E cTs I) false].map some):=by
 have sa:=hs _ (dA iA);have sb:=hs _ (dA iB);have gA:=dS iA;have Y:=dS iB;have a0:=iA.1;have a1:=iA.2;have b0:=iB.1;have b1:=iB.2;by_cases Z:x.kind=1
 .have L:=zG (tr T x.a) x.f0 x.f1 sa.2 sa.1;have J:dkC x (tr T x.a) (tr T x.b)=aY x.f0 x.f1 (tr T x.a):=by simp[dkC,Z]
  have hL:dkL x (tr T x.a) (tr T x.b)=gQ x.f0 x.f1 (tr T x.a):=by simp[dkL,Z]
  have O:dkV x (tr T x.a) (tr T x.b)=pY x.f0 x.f1 (tr T x.a):=by unfold dkV pY;rw[J,hL]
  have H:pY x.f0 x.f1 (tr T x.a)=.sl 1 (E cC (gQ x.f0 x.f1 (tr T x.a)))∨pY x.f0 x.f1 (tr T x.a)=.v (.slice none 0 0):=by unfold pY;split<;>simp
  rw[O,J];generalize aY x.f0 x.f1 (tr T x.a)=c at *
  rcases H with H|H<;>rw[H] at L⊢
  all_goals
   refine fn1 Cd.s_l15Make_k [.b 0,.b 1,.b 2] [.var [.loc (.b 1) 0 T.length,.loc (.b 2) 0 I.length] false,.arr 1 (E cD T) false,.arr 1 (E cTs I) false] λX=>?_;unfold Cd.bR
   repeat' first|simp -dsimp only[go_sem,Z,gA,Y,cS]|apply Br.mk<;>intro h<;>try simp -dsimp only[h]|refine aD.c (by first|exact L) ?_|refine aC ?_|fail
   all_goals first|omega|exact⟨_,_,rfl,rfl⟩
 by_cases h2:x.kind=2
 .have L:=wS (tr T x.a) (tr T x.b) x.f0 x.f1 sa sb;have J:dkC x (tr T x.a) (tr T x.b)=mgC x.f0 x.f1 (tr T x.a) (tr T x.b):=by simp[dkC,h2]
  have hL:dkL x (tr T x.a) (tr T x.b)=gQ x.f0 x.f1 (tr T x.a++tr T x.b):=by simp[dkL,h2]
  have O:dkV x (tr T x.a) (tr T x.b)=mgV x.f0 x.f1 (tr T x.a) (tr T x.b):=by unfold dkV mgV;rw[J,hL]
  have H:mgV x.f0 x.f1 (tr T x.a) (tr T x.b)=.sl 1 (E cC (gQ x.f0 x.f1 (tr T x.a++tr T x.b)))∨mgV x.f0 x.f1 (tr T x.a) (tr T x.b)=.v (.slice none 0 0):=by unfold mgV;split<;>simp
  rw[O,J];generalize mgC x.f0 x.f1 (tr T x.a) (tr T x.b)=c at *
  rcases H with H|H<;>rw[H] at L⊢
  all_goals
   refine fn1 Cd.s_l15Make_k [.b 0,.b 1,.b 2] [.var [.loc (.b 1) 0 T.length,.loc (.b 2) 0 I.length] false,.arr 1 (E cD T) false,.arr 1 (E cTs I) false] λX=>?_;unfold Cd.bR
   repeat' first|simp -dsimp only[go_sem,h2,gA,Y,cS]|apply Br.mk<;>intro h<;>try simp -dsimp only[h]|refine aD.c (by first|exact L) ?_|refine aC ?_|fail
   all_goals first|omega|exact⟨_,_,rfl,rfl⟩
 by_cases h5:x.kind=5
 .have L:=uN (tr T x.a) x.f0 x.f1 x.text sa hz;have J:dkC x (tr T x.a) (tr T x.b)=kS x.f0 x.f1 x.text (tr T x.a):=by simp[dkC,h5]
  have hL:dkL x (tr T x.a) (tr T x.b)=flt (iH x.f0 x.f1 x.text) (tr T x.a):=by simp[dkL,h5]
  have O:dkV x (tr T x.a) (tr T x.b)=mF x.f0 x.f1 x.text (tr T x.a):=by unfold dkV mF;rw[J,hL]
  have H:mF x.f0 x.f1 x.text (tr T x.a)=.sl 1 (E cC (flt (iH x.f0 x.f1 x.text) (tr T x.a)))∨mF x.f0 x.f1 x.text (tr T x.a)=.v (.slice none 0 0):=by unfold mF;split<;>simp
  rw[O,J];generalize kS x.f0 x.f1 x.text (tr T x.a)=c at *
  rcases H with H|H<;>rw[H] at L⊢
  all_goals
   refine fn1 Cd.s_l15Make_k [.b 0,.b 1,.b 2] [.var [.loc (.b 1) 0 T.length,.loc (.b 2) 0 I.length] false,.arr 1 (E cD T) false,.arr 1 (E cTs I) false] λX=>?_;unfold Cd.bR
   repeat' first|simp -dsimp only[go_sem,h5,gA,Y,cS]|apply Br.mk<;>intro h<;>try simp -dsimp only[h]|refine aD.c (by first|exact L) ?_|refine aC ?_|fail
   all_goals first|omega|exact⟨_,_,rfl,rfl⟩
 by_cases h6:x.kind=6
 .have L:=rE (tr T x.a) x.f0 x.f1 sa;have J:dkC x (tr T x.a) (tr T x.b)=aY x.f0 x.f1 (tr T x.a):=by simp[dkC,h6]
  have hL:dkL x (tr T x.a) (tr T x.b)=uI x.f0 x.f1 (tr T x.a):=by simp[dkL,h6]
  have O:dkV x (tr T x.a) (tr T x.b)=qC x.f0 x.f1 (tr T x.a):=by unfold dkV qC;rw[J,hL]
  have H:qC x.f0 x.f1 (tr T x.a)=.sl 1 (E cC (uI x.f0 x.f1 (tr T x.a)))∨qC x.f0 x.f1 (tr T x.a)=.v (.slice none 0 0):=by unfold qC;split<;>simp
  rw[O,J];generalize aY x.f0 x.f1 (tr T x.a)=c at *
  rcases H with H|H<;>rw[H] at L⊢
  all_goals
   refine fn1 Cd.s_l15Make_k [.b 0,.b 1,.b 2] [.var [.loc (.b 1) 0 T.length,.loc (.b 2) 0 I.length] false,.arr 1 (E cD T) false,.arr 1 (E cTs I) false] λX=>?_;unfold Cd.bR
   repeat' first|simp -dsimp only[go_sem,h6,gA,Y,cS]|apply Br.mk<;>intro h<;>try simp -dsimp only[h]|refine aD.c (by first|exact L) ?_|refine aC ?_|fail
   all_goals first|omega|exact⟨_,_,rfl,rfl⟩
 have J:dkC x (tr T x.a) (tr T x.b)=mtC x.f0 x.f1 (tr T x.a) (tr T x.b):=by simp[dkC,Z,h2,h5,h6]
 have e1:(x.kind==1)=false:=beq_eq_false_iff_ne.2 Z;have e2:(x.kind==2)=false:=beq_eq_false_iff_ne.2 h2;have e5:(x.kind==5)=false:=beq_eq_false_iff_ne.2 h5;have e6:(x.kind==6)=false:=beq_eq_false_iff_ne.2 h6;have L:=wT (tr T x.a) (tr T x.b) x.f0 x.f1 sa sb;by_cases U:mtC x.f0 x.f1 (tr T x.a) (tr T x.b)=0
 .rw[show mtV x.f0 x.f1 (tr T x.a) (tr T x.b)=.sl 1 (E cD (mtL x.f0 x.f1 (tr T x.a) (tr T x.b))) by simp[mtV,U],U] at L;have ha:(mtL x.f0 x.f1 (tr T x.a) (tr T x.b)).length=4:=rfl;have m0:(E cD (mtL x.f0 x.f1 (tr T x.a) (tr T x.b))).getD 0 []=[.sl 1 (E cC (mat x.f0 x.f1 (tr T x.a) (tr T x.b) true))]:=rfl;have m2:(E cD (mtL x.f0 x.f1 (tr T x.a) (tr T x.b))).getD 2 []=[.sl 1 (E cC (mat x.f0 x.f1 (tr T x.a) (tr T x.b) false))]:=rfl;generalize mtL x.f0 x.f1 (tr T x.a) (tr T x.b)=ML at *
  by_cases h3:x.kind=3
  .have e3:(x.kind==3)=true:=beq_iff_eq.2 h3;have O:dkV x (tr T x.a) (tr T x.b)=.sl 1 (E cC (mat x.f0 x.f1 (tr T x.a) (tr T x.b) true)):=by unfold dkV;rw[J,U];simp[dkL,Z,h2,h5,h6,h3]
   rw[O,J,U];refine fn1 Cd.s_l15Make_k [.b 0,.b 1,.b 2] [.var [.loc (.b 1) 0 T.length,.loc (.b 2) 0 I.length] false,.arr 1 (E cD T) false,.arr 1 (E cTs I) false] λX=>?_;unfold Cd.bR
   repeat' first|simp -dsimp only[go_sem,e1,e2,e5,e6,e3,gA,Y,m0,m2,ha,cS]|apply Br.mk<;>intro h<;>try simp -dsimp only[h]|refine aD.c (by first|exact L) ?_|refine aC ?_|fail
   all_goals first|omega|exact⟨_,_,rfl,rfl⟩
  .have e3:(x.kind==3)=false:=beq_eq_false_iff_ne.2 h3;have O:dkV x (tr T x.a) (tr T x.b)=.sl 1 (E cC (mat x.f0 x.f1 (tr T x.a) (tr T x.b) false)):=by unfold dkV;rw[J,U];simp[dkL,Z,h2,h5,h6,h3]
   rw[O,J,U];refine fn1 Cd.s_l15Make_k [.b 0,.b 1,.b 2] [.var [.loc (.b 1) 0 T.length,.loc (.b 2) 0 I.length] false,.arr 1 (E cD T) false,.arr 1 (E cTs I) false] λX=>?_;unfold Cd.bR
   repeat' first|simp -dsimp only[go_sem,e1,e2,e5,e6,e3,gA,Y,m0,m2,ha,cS]|apply Br.mk<;>intro h<;>try simp -dsimp only[h]|refine aD.c (by first|exact L) ?_|refine aC ?_|fail
   all_goals first|omega|exact⟨_,_,rfl,rfl⟩
 .have e0:(mtC x.f0 x.f1 (tr T x.a) (tr T x.b) != 0)=true:=by simp[U]
  rw[show mtV x.f0 x.f1 (tr T x.a) (tr T x.b)=.v (.slice none 0 0) by simp[mtV,U]] at L;have O:dkV x (tr T x.a) (tr T x.b)=.v (.slice none 0 0):=by unfold dkV;rw[J,if_neg U]
  rw[O,J];generalize mtC x.f0 x.f1 (tr T x.a) (tr T x.b)=c at *
  refine fn1 Cd.s_l15Make_k [.b 0,.b 1,.b 2] [.var [.loc (.b 1) 0 T.length,.loc (.b 2) 0 I.length] false,.arr 1 (E cD T) false,.arr 1 (E cTs I) false] λX=>?_;unfold Cd.bR
  repeat' first|simp -dsimp only[go_sem,e1,e2,e5,e6,e0,gA,Y,cS]|apply Br.mk<;>intro h<;>try simp -dsimp only[h]|refine aD.c (by first|exact L) ?_|refine aC ?_|fail
  all_goals first|omega|exact⟨_,_,rfl,rfl⟩
end
section
variable [Vs.Envs]
attribute [local irreducible] Vs.Fn chOK areCh chTo chAt l03 chB rk cd3 chI stp stpTo
theorem aNc {k:Nat}{S:Nat->Prop}{w:World}{v:Value} (h:RC S w (.v (.slice none 0 0)) v):RC S w (.sl k []) v:=by
 cases h;exact RC.sl k [] none 0 0 0 (λ_=>undef) (λh=>absurd rfl h) (λi j h=>by simp at h) (λi j h=>by simp at h) (λi j h=>by simp at h) (λi h=>by simp at h) ⟨Nat.le_refl _,by decide⟩
theorem aMe {P:Program}{f:FuncId}{hin:List Blk}{args args':List AV}{r:AV}{F:List (Option Blk)} (U:args.length=args'.length)
  (h:∀(S:Nat->Prop) (w:World) (j:Nat) (v:Value),j<args.length->(∀ρ κ I,RV S w ρ κ I (args.getD j .junk) v->RV S w ρ κ I (args'.getD j .junk) v)) (H:Vs.Fn P f hin args' r F):Vs.Fn P f hin args r F:=by
 unfold Vs.Fn at H⊢;exact⟨H.1,λS w ρ κ vs J h2 L O=>H.2 S w ρ κ vs J h2 (L.trans U) λj Y=>h S w j _ (by omega) ρ κ _ (O j (by omega))⟩
theorem aM4 {S:Nat->Prop}{w:World}{x:AV}{k:Nat}{v:Value}{ρ:Vs.Name->Option Nat}{κ:Vs.Name->Nat}{F:Vs.Name->Option Blk} (h:RV S w ρ κ F (.ro [x,.v (.slice none 0 0)]) v):RV S w ρ κ F (.ro [x,.sl k []]) v:=by
 have h:=wJ h;refine .clo ?_;generalize H:[x,AV.v (.slice none 0 0)]=c at h;cases h with
 | ro c y off xs hS h1 h2 h3 =>
  subst H;refine .ro _ y off xs hS h1 h2 λj I=>?_
  match j,I with
  |0,_=>exact h3 0 (by simp)
  |1,_=>exact aNc (h3 1 (by simp))
def gA (n:Vs.Name) (i:Nat):AV:=if i=0 then .v (.slice none 0 0) else .loc n 0 i
def gH (n:Vs.Name) (rows:List (List AV)) (i:Nat):List (Vs.Name×Blk):=if i=0 then[] else[(n,.arr 1 rows false)]
attribute [local go_sem] Int.reduceBEq Int.reduceBNe cC cTs aI List.replicate_succ List.replicate_zero List.flatten_cons List.flatten_nil List.cons_append List.nil_append List.set_cons_zero List.set_cons_succ List.length_cons List.length_nil List.length_set List.mem_singleton List.mem_cons List.not_mem_nil or_false false_or Vs.Name.t.injEq in
theorem aL4 (o:Off) (ho:dD o) (he:0<o.trays.length) (hc:o.totals.length=0):Vs.Fn Tryz.prog F.oN [] [.ro (cO o)] (.agg [.loc (.b 0) 0 o.trays.length,.v (.slice none 0 0)]) [some (.arr 1 (E cD o.trays) false)]:=by
 have hn:=ho.1.1;have hm:=ho.2.1;refine fn1 Cd.s_l15Own_k [.t 27 0] [.arr 1 (E cD o.trays) false] λX=>?_;unfold Cd.oN
 repeat' first|simp -dsimp only[go_sem,cO,cD]|apply Br.mk<;>intro h<;>try simp -dsimp only[h]|refine aC ?_|fail
 refine aN.at dM (X:={i:Nat // i<=o.trays.length}) (λi=>[(4,.v (.int .i64 (i.1:Nat)))]) (λi=>(.t 3 0,.var [gA (.t 27 0) i.1,.v (.slice none 0 0)] false)::gH (.t 27 0) (E cD (o.trays.take i.1)) i.1) (λi=>o.trays.length-i.1) ⟨0,by omega⟩ ?_ ?_
 .simp[Vs.LeL,Vs.look,Vs.aB,Vs.aR,Vs.aK,Vs.hset,Vs.aL,gA,gH]
 .rintro⟨i,hi⟩
  try dsimp only at hi
  by_cases L:i<o.trays.length
  .have O:decide ((i:Int)<(o.trays.length:Int))=true:=decide_eq_true (by omega);have hw:=aH L (by omega);have J:=aK9 L;have H:=aE2 L;have ha:(E cD (o.trays.take i)).length=i:=by rw[aI];simp;omega
   have Z:(o.trays.take i).length=i:=by simp;omega
   have CP:=aEN o.trays[i] (ho.1.2 _ (List.getElem_mem L));by_cases I:i=0
   .have U:gA (.t 27 0) i=.v (.slice none 0 0):=by simp[gA,I]
    have Y:gH (.t 27 0) (E cD (o.trays.take i)) i=[]:=by simp[gH,I]
    have hb:E cD (o.trays.take i)=[]:=by rw[I];rfl
    rw[hb,List.nil_append] at H;rw[U,Y];simp -dsimp only[go_sem,O,J,cO,cD]
    repeat' first|simp -dsimp only[go_sem,O,J,hw,H,cO,cD]|apply Br.mk<;>intro h<;>try simp -dsimp only[h]|refine aD.c (by first|exact CP) ?_|refine aC ?_|fail
    all_goals first|omega|(exact⟨⟨i+1,by omega⟩,by simp[Vs.LeL,Vs.look,Vs.aB,Vs.aR,Vs.aK,Vs.hset,Vs.aL,gA,gH,H,I],by simp only;omega⟩)
   .have U:gA (.t 27 0) i=.loc (.t 27 0) 0 i:=by simp[gA,I]
    have Y:gH (.t 27 0) (E cD (o.trays.take i)) i=[(.t 27 0,.arr 1 (E cD (o.trays.take i)) false)]:=by simp[gH,I]
    rw[U,Y];simp -dsimp only[go_sem,O,J,cO,cD]
    repeat' first|simp -dsimp only[go_sem,O,J,hw,H,ha,Z,cO,cD]|apply Br.mk<;>intro h<;>try simp -dsimp only[h]|refine aD.c (by first|exact CP) ?_|refine aC ?_|fail
    all_goals first|omega|(exact⟨⟨i+1,by omega⟩,by simp[Vs.LeL,Vs.look,Vs.aB,Vs.aR,Vs.aK,Vs.hset,Vs.aL,gA,gH,H,I],by simp only;omega⟩)
  .obtain rfl:i=o.trays.length:=by omega
   have O:decide ((o.trays.length:Int)<(o.trays.length:Int))=false:=by simp
   have U:gA (.t 27 0) o.trays.length=.loc (.t 27 0) 0 o.trays.length:=by unfold gA;rw[if_neg (by omega)]
   have Y:gH (.t 27 0) (E cD (o.trays.take o.trays.length)) o.trays.length=[(.t 27 0,.arr 1 (E cD (o.trays.take o.trays.length)) false)]:=by unfold gH;rw[if_neg (by omega)]
   rw[U,Y];simp -dsimp only[go_sem,O,cO,cD];refine And.intro ?_ (λh=>absurd rfl h);refine aN.at dM (X:={i:Nat // i<=o.totals.length}) (λi=>[(5,.v (.int .i64 (i.1:Nat)))]) (λi=>(.t 3 0,.var [.loc (.t 27 0) 0 o.trays.length,gA (.t 50 0) i.1] false)::gH (.t 50 0) (E cTs (o.totals.take i.1)) i.1) (λi=>o.totals.length-i.1) ⟨0,by omega⟩ ?_ ?_
   .simp[Vs.LeL,Vs.look,Vs.aB,Vs.aR,Vs.aK,Vs.hset,Vs.aL,gA,gH]
   .rintro⟨i,hi⟩
    try dsimp only at hi
    by_cases L:i<o.totals.length
    .have O:decide ((i:Int)<(o.totals.length:Int))=true:=decide_eq_true (by omega);have hw:=aH L (by omega);have J:=aHm L;have H:=aE1 L;have ha:(E cTs (o.totals.take i)).length=i:=by rw[aI];simp;omega
     have Z:(o.totals.take i).length=i:=by simp;omega
     have hs:=(ho.2.2 _ (List.getElem_mem L)).1;by_cases I:i=0
     .have U:gA (.t 50 0) i=.v (.slice none 0 0):=by simp[gA,I]
      have Y:gH (.t 50 0) (E cTs (o.totals.take i)) i=[]:=by simp[gH,I]
      have hb:E cTs (o.totals.take i)=[]:=by rw[I];rfl
      rw[hb,List.nil_append] at H;rw[U,Y];simp -dsimp only[go_sem,O,J,cO,cD]
      repeat' first|simp -dsimp only[go_sem,O,J,hw,H,cO,cD]|apply Br.mk<;>intro h<;>try simp -dsimp only[h]|refine aC ?_|fail
      all_goals first|omega|(exact⟨⟨i+1,by omega⟩,by simp[Vs.LeL,Vs.look,Vs.aB,Vs.aR,Vs.aK,Vs.hset,Vs.aL,gA,gH,H,I],by simp only;omega⟩)
     .have U:gA (.t 50 0) i=.loc (.t 50 0) 0 i:=by simp[gA,I]
      have Y:gH (.t 50 0) (E cTs (o.totals.take i)) i=[(.t 50 0,.arr 1 (E cTs (o.totals.take i)) false)]:=by simp[gH,I]
      rw[U,Y];simp -dsimp only[go_sem,O,J,cO,cD]
      repeat' first|simp -dsimp only[go_sem,O,J,hw,H,ha,Z,cO,cD]|apply Br.mk<;>intro h<;>try simp -dsimp only[h]|refine aC ?_|fail
      all_goals first|omega|(exact⟨⟨i+1,by omega⟩,by simp[Vs.LeL,Vs.look,Vs.aB,Vs.aR,Vs.aK,Vs.hset,Vs.aL,gA,gH,H,I],by simp only;omega⟩)
    .obtain rfl:i=o.totals.length:=by omega
     have O:decide ((o.totals.length:Int)<(o.totals.length:Int))=false:=by simp
     have hd:(E cD (o.trays.take o.trays.length))=E cD o.trays:=by rw[List.take_length]
     have U:gA (.t 50 0) o.totals.length=.v (.slice none 0 0):=by simp[gA,hc]
     have Y:gH (.t 50 0) (E cTs (o.totals.take o.totals.length)) o.totals.length=[]:=by simp[gH,hc]
     rw[U,Y]
     repeat' first|simp -dsimp only[go_sem,O,hd,cO,cD]|apply Br.mk<;>intro h<;>try simp -dsimp only[h]|refine And.intro ?_ (λh=>absurd rfl h)|refine aC ?_|fail
     all_goals first|omega|exact⟨_,_,rfl,rfl⟩|exact⟨⟨_,_,rfl,rfl⟩,λh=>h rfl⟩
attribute [local go_sem] Int.reduceBEq Int.reduceBNe cC aI List.replicate_succ List.replicate_zero List.flatten_cons List.flatten_nil List.cons_append List.nil_append List.set_cons_zero List.set_cons_succ List.length_cons List.length_nil List.length_set List.mem_singleton List.mem_cons List.not_mem_nil or_false false_or Vs.Name.t.injEq in
theorem aL3 (o:Off) (ho:dD o) (hf:0<o.trays.length) (he:0<o.totals.length):Vs.Fn Tryz.prog F.oN [] [.ro (cO o)] (.agg [.loc (.b 0) 0 o.trays.length,.loc (.b 1) 0 o.totals.length]) [some (.arr 1 (E cD o.trays) false),some (.arr 1 (E cTs o.totals) false)]:=by
 have hn:=ho.1.1;have hm:=ho.2.1;refine fn1 Cd.s_l15Own_k [.t 27 0,.t 50 0] [.arr 1 (E cD o.trays) false,.arr 1 (E cTs o.totals) false] λX=>?_;unfold Cd.oN
 repeat' first|simp -dsimp only[go_sem,cO,cTs,cD]|apply Br.mk<;>intro h<;>try simp -dsimp only[h]|refine aC ?_|fail
 refine aN.at dM (X:={i:Nat // i<=o.trays.length}) (λi=>[(4,.v (.int .i64 (i.1:Nat)))]) (λi=>(.t 3 0,.var [gA (.t 27 0) i.1,.v (.slice none 0 0)] false)::gH (.t 27 0) (E cD (o.trays.take i.1)) i.1) (λi=>o.trays.length-i.1) ⟨0,by omega⟩ ?_ ?_
 .simp[Vs.LeL,Vs.look,Vs.aB,Vs.aR,Vs.aK,Vs.hset,Vs.aL,gA,gH]
 .rintro⟨i,hi⟩
  try dsimp only at hi
  by_cases L:i<o.trays.length
  .have O:decide ((i:Int)<(o.trays.length:Int))=true:=decide_eq_true (by omega);have hw:=aH L (by omega);have J:=aK9 L;have H:=aE2 L;have ha:(E cD (o.trays.take i)).length=i:=by rw[aI];simp;omega
   have Z:(o.trays.take i).length=i:=by simp;omega
   have CP:=aEN o.trays[i] (ho.1.2 _ (List.getElem_mem L));by_cases I:i=0
   .have U:gA (.t 27 0) i=.v (.slice none 0 0):=by simp[gA,I]
    have Y:gH (.t 27 0) (E cD (o.trays.take i)) i=[]:=by simp[gH,I]
    have hb:E cD (o.trays.take i)=[]:=by rw[I];rfl
    rw[hb,List.nil_append] at H;rw[U,Y];simp -dsimp only[go_sem,O,J,cO,cTs,cD]
    repeat' first|simp -dsimp only[go_sem,O,J,hw,H,cO,cTs,cD]|apply Br.mk<;>intro h<;>try simp -dsimp only[h]|refine aD.c (by first|exact CP) ?_|refine aC ?_|fail
    all_goals first|omega|(exact⟨⟨i+1,by omega⟩,by simp[Vs.LeL,Vs.look,Vs.aB,Vs.aR,Vs.aK,Vs.hset,Vs.aL,gA,gH,H,I],by simp only;omega⟩)
   .have U:gA (.t 27 0) i=.loc (.t 27 0) 0 i:=by simp[gA,I]
    have Y:gH (.t 27 0) (E cD (o.trays.take i)) i=[(.t 27 0,.arr 1 (E cD (o.trays.take i)) false)]:=by simp[gH,I]
    rw[U,Y];simp -dsimp only[go_sem,O,J,cO,cTs,cD]
    repeat' first|simp -dsimp only[go_sem,O,J,hw,H,ha,Z,cO,cTs,cD]|apply Br.mk<;>intro h<;>try simp -dsimp only[h]|refine aD.c (by first|exact CP) ?_|refine aC ?_|fail
    all_goals first|omega|(exact⟨⟨i+1,by omega⟩,by simp[Vs.LeL,Vs.look,Vs.aB,Vs.aR,Vs.aK,Vs.hset,Vs.aL,gA,gH,H,I],by simp only;omega⟩)
  .obtain rfl:i=o.trays.length:=by omega
   have O:decide ((o.trays.length:Int)<(o.trays.length:Int))=false:=by simp
   have U:gA (.t 27 0) o.trays.length=.loc (.t 27 0) 0 o.trays.length:=by unfold gA;rw[if_neg (by omega)]
   have Y:gH (.t 27 0) (E cD (o.trays.take o.trays.length)) o.trays.length=[(.t 27 0,.arr 1 (E cD (o.trays.take o.trays.length)) false)]:=by unfold gH;rw[if_neg (by omega)]
   rw[U,Y];simp -dsimp only[go_sem,O,cO,cTs,cD];refine And.intro ?_ (λh=>absurd rfl h);refine aN.at dM (X:={i:Nat // i<=o.totals.length}) (λi=>[(5,.v (.int .i64 (i.1:Nat)))]) (λi=>(.t 3 0,.var [.loc (.t 27 0) 0 o.trays.length,gA (.t 50 0) i.1] false)::gH (.t 50 0) (E cTs (o.totals.take i.1)) i.1) (λi=>o.totals.length-i.1) ⟨0,by omega⟩ ?_ ?_
   .simp[Vs.LeL,Vs.look,Vs.aB,Vs.aR,Vs.aK,Vs.hset,Vs.aL,gA,gH]
   .rintro⟨i,hi⟩
    try dsimp only at hi
    by_cases L:i<o.totals.length
    .have O:decide ((i:Int)<(o.totals.length:Int))=true:=decide_eq_true (by omega);have hw:=aH L (by omega);have J:=aHm L;have H:=aE1 L;have ha:(E cTs (o.totals.take i)).length=i:=by rw[aI];simp;omega
     have Z:(o.totals.take i).length=i:=by simp;omega
     have hs:=(ho.2.2 _ (List.getElem_mem L)).1;by_cases I:i=0
     .have U:gA (.t 50 0) i=.v (.slice none 0 0):=by simp[gA,I]
      have Y:gH (.t 50 0) (E cTs (o.totals.take i)) i=[]:=by simp[gH,I]
      have hb:E cTs (o.totals.take i)=[]:=by rw[I];rfl
      rw[hb,List.nil_append] at H;rw[U,Y];simp -dsimp only[go_sem,O,J,cO,cTs,cD]
      repeat' first|simp -dsimp only[go_sem,O,J,hw,H,cO,cTs,cD]|apply Br.mk<;>intro h<;>try simp -dsimp only[h]|refine aC ?_|fail
      all_goals first|omega|(exact⟨⟨i+1,by omega⟩,by simp[Vs.LeL,Vs.look,Vs.aB,Vs.aR,Vs.aK,Vs.hset,Vs.aL,gA,gH,H,I],by simp only;omega⟩)
     .have U:gA (.t 50 0) i=.loc (.t 50 0) 0 i:=by simp[gA,I]
      have Y:gH (.t 50 0) (E cTs (o.totals.take i)) i=[(.t 50 0,.arr 1 (E cTs (o.totals.take i)) false)]:=by simp[gH,I]
      rw[U,Y];simp -dsimp only[go_sem,O,J,cO,cTs,cD]
      repeat' first|simp -dsimp only[go_sem,O,J,hw,H,ha,Z,cO,cTs,cD]|apply Br.mk<;>intro h<;>try simp -dsimp only[h]|refine aC ?_|fail
      all_goals first|omega|(exact⟨⟨i+1,by omega⟩,by simp[Vs.LeL,Vs.look,Vs.aB,Vs.aR,Vs.aK,Vs.hset,Vs.aL,gA,gH,H,I],by simp only;omega⟩)
    .obtain rfl:i=o.totals.length:=by omega
     have O:decide ((o.totals.length:Int)<(o.totals.length:Int))=false:=by simp
     have hc:(E cD (o.trays.take o.trays.length))=E cD o.trays:=by rw[List.take_length]
     have hd:(E cTs (o.totals.take o.totals.length))=E cTs o.totals:=by rw[List.take_length]
     have U:gA (.t 50 0) o.totals.length=.loc (.t 50 0) 0 o.totals.length:=by unfold gA;rw[if_neg (by omega)]
     have Y:gH (.t 50 0) (E cTs (o.totals.take o.totals.length)) o.totals.length=[(.t 50 0,.arr 1 (E cTs (o.totals.take o.totals.length)) false)]:=by unfold gH;rw[if_neg (by omega)]
     rw[U,Y]
     repeat' first|simp -dsimp only[go_sem,O,hc,hd,cO,cTs,cD]|apply Br.mk<;>intro h<;>try simp -dsimp only[h]|refine And.intro ?_ (λh=>absurd rfl h)|refine aC ?_|fail
     all_goals first|omega|exact⟨_,_,rfl,rfl⟩|exact⟨⟨_,_,rfl,rfl⟩,λh=>h rfl⟩
end
section
variable [Vs.Envs]
attribute [local irreducible] Vs.Fn aY mgC kS mtC gQ uI mat z8 dkC dkL nG oH mE wO chOK areCh chTo chAt l03 chB rk cd3 chI stp stpTo
open Go.Vs.Q in
def CdV.l15Do:aF:=s [mi 4 0] [0,1]<|.seq (s [m 9 1,nc 10 9,fa 11 0 10,lf 12 1 11,en 13 12 7] [0,1,13]<|.cond 13 (.seq (s [m 14 0,nc 15 14,fa 16 1 15,lf 17 1 16,ln 18 17,o 19 (.bin .geq 18 (k 20))] [0,1,19]<|.cond 19 (s [mi 4 5] [4]<|.ret) .skip)<|r [m 21 0,nc 22 21,fa 23 0 22,lf 24 1 23,m 25 1,nc 26 25,fa 27 1 26,lf
 28 1 27,ix 29 1 24 28,lf 30 1 29,m 31 1,nc 32 31,fa 33 4 32,lt 34 2 33,m 35 1,nc 36 35,fa 37 6 36,lt 38 2 37,c 39 F.uR [30,34,38],m 20 39,ex 40 20 0,ex 41 20 1,m 5 40,m 6 41] [0,5,6] [21,23,24,22,25,26,27,28,29,30,31,32,33,34,35,36,37,38,39,20,40,41,5]<|.seq (s [m 42 6,en 43 42 0]
 [0,5,6,43]<|.cond 43 (.region [m 44 0,m 45 0,nc 46 45,fa 47 1 46,lf 48 1 47,m 49 5,o 50 (.bslice 1 1 [.v (.slice none 0 0)] [(0,49)]),o 51 (.append 1 24 48 50),nc 52 44,fa 53 1 52,⟨none,.store 1 53 51,none⟩] [6] []) .skip)<|s [m 54 6,m 4 54] [4]<|.ret) .skip)<|s [m 56 0,m 57 1,o 58 (.call (.func
 F.bR) [56,57] [0]),m 55 58,ex 59 55 0,ex 60 55 1,m 7 59,m 8 60] [0,1,7,8]<|.seq (s [m 61 8,en 62 61 0] [0,1,7,8,62]<|.cond 62 (.region [m 63 0,nc 64 63,fa 65 0 64,lf 66 1 65,m 67 1,nc 68 67,fa 69 3 68,lf 70 1 69,m 71 7,ix 72 1 66 70,⟨none,.store 1 72 71,none⟩] [8]
 [63,65,66,64,67,68,69,70,71]) .skip)<|s [m 73 8,m 4 73] [4]<|.ret
theorem CdV.l15Do_k:CK 70 Tryz.f70 CdV.l15Do 74 [.tmp 4]:=ck Tryz.func70
attribute [go_sem] CdV.l15Do
theorem aD.borG {P:Program}{f:FuncId}{hin:List Blk}{ys:List AV}{L:List Vs.Name}{d:Option Nat}{σ:St}{B:List Vs.Name}{K:St->Prop}{t:Tag K}{r:AV}{F:List (Option Blk)} (H:Vs.Fn P f hin ys r F) (I:kE (d.getD 0) B.length F.length σ=true)
  (J:K ⟨put d (rn (phi B (d.getD 0) F.length) r) σ.s,zD σ.h B (d.getD 0) F true L⟩):aD P f hin ys L d σ B K t:=
 ⟨r,F,true,H,λh=>(by cases h),I,J⟩
attribute [local go_sem] Int.reduceBEq Int.reduceBNe cC cO cFd aI List.replicate_succ List.replicate_zero List.flatten_cons List.flatten_nil List.cons_append List.nil_append List.set_cons_zero List.set_cons_succ List.length_cons List.length_nil List.length_set List.mem_singleton List.mem_cons List.not_mem_nil or_false false_or Vs.Name.t.injEq List.getD_cons_zero List.getD_cons_succ Vs.Name.b.injEq in
theorem aI0 (x:Stp) (hz:x.text.size<=1048576) (o:Off) (w:Nat) (J:okO w o) (hv:mE x (wO o.trays)=true) (he:o.totals.length=0) (I:stC x o≠0):Vs.Fn Tryz.prog F.wC [.var [.loc (.b 1) 0 o.trays.length,.v (.slice none 0 0)] false,.arr 1 (E cD o.trays) false] [.ptr (.b 0) 0 0,.ro (cS x)] (.v (.int .i64 (stC x o))) ([.var [.loc (.b 1) 0 o.trays.length,.v (.slice none 0 0)] false,.arr 1 (E cD o.trays) false].map some):=by
 have ha:=iZ J;have hf:=J.2.1;have hd:=J.2.2.2.1;have H:=pX J hv;have ma:=dA H.a;have mb:=dA H.b;have ga:=dS H.a;have gb:=dS H.b;have gt:=dS H.to;have a0:=H.a.1;have a1:=H.a.2;have t0:=H.to.1;have t1:=H.to.2;have Y:(E cD o.trays).length=o.trays.length:=aI _;have Z:(E cTs o.totals).length=o.totals.length:=aI _;have O:(E cD o.trays).take o.trays.length=E cD o.trays:=List.take_of_length_le (by omega);have U:(E cTs o.totals).take o.totals.length=E cTs o.totals:=List.take_of_length_le (by omega);by_cases L:x.kind=7
 .have e7:(x.kind==7)=true:=beq_iff_eq.2 L;unfold stC at I⊢;rw[if_pos L] at I⊢;rw[if_neg (by omega:¬20<=o.totals.length)] at I⊢;have hc:decide (((0:Nat):Int)≥20)=false:=by decide
  have da:=J.2.2.1 _ ma;have TO:=aB6 (tr o.trays x.a) x.f0 x.f1 x.s0 x.s1 (fT J.1.2 da) da.1 (x8 (pV J ma) H.f) (aCF (pV J ma) (H.n L));cases hb:nG x.f0 x.f1 x.s0 x.s1 (tr o.trays x.a)
  .rw[aEo hb,hb] at TO;simp only[Bool.false_eq_true,if_false] at TO;rw[if_neg (by decide)];refine fn1 CdV.l15Do_k [.b 0,.b 1] [.var [.loc (.b 1) 0 o.trays.length,.v (.slice none 0 0)] false,.arr 1 (E cD o.trays) false] λX=>?_;unfold CdV.l15Do
   repeat' first|simp -dsimp only[go_sem,e7,hc,ga,Y,Z,O,U,cS]|apply Br.mk<;>intro h<;>try simp -dsimp only[h]|refine aD.c (by first|exact TO) ?_|refine aC ?_|fail
   all_goals first|omega|exact⟨_,_,rfl,rfl⟩
  .rw[if_pos hb] at I;exact absurd rfl I
 .have e7:(x.kind==7)=false:=beq_eq_false_iff_ne.2 L;have MK:=aFK x hz o.trays ha.1.2 ha.1.1 H.a H.b;rw[show stC x o=dkC x (tr o.trays x.a) (tr o.trays x.b) by unfold stC;rw[if_neg L]] at I⊢;rw[aHi I] at MK;have e0:(dkC x (tr o.trays x.a) (tr o.trays x.b)==0)=false:=beq_eq_false_iff_ne.2 I;generalize dkC x (tr o.trays x.a) (tr o.trays x.b)=c at *
  refine fn1 CdV.l15Do_k [.b 0,.b 1] [.var [.loc (.b 1) 0 o.trays.length,.v (.slice none 0 0)] false,.arr 1 (E cD o.trays) false] λX=>?_;unfold CdV.l15Do
  repeat' first|simp -dsimp only[go_sem,e7,e0,Y,Z,O,U,cS]|apply Br.mk<;>intro h<;>try simp -dsimp only[h]|refine aD.borG (B:=[.b 0,.b 1]) (by first|exact MK) rfl ?_|refine aC ?_|fail
  all_goals first|omega|exact⟨_,_,rfl,rfl⟩
theorem aI1 (x:Stp) (hz:x.text.size<=1048576) (o:Off) (w:Nat) (J:okO w o) (hv:mE x (wO o.trays)=true) (he:o.totals.length=0) (h7:x.kind≠7) (L:stC x o=0):Vs.Fn Tryz.prog F.wC [.var [.loc (.b 1) 0 o.trays.length,.v (.slice none 0 0)] false,.arr 1 (E cD o.trays) false] [.ptr (.b 0) 0 0,.ro (cS x)] (.v (.int .i64 0)) ([.var [.loc (.b 1) 0 o.trays.length,.v (.slice none 0 0)] false,.arr 1 (E cD (o.trays.set x.to.toNat (dkL x (tr o.trays x.a) (tr o.trays x.b)))) false].map some):=by
 have I:=iZ J;have hc:=J.2.1;have hb:=J.2.2.2.1;have H:=pX J hv;have ma:=dA H.a;have mb:=dA H.b;have ga:=dS H.a;have gb:=dS H.b;have gt:=dS H.to;have a0:=H.a.1;have a1:=H.a.2;have t0:=H.to.1;have t1:=H.to.2;have Y:(E cD o.trays).length=o.trays.length:=aI _;have Z:(E cTs o.totals).length=o.totals.length:=aI _;have O:(E cD o.trays).take o.trays.length=E cD o.trays:=List.take_of_length_le (by omega);have U:(E cTs o.totals).take o.totals.length=E cTs o.totals:=List.take_of_length_le (by omega);have e7:(x.kind==7)=false:=beq_eq_false_iff_ne.2 h7;have MK:=aFK x hz o.trays I.1.2 I.1.1 H.a H.b;rw[show stC x o=dkC x (tr o.trays x.a) (tr o.trays x.b) by unfold stC;rw[if_neg h7]] at L;rw[aHh L,L] at MK;generalize dkL x (tr o.trays x.a) (tr o.trays x.b)=D at *
 have ha:=aHu o.trays x.to.toNat D;refine fn1 CdV.l15Do_k [.b 0,.b 1] [.var [.loc (.b 1) 0 o.trays.length,.v (.slice none 0 0)] false,.arr 1 (E cD (o.trays.set x.to.toNat D)) false] λX=>?_;unfold CdV.l15Do
 repeat' first|simp -dsimp only[go_sem,e7,gt,Y,Z,ha,O,U,Int.reduceBEq,Int.reduceBNe,cC,cO,cS,cFd,aI,List.replicate_succ,List.replicate_zero,List.flatten_cons,List.flatten_nil,List.cons_append,List.nil_append,List.set_cons_zero,List.set_cons_succ,List.length_cons,List.length_nil,List.length_set,List.mem_singleton,List.mem_cons,List.not_mem_nil,or_false,false_or,Vs.Name.t.injEq,List.getD_cons_zero,List.getD_cons_succ,Vs.Name.b.injEq]|apply Br.mk<;>intro h<;>try simp -dsimp only[h]|refine aD.borG (B:=[.b 0,.b 1]) (by first|exact MK) rfl ?_|refine aC ?_|fail
 all_goals first|omega|exact⟨_,_,rfl,rfl⟩
theorem aGX (x:Stp) (hz:x.text.size<=1048576) (o:Off) (w:Nat) (I:okO w o) (hv:mE x (wO o.trays)=true) (he:o.totals.length=0) (h7:x.kind=7) (J:stC x o=0):Vs.Fn Tryz.prog F.wC [.var [.loc (.b 1) 0 o.trays.length,.v (.slice none 0 0)] false,.arr 1 (E cD o.trays) false] [.ptr (.b 0) 0 0,.ro (cS x)] (.v (.int .i64 0)) [some (.var [.loc (.b 1) 0 o.trays.length,.loc (.b 2) 0 (o.totals.length+1)] false),some (.arr 1 (E cD o.trays) false),some (.arr 1 (E cTs (o.totals++[oH x.f0 x.f1 x.s0 x.s1 (tr o.trays x.a)])) false)]:=by
 have hk:=iZ I;have hh:=I.2.1;have hg:=I.2.2.2.1;have H:=pX I hv;have ma:=dA H.a;have mb:=dA H.b;have ga:=dS H.a;have gb:=dS H.b;have gt:=dS H.to;have a0:=H.a.1;have a1:=H.a.2;have t0:=H.to.1;have t1:=H.to.2;have hd:(E cD o.trays).length=o.trays.length:=aI _;have hf:(E cTs o.totals).length=o.totals.length:=aI _;have ha:(E cD o.trays).take o.trays.length=E cD o.trays:=List.take_of_length_le (by omega);have hc:(E cTs o.totals).take o.totals.length=E cTs o.totals:=List.take_of_length_le (by omega);have e7:(x.kind==7)=true:=beq_iff_eq.2 h7;unfold stC at J;rw[if_pos h7] at J;have Z:¬20<=o.totals.length:=by intro h;rw[if_pos h] at J;cases J
 rw[if_neg Z] at J;have L:decide ((o.totals.length:Int)≥20)=false:=decide_eq_false (by omega)
 have U:nG x.f0 x.f1 x.s0 x.s1 (tr o.trays x.a)=true:=by
  cases U:nG x.f0 x.f1 x.s0 x.s1 (tr o.trays x.a)
  .rw[U] at J;cases J
  .rfl
 have da:=I.2.2.1 _ ma;have Y:=aB6 (tr o.trays x.a) x.f0 x.f1 x.s0 x.s1 (fT I.1.2 da) da.1 (x8 (pV I ma) H.f) (aCF (pV I ma) (H.n h7));rw[aEn U,U] at Y;simp only[if_true] at Y;have O:=aLj o.totals (oH x.f0 x.f1 x.s0 x.s1 (tr o.trays x.a));have L:decide (((0:Nat):Int)≥20)=false:=by decide
 have O:[[.sl 2 (E cT (oH x.f0 x.f1 x.s0 x.s1 (tr o.trays x.a)))]]=E cTs (o.totals++[oH x.f0 x.f1 x.s0 x.s1 (tr o.trays x.a)]):=by rw[List.eq_nil_of_length_eq_zero he];rfl
 refine CdV.l15Do_k.o.fnD Tryz.mixed (hin:=[.var [.loc (.b 1) 0 o.trays.length,.v (.slice none 0 0)] false,.arr 1 (E cD o.trays) false]) (args:=[.ptr (.b 0) 0 0,.ro (cS x)]) _ _ [.b 0,.b 1,.t 51 0] [some (.var [.loc (.b 1) 0 o.trays.length,.loc (.b 2) 0 (o.totals.length+1)] false),some (.arr 1 (E cD o.trays) false),some (.arr 1 (E cTs (o.totals++[oH x.f0 x.f1 x.s0 x.s1 (tr o.trays x.a)])) false)] CdV.l15Do_k.n CdV.l15Do_k.r rfl rfl (by intro j hj;rcases j with _|_|_|j<;>first|rfl|(simp at hj;done)|(simp at hj;omega)) λX=>?_;unfold CdV.l15Do
 repeat' first|simp -dsimp only[go_sem,e7,L,ga,hd,hf,O,ha,hc,he,Nat.zero_add,Int.reduceBEq,Int.reduceBNe,cC,cO,cS,cFd,aI,List.replicate_succ,List.replicate_zero,List.flatten_cons,List.flatten_nil,List.cons_append,List.nil_append,List.set_cons_zero,List.set_cons_succ,List.length_cons,List.length_nil,List.length_set,List.mem_singleton,List.mem_cons,List.not_mem_nil,or_false,false_or,Vs.Name.t.injEq,List.getD_cons_zero,List.getD_cons_succ,Vs.Name.b.injEq]|apply Br.mk<;>intro h<;>try simp -dsimp only[h]|refine aD.c (by first|exact Y) ?_|refine aC ?_|fail
 all_goals first|omega|exact⟨_,_,rfl,rfl⟩
attribute [local go_sem] Int.reduceBEq Int.reduceBNe cC cO cFd aI List.replicate_succ List.replicate_zero List.flatten_cons List.flatten_nil List.cons_append List.nil_append List.set_cons_zero List.set_cons_succ List.length_cons List.length_nil List.length_set List.mem_singleton List.mem_cons List.not_mem_nil or_false false_or Vs.Name.t.injEq List.getD_cons_zero List.getD_cons_succ Vs.Name.b.injEq in
theorem aIY (x:Stp) (hz:x.text.size<=1048576) (o:Off) (w:Nat) (J:okO w o) (hv:mE x (wO o.trays)=true) (I:stC x o≠0):Vs.Fn Tryz.prog F.wC [.var [.loc (.b 1) 0 o.trays.length,.loc (.b 2) 0 o.totals.length] false,.arr 1 (E cD o.trays) false,.arr 1 (E cTs o.totals) false] [.ptr (.b 0) 0 0,.ro (cS x)] (.v (.int .i64 (stC x o))) ([.var [.loc (.b 1) 0 o.trays.length,.loc (.b 2) 0 o.totals.length] false,.arr 1 (E cD o.trays) false,.arr 1 (E cTs o.totals) false].map some):=by
 have hc:=iZ J;have he:=J.2.1;have hd:=J.2.2.2.1;have H:=pX J hv;have ma:=dA H.a;have mb:=dA H.b;have ga:=dS H.a;have gb:=dS H.b;have gt:=dS H.to;have a0:=H.a.1;have a1:=H.a.2;have t0:=H.to.1;have t1:=H.to.2;have Y:(E cD o.trays).length=o.trays.length:=aI _;have Z:(E cTs o.totals).length=o.totals.length:=aI _;have O:(E cD o.trays).take o.trays.length=E cD o.trays:=List.take_of_length_le (by omega);have U:(E cTs o.totals).take o.totals.length=E cTs o.totals:=List.take_of_length_le (by omega);by_cases h7:x.kind=7
 .have e7:(x.kind==7)=true:=beq_iff_eq.2 h7;unfold stC at I⊢;rw[if_pos h7] at I⊢;by_cases ha:20<=o.totals.length
  .have L:decide ((o.totals.length:Int)≥20)=true:=decide_eq_true (by omega);rw[if_pos ha];refine fn1 CdV.l15Do_k [.b 0,.b 1,.b 2] [.var [.loc (.b 1) 0 o.trays.length,.loc (.b 2) 0 o.totals.length] false,.arr 1 (E cD o.trays) false,.arr 1 (E cTs o.totals) false] λX=>?_;unfold CdV.l15Do
   repeat' first|simp -dsimp only[go_sem,e7,L,Y,Z,O,U,cS]|apply Br.mk<;>intro h<;>try simp -dsimp only[h]|refine aC ?_|fail
   all_goals first|omega|exact⟨_,_,rfl,rfl⟩
  rw[if_neg ha] at I⊢;have L:decide ((o.totals.length:Int)≥20)=false:=decide_eq_false (by omega);have da:=J.2.2.1 _ ma;have TO:=aB6 (tr o.trays x.a) x.f0 x.f1 x.s0 x.s1 (fT J.1.2 da) da.1 (x8 (pV J ma) H.f) (aCF (pV J ma) (H.n h7));cases hb:nG x.f0 x.f1 x.s0 x.s1 (tr o.trays x.a)
  .rw[aEo hb,hb] at TO;simp only[Bool.false_eq_true,if_false] at TO;rw[if_neg (by decide)];refine fn1 CdV.l15Do_k [.b 0,.b 1,.b 2] [.var [.loc (.b 1) 0 o.trays.length,.loc (.b 2) 0 o.totals.length] false,.arr 1 (E cD o.trays) false,.arr 1 (E cTs o.totals) false] λX=>?_;unfold CdV.l15Do
   repeat' first|simp -dsimp only[go_sem,e7,L,ga,Y,Z,O,U,cS]|apply Br.mk<;>intro h<;>try simp -dsimp only[h]|refine aD.c (by first|exact TO) ?_|refine aC ?_|fail
   all_goals first|omega|exact⟨_,_,rfl,rfl⟩
  .rw[if_pos hb] at I;exact absurd rfl I
 .have e7:(x.kind==7)=false:=beq_eq_false_iff_ne.2 h7;have MK:=aFL x hz o.trays hc.1.2 hc.1.1 H.a H.b o.totals;rw[show stC x o=dkC x (tr o.trays x.a) (tr o.trays x.b) by unfold stC;rw[if_neg h7]] at I⊢;rw[aHi I] at MK;have e0:(dkC x (tr o.trays x.a) (tr o.trays x.b)==0)=false:=beq_eq_false_iff_ne.2 I;generalize dkC x (tr o.trays x.a) (tr o.trays x.b)=c at *
  refine fn1 CdV.l15Do_k [.b 0,.b 1,.b 2] [.var [.loc (.b 1) 0 o.trays.length,.loc (.b 2) 0 o.totals.length] false,.arr 1 (E cD o.trays) false,.arr 1 (E cTs o.totals) false] λX=>?_;unfold CdV.l15Do
  repeat' first|simp -dsimp only[go_sem,e7,e0,Y,Z,O,U,cS]|apply Br.mk<;>intro h<;>try simp -dsimp only[h]|refine aD.borG (B:=[.b 0,.b 1,.b 2]) (by first|exact MK) rfl ?_|refine aC ?_|fail
  all_goals first|omega|exact⟨_,_,rfl,rfl⟩
theorem aIZ (x:Stp) (hz:x.text.size<=1048576) (o:Off) (w:Nat) (J:okO w o) (hv:mE x (wO o.trays)=true) (h7:x.kind≠7) (L:stC x o=0):Vs.Fn Tryz.prog F.wC [.var [.loc (.b 1) 0 o.trays.length,.loc (.b 2) 0 o.totals.length] false,.arr 1 (E cD o.trays) false,.arr 1 (E cTs o.totals) false] [.ptr (.b 0) 0 0,.ro (cS x)] (.v (.int .i64 0)) ([.var [.loc (.b 1) 0 o.trays.length,.loc (.b 2) 0 o.totals.length] false,.arr 1 (E cD (o.trays.set x.to.toNat (dkL x (tr o.trays x.a) (tr o.trays x.b)))) false,.arr 1 (E cTs o.totals) false].map some):=by
 have I:=iZ J;have hc:=J.2.1;have hb:=J.2.2.2.1;have H:=pX J hv;have ma:=dA H.a;have mb:=dA H.b;have ga:=dS H.a;have gb:=dS H.b;have gt:=dS H.to;have a0:=H.a.1;have a1:=H.a.2;have t0:=H.to.1;have t1:=H.to.2;have Y:(E cD o.trays).length=o.trays.length:=aI _;have Z:(E cTs o.totals).length=o.totals.length:=aI _;have O:(E cD o.trays).take o.trays.length=E cD o.trays:=List.take_of_length_le (by omega);have U:(E cTs o.totals).take o.totals.length=E cTs o.totals:=List.take_of_length_le (by omega);have e7:(x.kind==7)=false:=beq_eq_false_iff_ne.2 h7;have MK:=aFL x hz o.trays I.1.2 I.1.1 H.a H.b o.totals;rw[show stC x o=dkC x (tr o.trays x.a) (tr o.trays x.b) by unfold stC;rw[if_neg h7]] at L;rw[aHh L,L] at MK;generalize dkL x (tr o.trays x.a) (tr o.trays x.b)=D at *
 have ha:=aHu o.trays x.to.toNat D;refine fn1 CdV.l15Do_k [.b 0,.b 1,.b 2] [.var [.loc (.b 1) 0 o.trays.length,.loc (.b 2) 0 o.totals.length] false,.arr 1 (E cD (o.trays.set x.to.toNat D)) false,.arr 1 (E cTs o.totals) false] λX=>?_;unfold CdV.l15Do
 repeat' first|simp -dsimp only[go_sem,e7,gt,Y,Z,ha,O,U,Int.reduceBEq,Int.reduceBNe,cC,cO,cS,cFd,aI,List.replicate_succ,List.replicate_zero,List.flatten_cons,List.flatten_nil,List.cons_append,List.nil_append,List.set_cons_zero,List.set_cons_succ,List.length_cons,List.length_nil,List.length_set,List.mem_singleton,List.mem_cons,List.not_mem_nil,or_false,false_or,Vs.Name.t.injEq,List.getD_cons_zero,List.getD_cons_succ,Vs.Name.b.injEq]|apply Br.mk<;>intro h<;>try simp -dsimp only[h]|refine aD.borG (B:=[.b 0,.b 1,.b 2]) (by first|exact MK) rfl ?_|refine aC ?_|fail
 all_goals first|omega|exact⟨_,_,rfl,rfl⟩
theorem aGW (x:Stp) (hz:x.text.size<=1048576) (o:Off) (w:Nat) (I:okO w o) (hv:mE x (wO o.trays)=true) (Z:x.kind=7) (J:stC x o=0):Vs.Fn Tryz.prog F.wC [.var [.loc (.b 1) 0 o.trays.length,.loc (.b 2) 0 o.totals.length] false,.arr 1 (E cD o.trays) false,.arr 1 (E cTs o.totals) false] [.ptr (.b 0) 0 0,.ro (cS x)] (.v (.int .i64 0)) [some (.var [.loc (.b 1) 0 o.trays.length,.loc (.b 3) 0 (o.totals.length+1)] false),some (.arr 1 (E cD o.trays) false),none,some (.arr 1 (E cTs (o.totals++[oH x.f0 x.f1 x.s0 x.s1 (tr o.trays x.a)])) false)]:=by
 have hk:=iZ I;have hh:=I.2.1;have hg:=I.2.2.2.1;have H:=pX I hv;have ma:=dA H.a;have mb:=dA H.b;have ga:=dS H.a;have gb:=dS H.b;have gt:=dS H.to;have a0:=H.a.1;have a1:=H.a.2;have t0:=H.to.1;have t1:=H.to.2;have hd:(E cD o.trays).length=o.trays.length:=aI _;have he:(E cTs o.totals).length=o.totals.length:=aI _;have ha:(E cD o.trays).take o.trays.length=E cD o.trays:=List.take_of_length_le (by omega);have hc:(E cTs o.totals).take o.totals.length=E cTs o.totals:=List.take_of_length_le (by omega);have e7:(x.kind==7)=true:=beq_iff_eq.2 Z;unfold stC at J;rw[if_pos Z] at J;have Y:¬20<=o.totals.length:=by intro h;rw[if_pos h] at J;cases J
 rw[if_neg Y] at J;have U:decide ((o.totals.length:Int)≥20)=false:=decide_eq_false (by omega)
 have L:nG x.f0 x.f1 x.s0 x.s1 (tr o.trays x.a)=true:=by
  cases L:nG x.f0 x.f1 x.s0 x.s1 (tr o.trays x.a)
  .rw[L] at J;cases J
  .rfl
 have da:=I.2.2.1 _ ma;have O:=aB6 (tr o.trays x.a) x.f0 x.f1 x.s0 x.s1 (fT I.1.2 da) da.1 (x8 (pV I ma) H.f) (aCF (pV I ma) (H.n Z));rw[aEn L,L] at O;simp only[if_true] at O;have hf:=aLj o.totals (oH x.f0 x.f1 x.s0 x.s1 (tr o.trays x.a));refine CdV.l15Do_k.o.fnD Tryz.mixed (hin:=[.var [.loc (.b 1) 0 o.trays.length,.loc (.b 2) 0 o.totals.length] false,.arr 1 (E cD o.trays) false,.arr 1 (E cTs o.totals) false]) (args:=[.ptr (.b 0) 0 0,.ro (cS x)]) _ _ [.b 0,.b 1,.b 2,.t 51 0] [some (.var [.loc (.b 1) 0 o.trays.length,.loc (.b 3) 0 (o.totals.length+1)] false),some (.arr 1 (E cD o.trays) false),none,some (.arr 1 (E cTs (o.totals++[oH x.f0 x.f1 x.s0 x.s1 (tr o.trays x.a)])) false)] CdV.l15Do_k.n CdV.l15Do_k.r rfl rfl (by intro j hj;rcases j with _|_|_|j<;>first|rfl|(simp at hj;done)|(simp at hj;omega)) λX=>?_;unfold CdV.l15Do
 repeat' first|simp -dsimp only[go_sem,e7,U,ga,hd,he,hf,ha,hc,Int.reduceBEq,Int.reduceBNe,cC,cO,cS,cFd,aI,List.replicate_succ,List.replicate_zero,List.flatten_cons,List.flatten_nil,List.cons_append,List.nil_append,List.set_cons_zero,List.set_cons_succ,List.length_cons,List.length_nil,List.length_set,List.mem_singleton,List.mem_cons,List.not_mem_nil,or_false,false_or,Vs.Name.t.injEq,List.getD_cons_zero,List.getD_cons_succ,Vs.Name.b.injEq]|apply Br.mk<;>intro h<;>try simp -dsimp only[h]|refine aD.c (by first|exact O) ?_|refine aC ?_|fail
 all_goals first|omega|exact⟨_,_,rfl,rfl⟩
end
end Go.Proofs.YtmiiohemehacjaaGreatDoor
