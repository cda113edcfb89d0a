/- A step done by the program. -/
import Derived.Test.YtkgeiaideklmoaaGreatZwVm
import Derived.Test.YtkgeiaideklmoaaGreatZuO
import Derived.Test.YtkgeiaideklmoaaGreatZwVg
import Derived.Test.YtkgeiaideklmoaaGreatVtR
import Derived.Test.YtkgeiaideklmoaaGreatZuS
set_option linter.all false
set_option maxHeartbeats 8000000
namespace Go.Proofs.YtkgeiaideklmoaaGreat
open Go.Vs
section
variable [Vs.Envs]
attribute [local irreducible] Vs.Fn aX mgC fI mtC eH mY mat rT chOK areCh chTo chAt l03 chB rk cd3 chI stp stpTo
def stC (x:Stp) (o:Off):Int:=if x.kind=7 then(if 20≤o.totals.length then 5 else if jK x.f0 x.f1 x.s0 x.s1 (tr o.trays x.a) then 0 else 8) else dkC x (tr o.trays x.a) (tr o.trays x.b)
def stO (x:Stp) (o:Off):Off:=if x.kind=7 then⟨o.trays,o.totals++[iI x.f0 x.f1 x.s0 x.s1 (tr o.trays x.a)]⟩ else⟨o.trays.set x.to.toNat (dkL x (tr o.trays x.a) (tr o.trays x.b)),o.totals⟩
def dsC (x:Stp) (o:Off):Int:=if fG x (wO o.trays) then stC x o else 2
def run:Off→List Stp→Off×Nat
 |o,[]=>(o,0)
 |o,x::r=>if dsC x o=0 then((run (stO x o) r).1,(run (stO x o) r).2+1) else(o,0)
def okD (w:Nat) (d:List (List Int)):Prop:=bB d=true∧∀c,c∈d→c.length=w
def okO (w:Nat) (o:Off):Prop:=(1≤w∧w≤20)∧o.trays.length=6∧(∀d,d∈o.trays→okD w d)∧o.totals.length≤20∧∀t,t∈o.totals→aFr t
theorem nN {w:Nat}{d:List (List Int)} (H:w≤20) (h:okD w d):aU d:=by
 have G:=kK h.1;exact⟨by omega,fun c F=>by rw[h.2 c F];omega⟩
theorem fZ {w:Nat}{o:Off} (h:okO w o):yJ o:=by
 obtain⟨I,J,G,L,H⟩:=h;exact⟨⟨by omega,fun d F=>nN I.2 (G d F)⟩,⟨by omega,H⟩⟩
theorem aGg {w:Nat}:∀T:List (List (List Int)),(∀d,d∈T→okD w d)→wO T=w∨(wO T=20∧∀d,d∈T→d.length=0)
 | [],_=>.inr ⟨rfl,fun d H=>absurd H (by simp)⟩
 | d::r,h=>by
  unfold wO;by_cases G:d.length=0
  ·rw[if_pos G];rcases aGg r fun e F=>h e (List.mem_cons_of_mem _ F) with h1|⟨h1,h2⟩
   ·exact .inl h1
   ·refine .inr ⟨h1,fun e F=>?_⟩;rcases List.mem_cons.1 F with rfl|F
    ·exact G
    ·exact h2 e F
  ·rw[if_neg G];refine .inl ((h d (List.mem_cons_self ..)).2 _ ?_);rw[show d.getD 0 []=d[0]'(by omega) by simp[List.getD,(by omega:0<d.length)]];exact List.getElem_mem _
theorem aKg {w:Nat}{d:List (List Int)} (h:okD w d):bD d=20∧d.length=0∨bD d=w∧d.length≠0:=by
 unfold bD;by_cases F:d.length=0
 ·rw[if_pos F];exact .inl ⟨rfl,F⟩
 ·rw[if_neg F,h.2 (d.getD 0 []) (by rw[show d.getD 0 []=d[0]'(by omega) by simp[List.getD,(by omega:0<d.length)]];exact List.getElem_mem _)];exact .inr ⟨rfl,F⟩
theorem vC {a b v w:Int} (h:v≤w) (F:d9 a b v=true):d9 a b w=true:=by
 simp only[d9,Bool.and_eq_true,decide_eq_true_eq] at F⊢;omega
theorem aAC {a b v w:Int} (h:v≤w) (F:xZ a b v=true):xZ a b w=true:=by
 unfold xZ at F⊢;rw[Bool.and_eq_true] at F⊢;exact⟨vC h F.1,F.2⟩
theorem l7 {w:Nat}{o:Off} (h:okO w o) {d:List (List Int)} (G:d∈o.trays):(wO o.trays:Int)≤bD d:=by
 rcases aKg (h.2.2.1 d G) with⟨F,_⟩|⟨F,h2⟩
 ·rcases aGg o.trays h.2.2.1 with h3|⟨h3,_⟩
  ·rw[F,h3];have:=h.1.2;omega
  ·rw[F,h3];omega
 ·rcases aGg o.trays h.2.2.1 with h3|⟨h3,h4⟩
  ·rw[F,h3];omega
  ·exact absurd (h4 d G) h2
theorem aKY {w:Nat}{o:Off} (h:okO w o):inB (wO o.trays:Int) 1 20=true:=by
 have:=h.1;rcases aGg o.trays h.2.2.1 with h3|⟨h3,_⟩<;>rw[h3]<;>simp[inB]<;>omega
structure aLd (x:Stp) (o:Off):Prop where
 k:1≤x.kind∧x.kind≤7
 a:0≤x.a∧x.a<(o.trays.length:Int)
 b:0≤x.b∧x.b<(o.trays.length:Int)
 to:0≤x.to∧x.to<(o.trays.length:Int)
 f:d9 x.f0 x.f1 (wO o.trays)=true
 n:x.kind=7→xZ x.s0 x.s1 (wO o.trays)=true
theorem uN {w:Nat}{o:Off} (h:okO w o) {x:Stp} (G:fG x (wO o.trays)=true):aLd x o:=by
 unfold fG at G;simp only[Bool.and_eq_true] at G;obtain⟨H,J,L,O,M,_,F⟩:=G;simp only[inB,Bool.and_eq_true,decide_eq_true_eq] at H J L O;have U:=h.2.1;refine⟨H,⟨by omega,by omega⟩,⟨by omega,by omega⟩,⟨by omega,by omega⟩,M,fun I=>?_⟩;rw[if_pos (by simp[I])] at F;simp only[Bool.and_eq_true] at F;exact F.2.1
theorem aAB {w:Nat}{a b m:List (List Int)} (L:okD w a) (M:okD w b) (O:∀c,c∈m→c∈a∨c∈b) (Y:m.length≤40):okD w m:=by
 have I:∀c,c∈m→c.length=w:=fun c F=>(O c F).elim (L.2 c) (M.2 c)
 have G:∀c,c∈m→gX c=true:=fun c F=>by
  have J:=L.1;have h2:=M.1;simp only[bB,Bool.and_eq_true,List.all_eq_true,decide_eq_true_eq] at J h2;rcases O c F with h|h
  ·exact(J.1 c h).1
  ·exact(h2.1 c h).1
 refine⟨?_,I⟩;simp only[bB,Bool.and_eq_true,List.all_eq_true,decide_eq_true_eq];refine⟨fun c F=>⟨G c F,?_⟩,Y⟩;have U:0<m.length:=List.length_pos_of_mem F;have H:m.getD 0 []∈m:=by rw[show m.getD 0 []=m[0] by simp[List.getD,U]];exact List.getElem_mem _
 rw[I c F,I _ H]
theorem aJg {fr to:Int}{l:List (List Int)}:∀c,c∈mY fr to l→c∈l:=by
 intro c F;unfold mY at F;obtain⟨i,hi,rfl⟩:=List.mem_map.1 F;exact mK (aAJ i hi)
theorem aJh (fr to:Int) (l:List (List Int)):(mY fr to l).length≤l.length:=by
 unfold mY;rw[List.length_map];exact jJ fr to l l.length
theorem aGQ {q:List Int→Bool}{l:List (List Int)}:∀c,c∈flt q l→c∈l:=fun c F=>(List.mem_filter.1 F).1
theorem aIV {fr to:Int}{l o:List (List Int)}{e:Bool}:∀c,c∈mat fr to l o e→c∈l:=by unfold mat;exact aGQ
theorem aK7 (fr to:Int) (l o:List (List Int)) (e:Bool):(mat fr to l o e).length≤l.length:=by unfold mat;exact xU _ _
theorem aKl {fr to:Int}{a b:List (List Int)} (h:mgC fr to a b=0):a.length+b.length≤40:=by
 unfold mgC at h;split at h
 ·split at h
  ·cases h
  ·split at h
   ·split at h
    ·cases h
    ·omega
   ·cases h
 ·contradiction
theorem dk_ok {w:Nat}{x:Stp}{a b:List (List Int)} (F:okD w a) (G:okD w b) (fa:d9 x.f0 x.f1 (bD a)=true) (Y:d9 x.f0 x.f1 (bD b)=true) (H:dkC x a b=0):okD w (dkL x a b):=by
 have U:=dV F.1 fa;have ob:=dV G.1 Y;have I:=kK F.1;have lb:=kK G.1;unfold dkC at H;unfold dkL;by_cases L:x.kind=1
 ·rw[if_pos L] at H⊢;exact aAB F G (fun c h=>.inl (aEa U I c h)) (by rw[aEb];exact I)
 rw[if_neg L] at H⊢;by_cases h2:x.kind=2
 ·rw[if_pos h2] at H⊢;have hl:=aKl H;have J:(a++b).length≤40:=by rw[List.length_append];exact hl
  refine aAB F G (fun c h=>?_) (by rw[aEb];exact J);exact List.mem_append.1 (aEa (fun c h=>(List.mem_append.1 h).elim (U c) (ob c)) J c h)
 rw[if_neg h2] at H⊢;by_cases M:x.kind=5
 ·rw[if_pos M];exact aAB F G (fun c h=>.inl (aGQ c h)) (Nat.le_trans (xU _ _) I)
 rw[if_neg M];by_cases O:x.kind=6
 ·rw[if_pos O];exact aAB F G (fun c h=>.inl (aJg c h)) (Nat.le_trans (aJh _ _ _) I)
 rw[if_neg O];split
 ·exact aAB F G (fun c h=>.inl (aIV c h)) (Nat.le_trans (aK7 _ _ _ _ _) I)
 ·exact aAB F G (fun c h=>.inl (aIV c h)) (Nat.le_trans (aK7 _ _ _ _ _) I)
theorem aFl {fr to sf st:Int}{l:List (List Int)}{w:Nat} (O:w≤20) (h:okD w l):aFr (iI fr to sf st l):=by
 have L:=kK h.1;have M:=aB5 fr to l;refine⟨by unfold iI;rw[List.length_map];omega,fun t G=>?_⟩;unfold iI at G;obtain⟨g,F,rfl⟩:=List.mem_map.1 G;obtain⟨H,_,I⟩:=aB4 F;have J:g.getD 0 []∈l:=I _ (by rw[show g.getD 0 []=g[0] by simp[List.getD,H]];exact List.getElem_mem _);show(txt (fH fr to (g.getD 0 []))).size≤1048576
 rw[aBB];unfold fH;rw[List.length_drop,List.length_take,h.2 _ J];omega
theorem st_ok {w:Nat}{o:Off}{x:Stp} (h:okO w o) (H:aLd x o) (F:stC x o=0):okO w (stO x o):=by
 have L:=h.2.1;have J:=fK H.a;have O:=fK H.b;unfold stC at F;unfold stO;by_cases M:x.kind=7
 ·rw[if_pos M] at F⊢;refine⟨h.1,L,h.2.2.1,?_,fun t G=>?_⟩
  ·rw[List.length_append,List.length_singleton];split at F
   ·cases F
   ·omega
  ·rcases List.mem_append.1 G with G|G
   ·exact h.2.2.2.2 t G
   ·rw[List.mem_singleton.1 G];exact aFl h.1.2 (h.2.2.1 _ J)
 ·rw[if_neg M] at F⊢;refine⟨h.1,by simpa using L,fun d I=>?_,h.2.2.2.1,h.2.2.2.2⟩;rcases List.mem_or_eq_of_mem_set I with I|rfl
  ·exact h.2.2.1 d I
  ·exact dk_ok (h.2.2.1 _ J) (h.2.2.1 _ O) (vC (l7 h J) H.f) (vC (l7 h O) H.f) F
theorem aE1 {w:Nat}{o:Off}{x:Stp} (h:okO w o) (F:dsC x o=0):okO w (stO x o):=by
 unfold dsC at F;split at F
 ·rename_i G;exact st_ok h (uN h G) F
 ·cases F
theorem aDw {w:Nat}:∀(F:List Stp) (o:Off),okO w o→okO w (run o F).1∧(run o F).2≤F.length
 | [],o,h=>⟨h,Nat.le_refl _⟩
 | x::r,o,h=>by
  unfold run;by_cases G:dsC x o=0
  ·rw[if_pos G];obtain⟨H,h2⟩:=aDw r (stO x o) (aE1 h G);exact⟨H,Nat.succ_le_succ h2⟩
  ·rw[if_neg G];exact⟨h,Nat.zero_le _⟩
def aBI (o:Off) (fl:List Stp) (i:Nat) (o':Off):Prop:=run o fl=((run o' (fl.drop i)).1,(run o' (fl.drop i)).2+i)
theorem aAy (o:Off) (F:List Stp):aBI o F 0 o:=rfl
theorem xH {o G:Off}{F:List Stp}{i:Nat} (hi:i<F.length) (h:aBI o F i G) (H:dsC F[i] G=0):aBI o F (i+1) (stO F[i] G):=by
 unfold aBI at h⊢;rw[List.drop_eq_getElem_cons hi,run,if_pos H] at h;rw[h];simp only[Prod.mk.injEq,true_and];omega
theorem qB {o G:Off}{F:List Stp}{i:Nat} (hi:i<F.length) (h:aBI o F i G) (H:dsC F[i] G≠0):run o F=(G,i):=by
 unfold aBI at h;rw[List.drop_eq_getElem_cons hi,run,if_neg H] at h;rw[h,Nat.zero_add]
theorem zO {o G:Off}{F:List Stp} (h:aBI o F F.length G):run o F=(G,F.length):=by
 unfold aBI at h;rw[List.drop_length,run] at h;rw[h,Nat.zero_add]
end
section
variable [Vs.Envs]
attribute [local irreducible] Vs.Fn aX mgC fI mtC eH mY mat rT dkC dkL jK iI fG wO chOK areCh chTo chAt l03 chB rk cd3 chI stp stpTo
def noO:AV:=.agg [.v (.slice none 0 0),.v (.slice none 0 0)]
def dsV (x:Stp) (o:Off):AV:=if dsC x o=0 then .agg (cO (stO x o)) else noO
theorem aGc (m:List (List (List Int))) (i:Nat) (d:List (List Int)):(E cD m).set i [.sl 1 (E cC d)]=E cD (m.set i d):=by simp[E,List.map_set,cD]
theorem aJN (m:List (List Tot)) (t:List Tot):E cTs m++[[.sl 2 (E cT t)]]=E cTs (m++[t]):=by rw[aY];rfl
theorem aDk {fr to sf st:Int}{l:List (List Int)} (h:jK fr to sf st l=true):vK fr to sf st l=.sl 2 (E cT (iI fr to sf st l)):=by unfold vK;rw[if_pos h];rfl
theorem aDl {fr to sf st:Int}{l:List (List Int)} (h:jK fr to sf st l=false):vK fr to sf st l=.v (.slice none 0 0):=by unfold vK;rw[h];rfl
theorem aFY {x:Stp}{a b:List (List Int)} (h:dkC x a b=0):dkV x a b=.sl 1 (E cC (dkL x a b)):=by unfold dkV;rw[if_pos h]
theorem aFZ {x:Stp}{a b:List (List Int)} (h:dkC x a b≠0):dkV x a b=.v (.slice none 0 0):=by unfold dkV;rw[if_neg h]
theorem aLa {x:Stp}{o:Off} (G:fG x (wO o.trays)=true) (F:x.kind≠7):dsC x o=dkC x (tr o.trays x.a) (tr o.trays x.b):=by unfold dsC stC;rw[if_pos G,if_neg F]
theorem aIf {x:Stp}{o:Off} (F:x.kind≠7):stO x o=⟨o.trays.set x.to.toNat (dkL x (tr o.trays x.a) (tr o.trays x.b)),o.totals⟩:=by unfold stO;rw[if_neg F]
theorem aJq {x:Stp}{o:Off} (G:fG x (wO o.trays)=true) (F:x.kind=7):dsC x o=if 20≤o.totals.length then 5 else if jK x.f0 x.f1 x.s0 x.s1 (tr o.trays x.a) then 0 else 8:=by unfold dsC stC;rw[if_pos G,if_pos F]
theorem aFp {x:Stp}{o:Off} (F:x.kind=7):stO x o=⟨o.trays,o.totals++[iI x.f0 x.f1 x.s0 x.s1 (tr o.trays x.a)]⟩:=by unfold stO;rw[if_pos F]
attribute [local go_sem] Int.reduceBEq Int.reduceBNe cC cFd aI List.replicate_succ List.replicate_zero List.flatten_cons List.flatten_nil List.cons_append List.nil_append List.set_cons_zero List.set_cons_succ List.length_cons List.length_nil List.length_set List.mem_singleton List.mem_cons List.not_mem_nil or_false false_or Vs.Name.t.injEq List.getD_cons_zero List.getD_cons_succ in
theorem aJr (x:Stp) (hz:x.text.size≤1048576) (o:Off) (w:Nat) (J:okO w o):Fz F.oP [.agg (cO o),.agg (cS x)] (.tup [dsV x o,.v (.int .i64 (dsC x o))]):=by
 have L:=fZ J;have U:=yE o L;have NO:=aHv o L;have H:=qZ x (wO o.trays:Int) hz;rw[aKY J,Bool.true_and] at H;have hl:=J.2.1;have hk:=J.2.2.2.1;cases hv:fG x (wO o.trays)
 ·rw[hv] at H;rw[show dsC x o=2 by unfold dsC;rw[hv];rfl,show dsV x o=noO by unfold dsV dsC;rw[hv];rfl];refine fn0 Cd.i_doStep_k fun X=>?_
  repeat' first|simp -dsimp only[go_sem,noO,cO,cS]|apply Br.mk<;>intro h<;>try simp -dsimp only[h]|refine aD.c (by first|exact H|exact U) ?_|refine aC ?_|fail
  all_goals first|omega|exact⟨_,_,rfl,rfl⟩
 rw[hv] at H;have G:=uN J hv;have ma:=fK G.a;have mb:=fK G.b;have ga:=gW G.a;have gb:=gW G.b;have a0:=G.a.1;have a1:=G.a.2;have gt:=gW G.to;have t0:=G.to.1;have t1:=G.to.2;have he:(E cD o.trays).length=o.trays.length:=aI _;have hf:(E cTs o.totals).length=o.totals.length:=aI _;have hc:(E cD o.trays).take o.trays.length=E cD o.trays:=List.take_of_length_le (by omega);have hd:(E cTs o.totals).take o.totals.length=E cTs o.totals:=List.take_of_length_le (by omega);by_cases M:x.kind=7
 ·have e7:(x.kind==7)=true:=beq_iff_eq.2 M;rw[show dsV x o=if dsC x o=0 then .agg (cO (stO x o)) else noO from rfl,aJq hv M,aFp M];by_cases ha:20≤o.totals.length
  ·have I:((o.totals.length:Int)==20)=true:=beq_iff_eq.2 (by omega);rw[if_pos ha];rw[if_neg (by decide)];refine fn0 Cd.i_doStep_k fun X=>?_
   repeat' first|simp -dsimp only[go_sem,e7,I,noO,cO,cS]|apply Br.mk<;>intro h<;>try simp -dsimp only[h]|refine aD.own (by first|exact NO) rfl ?_|refine aD.c (by first|exact H|exact U) ?_|refine aC ?_|fail
   all_goals first|omega|exact⟨_,_,rfl,rfl⟩
  ·have I:((o.totals.length:Int)==20)=false:=beq_eq_false_iff_ne.2 (by omega);rw[if_neg ha];have da:=J.2.2.1 _ ma;have Y:=aH2 (tr o.trays x.a) x.f0 x.f1 x.s0 x.s1 (dV da.1 (vC (l7 J ma) G.f)) (aDC da.1 (aAC (l7 J ma) (G.n M))) (nN J.1.2 da).1;cases hb:jK x.f0 x.f1 x.s0 x.s1 (tr o.trays x.a)
   ·rw[aDl hb,hb] at Y;simp only[Bool.false_eq_true,if_false] at Y;rw[if_neg (by decide),if_neg (by decide)];refine fn0 Cd.i_doStep_k fun X=>?_
    repeat' first|simp -dsimp only[go_sem,e7,I,noO,ga,cO,cS]|apply Br.mk<;>intro h<;>try simp -dsimp only[h]|refine aD.own (by first|exact NO) rfl ?_|refine aD.c (by first|exact H|exact U|exact Y) ?_|refine aC ?_|fail
    all_goals first|omega|exact⟨_,_,rfl,rfl⟩
   ·rw[aDk hb,hb] at Y;simp only[if_true] at Y;rw[if_pos rfl,if_pos rfl];have hg:=aJN o.totals (iI x.f0 x.f1 x.s0 x.s1 (tr o.trays x.a));have O:(E cTs (o.totals++[iI x.f0 x.f1 x.s0 x.s1 (tr o.trays x.a)])).take (o.totals.length+1)=E cTs (o.totals++[iI x.f0 x.f1 x.s0 x.s1 (tr o.trays x.a)]):=List.take_of_length_le (by rw[aI,List.length_append];exact Nat.le_refl _);refine fn0 Cd.i_doStep_k fun X=>?_
    repeat' first|simp -dsimp only[go_sem,e7,I,ga,he,hf,hg,hc,hd,O,cO,cS]|apply Br.mk<;>intro h<;>try simp -dsimp only[h]|refine aD.own (by first|exact NO) rfl ?_|refine aD.c (by first|exact H|exact U|exact Y) ?_|refine aC ?_|fail
    all_goals first|omega|exact⟨_,_,rfl,rfl⟩
 ·have e7:(x.kind==7)=false:=beq_eq_false_iff_ne.2 M;rw[show dsV x o=if dsC x o=0 then .agg (cO (stO x o)) else noO from rfl,aLa hv M,aIf M];have DK:=aA3 x hz o.trays L.1.2 L.1.1 G.a G.b o.totals;by_cases h0:dkC x (tr o.trays x.a) (tr o.trays x.b)=0
  ·rw[aFY h0] at DK;rw[h0] at DK⊢;rw[if_pos rfl];generalize dkL x (tr o.trays x.a) (tr o.trays x.b)=D at *
   have hj:=aGc o.trays x.to.toNat D;have O:(E cD (o.trays.set x.to.toNat D)).take o.trays.length=E cD (o.trays.set x.to.toNat D):=List.take_of_length_le (by rw[aI,List.length_set];exact Nat.le_refl _);refine fn0 Cd.i_doStep_k fun X=>?_
   repeat' first|simp -dsimp only[go_sem,e7,gt,he,hf,hj,hc,hd,O,cO,cS]|apply Br.mk<;>intro h<;>try simp -dsimp only[h]|refine aD.own (by first|exact NO) rfl ?_|refine aD.c (by first|exact H|exact U|exact DK) ?_|refine aC ?_|fail
   all_goals first|omega|exact⟨_,_,rfl,rfl⟩
  ·rw[aFZ h0] at DK;rw[if_neg h0];have e0:(dkC x (tr o.trays x.a) (tr o.trays x.b) != 0)=true:=by simp[h0]
   generalize dkC x (tr o.trays x.a) (tr o.trays x.b)=c at *
   refine fn0 Cd.i_doStep_k fun X=>?_
   repeat' first|simp -dsimp only[go_sem,e7,e0,noO,cO,cS]|apply Br.mk<;>intro h<;>try simp -dsimp only[h]|refine aD.own (by first|exact NO) rfl ?_|refine aD.c (by first|exact H|exact U|exact DK) ?_|refine aC ?_|fail
   all_goals first|omega|exact⟨_,_,rfl,rfl⟩
end
end Go.Proofs.YtkgeiaideklmoaaGreat
