/- A loop whose turns may end under another name of one block. -/
import Derived.Test.YtmiiohemehacjaaGreatDoorVtS
set_option linter.all false
set_option maxHeartbeats 8000000
namespace Go.Vs
variable [Envs]
variable {P:Program}{C:Ctx}{a:Act}{w:World}{S:Nat->Prop}{ρ:Name->Option Nat}{κ:Name->Nat}
theorem OK.oU {σ:St}{n m:Name} (J:n≠m) (I:dE m σ=true) (G:OK C σ.f a w S ρ κ):∃ρ' κ',OK C (oU n m σ).f a w S ρ' κ':=by
 have F:=dV I;obtain⟨ρ',κ',H⟩:=G.rename (n:=n) (m:=m) J F.1.1 F.1.2;refine⟨ρ',κ',?_⟩
 have e:(⟨λu=>rn (nmF n m) (σ.f.s u),λx=>if x=m then(σ.f.h n).map (rnB (nmF n m)) else if x=n then none else(σ.f.h x).map (rnB (nmF n m))⟩:FSt)=(Vs.oU n m σ).f:=by
  simp only[St.f,Vs.oU,FSt.mk.injEq];refine⟨funext λu=>(nM _ (by simp[rn]) _ u).symm,funext λx=>(aBx _ x F.1.1).symm⟩
 rw[e] at H;exact H
def ReL (σ τ:St):Prop:=LeL σ τ∨∃n m,n≠m∧dE m σ=true∧LeL (Vs.oU n m σ) τ
theorem OK.rel {σ τ:St} (u:OK C σ.f a w S ρ κ) (h:ReL σ τ):∃ρ' κ',OK C τ.f a w S ρ' κ':=by
 rcases h with h|⟨n,m,hn,hf,h⟩
 .exact⟨ρ,κ,u.le h⟩
 .obtain⟨ρ',κ',F⟩:=u.oU hn hf;exact⟨ρ',κ',F.le h⟩
theorem aO.introR {u:Nat->Array Oper->Option (List Nat)} (Y:lL P u) {X:Type} (F:X->St) (μ:X->Nat) (x0:X) {c:aF}{N:St->Prop}{E:kT->St->Prop}{σ:St}{tg:Tag (N,E)} (h0:LeL σ (F x0))
  (hr:∀x,wpc P C u c (fun σ'=>∃J,ReL σ' (F J)∧μ J<μ x) E (F x)):aO P C u c N E σ tg:=by
 show oC P C u (.loop c) N E σ
 intro M Q a w S ρ κ H hN hE hR ha;cases M
 case loop cx =>
  simp only[bM,aF.bare] at H;cases h1:bM P C.nt u cx with
  |none=>rw[h1] at H;cases H
  | some J =>
   rw[h1] at H;simp only[Ba,Aj,aF.loop.injEq] at H;subst H
   classical
   let G:Act->World->Prop:=λa w=>∃x S ρ κ,OK C (F x).f a w S ρ κ
   let m:Act->World->Nat:=λa w=>if h:∃n x,μ x=n∧∃S ρ κ,OK C (F x).f a w S ρ κ then(least _ h).choose else 0
   refine wp_loop G m ⟨x0,S,ρ,κ,ha.le h0⟩ ?_;rintro a w hG
   have O:∃n x,μ x=n∧∃S ρ κ,OK C (F x).f a w S ρ κ:=by
    obtain⟨x,S,ρ,κ,h⟩:=hG;exact⟨μ x,x,rfl,S,ρ,κ,h⟩
   obtain⟨x,hx,S,ρ,κ,V⟩:=(least _ O).choose_spec.1;have hm:m a w=μ x:=by simp only[m,dif_pos O];exact hx.symm
   refine uE Y c _ _ _ (hr x) cx _ a w S ρ κ h1 (λa' w' hg=>?_) hE hR V;obtain⟨σ',S',ρ',κ',⟨J,Z,hb⟩,U⟩:=hg;obtain⟨ρ',κ',I⟩:=U.rel Z;refine⟨⟨J,S',ρ',κ',I⟩,?_⟩;have L:∃n x,μ x=n∧∃S ρ κ,OK C (F x).f a' w' S ρ κ:=⟨μ J,J,rfl,S',ρ',κ',I⟩
   have:m a' w'<=μ J:=by
    simp only[m,dif_pos L];exact(least _ L).choose_spec.2 _ ⟨J,rfl,S',ρ',κ',I⟩
   omega
 all_goals(simp only[bM,aF.bare] at H;first|(cases H;done)|(split at H<;>simp at H)|(simp at H))
theorem aO.atR {u:Nat->Array Oper->Option (List Nat)} (F:lL P u) {X:Type} (M:X->List (Nat×AV)) (H:X->List (Name×Blk)) (μ:X->Nat) (I:X) {c:aF}{N:St->Prop}{E:kT->St->Prop}{σ:St}{O:Tag (N,E)}
  (J:LeL σ ⟨aJ (M I) σ.s,aK (H I) σ.h⟩)
  (L:∀x,wpc P C u c (fun σ'=>∃G,ReL σ' ⟨aJ (M G) σ.s,aK (H G) σ.h⟩∧μ G<μ x) E ⟨aJ (M x) σ.s,aK (H x) σ.h⟩):aO P C u c N E σ O:=
 aO.introR F (λx=>⟨aJ (M x) σ.s,aK (H x) σ.h⟩) μ I J L
end Go.Vs
