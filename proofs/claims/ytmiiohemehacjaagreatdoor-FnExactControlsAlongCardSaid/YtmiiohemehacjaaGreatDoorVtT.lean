/- A loop whose turns may end under another name of one block. -/
import Derived.Test.YtmiiohemehacjaaGreatDoorVtS
set_option linter.all false
set_option maxHeartbeats 8000000
namespace Go.Vs
variable [Envs]
variable {P:Program}{C:Ctx}{a:Act}{w:World}{S:Nat->Prop}{ρ:Name->Option Nat}{κ:Name->Nat}
theorem OK.wD {σ:St}{n m:Name} (L:n≠m) (J:bX m σ=true) (H:OK C σ.f a w S ρ κ):∃ρ' κ',OK C (wD n m σ).f a w S ρ' κ':=by
 have F:=dW J;obtain⟨ρ',κ',I⟩:=H.rename (n:=n) (m:=m) L F.1.1 F.1.2;refine⟨ρ',κ',?_⟩
 have e:(⟨λu=>rn (nmF n m) (σ.f.s u),λx=>if x=m then(σ.f.h n).map (rnB (nmF n m)) else if x=n then none else(σ.f.h x).map (rnB (nmF n m))⟩:FSt)=(Vs.wD n m σ).f:=by
  simp only[St.f,Vs.wD,FSt.mk.injEq];refine⟨funext λu=>(mQ _ (by simp[rn]) _ u).symm,funext λx=>(aBh _ x F.1.1).symm⟩
 rw[e] at I;exact I
def ReL (σ τ:St):Prop:=LeL σ τ∨∃n m,n≠m∧bX m σ=true∧LeL (Vs.wD n m σ) τ
theorem OK.rel {σ τ:St} (F:OK C σ.f a w S ρ κ) (h:ReL σ τ):∃ρ' κ',OK C τ.f a w S ρ' κ':=by
 rcases h with h|⟨n,m,hn,hf,h⟩
 .exact⟨ρ,κ,F.le h⟩
 .obtain⟨ρ',κ',H⟩:=F.wD hn hf;exact⟨ρ',κ',H.le h⟩
theorem aN.introR {F:Nat->Array Oper->Option (List Nat)} (hb:iF P F) {X:Type} (H:X->St) (μ:X->Nat) (x0:X) {c:aF}{N:St->Prop}{E:uC->St->Prop}{σ:St}{tg:Tag (N,E)} (h0:LeL σ (H x0))
  (hr:∀x,wpc P C F c (fun σ'=>∃L,ReL σ' (H L)∧μ L<μ x) E (H x)):aN P C F c N E σ tg:=by
 show SemW P C F (.loop c) N E σ
 intro U Q a w S ρ κ I hN hE hR he;cases U
 case loop cx =>
  simp only[bE,aF.bare] at I;cases h1:bE P C.nt F cx with
  |none=>rw[h1] at I;cases I
  | some L =>
   rw[h1] at I;simp only[Option.map_some,Option.some.injEq,aF.loop.injEq] at I;subst I
   classical
   let G:Act->World->Prop:=λa w=>∃x S ρ κ,OK C (H x).f a w S ρ κ
   let m:Act->World->Nat:=λa w=>if h:∃n x,μ x=n∧∃S ρ κ,OK C (H x).f a w S ρ κ then(least _ h).choose else 0
   refine wp_loop G m ⟨x0,S,ρ,κ,he.le h0⟩ ?_;rintro a w hG
   have Y:∃n x,μ x=n∧∃S ρ κ,OK C (H x).f a w S ρ κ:=by
    obtain⟨x,S,ρ,κ,h⟩:=hG;exact⟨μ x,x,rfl,S,ρ,κ,h⟩
   obtain⟨x,hx,S,ρ,κ,ha⟩:=(least _ Y).choose_spec.1;have hm:m a w=μ x:=by simp only[m,dif_pos Y];exact hx.symm
   refine uK hb c _ _ _ (hr x) cx _ a w S ρ κ h1 (λa' w' hg=>?_) hE hR ha;obtain⟨σ',S',ρ',κ',⟨L,hd,hf⟩,Z⟩:=hg;obtain⟨ρ',κ',J⟩:=Z.rel hd;refine⟨⟨L,S',ρ',κ',J⟩,?_⟩;have O:∃n x,μ x=n∧∃S ρ κ,OK C (H x).f a' w' S ρ κ:=⟨μ L,L,rfl,S',ρ',κ',J⟩
   have:m a' w'<=μ L:=by
    simp only[m,dif_pos O];exact(least _ O).choose_spec.2 _ ⟨L,rfl,S',ρ',κ',J⟩
   omega
 all_goals(simp only[bE,aF.bare] at I;first|(cases I;done)|(split at I<;>simp at I)|(simp at I))
theorem aN.atR {F:Nat->Array Oper->Option (List Nat)} (I:iF P F) {X:Type} (M:X->List (Nat×AV)) (H:X->List (Name×Blk)) (μ:X->Nat) (L:X) {c:aF}{N:St->Prop}{E:uC->St->Prop}{σ:St}{Y:Tag (N,E)}
  (O:LeL σ ⟨aK (M L) σ.s,aL (H L) σ.h⟩)
  (U:∀x,wpc P C F c (fun σ'=>∃J,ReL σ' ⟨aK (M J) σ.s,aL (H J) σ.h⟩∧μ J<μ x) E ⟨aK (M x) σ.s,aL (H x) σ.h⟩):aN P C F c N E σ Y:=
 aN.introR I (λx=>⟨aK (M x) σ.s,aL (H x) σ.h⟩) μ L O U
end Go.Vs
