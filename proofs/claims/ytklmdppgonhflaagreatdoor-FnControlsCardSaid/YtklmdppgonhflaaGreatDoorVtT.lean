/- A loop whose turns may end under another name of one block. -/
import Derived.Test.YtklmdppgonhflaaGreatDoorVtS
set_option linter.all false
set_option maxHeartbeats 8000000
namespace Go.Vs
variable [Envs]
variable {P:Program}{C:Ctx}{a:Act}{w:World}{S:Nat->Prop}{ρ:Name->Option Nat}{κ:Name->Nat}
theorem OK.uS {σ:St}{n m:Name} (J:n≠m) (I:dA m σ=true) (G:OK C σ.f a w S ρ κ):∃ρ' κ',OK C (uS n m σ).f a w S ρ' κ':=by
 have F:=dS I;obtain⟨ρ',κ',H⟩:=G.rename (n:=n) (m:=m) J F.1.1 F.1.2;refine⟨ρ',κ',?_⟩
 have e:(⟨λu=>rn (nmF n m) (σ.f.s u),λx=>if x=m then(σ.f.h n).map (rnB (nmF n m)) else if x=n then none else(σ.f.h x).map (rnB (nmF n m))⟩:FSt)=(Vs.uS n m σ).f:=by
  simp only[St.f,Vs.uS,FSt.mk.injEq];refine⟨funext λu=>(oK _ (by simp[rn]) _ u).symm,funext λx=>(aBV _ x F.1.1).symm⟩
 rw[e] at H;exact H
def ReL (σ τ:St):Prop:=LeL σ τ∨∃n m,n≠m∧dA m σ=true∧LeL (Vs.uS n m σ) τ
theorem OK.rel {σ τ:St} (F:OK C σ.f a w S ρ κ) (h:ReL σ τ):∃ρ' κ',OK C τ.f a w S ρ' κ':=by
 rcases h with h|⟨n,m,hn,hf,h⟩
 .exact⟨ρ,κ,F.le h⟩
 .obtain⟨ρ',κ',G⟩:=F.uS hn hf;exact⟨ρ',κ',G.le h⟩
theorem aP.introR {F:Nat->Array Oper->Option (List Nat)} (ha:lX P F) {X:Type} (H:X->St) (μ:X->Nat) (x0:X) {c:aD}{N:St->Prop}{E:kW->St->Prop}{σ:St}{tg:Tag (N,E)} (h0:LeL σ (H x0))
  (hr:∀x,wpc P C F c (fun σ'=>∃M,ReL σ' (H M)∧μ M<μ x) E (H x)):aP P C F c N E σ tg:=by
 show aD5 P C F (.loop c) N E σ
 intro U Q a w S ρ κ I hN hE hR hd;cases U
 case loop cx =>
  simp only[bN,aD.bare] at I;cases h1:bN P C.nt F cx with
  |none=>rw[h1] at I;cases I
  | some M =>
   rw[h1] at I;simp only[AU,Ab,aD.loop.injEq] at I;subst I
   classical
   let G:Act->World->Prop:=λa w=>∃x S ρ κ,OK C (H x).f a w S ρ κ
   let m:Act->World->Nat:=λa w=>if h:∃n x,μ x=n∧∃S ρ κ,OK C (H x).f a w S ρ κ then(least _ h).choose else 0
   refine wp_loop G m ⟨x0,S,ρ,κ,hd.le h0⟩ ?_;rintro a w hG
   have V:∃n x,μ x=n∧∃S ρ κ,OK C (H x).f a w S ρ κ:=by
    obtain⟨x,S,ρ,κ,h⟩:=hG;exact⟨μ x,x,rfl,S,ρ,κ,h⟩
   obtain⟨x,hx,S,ρ,κ,Z⟩:=(least _ V).choose_spec.1;have hm:m a w=μ x:=by simp only[m,dif_pos V];exact hx.symm
   refine zU ha c _ _ _ (hr x) cx _ a w S ρ κ h1 (λa' w' hg=>?_) hE hR Z;obtain⟨σ',S',ρ',κ',⟨M,hb,he⟩,Y⟩:=hg;obtain⟨ρ',κ',J⟩:=Y.rel hb;refine⟨⟨M,S',ρ',κ',J⟩,?_⟩;have O:∃n x,μ x=n∧∃S ρ κ,OK C (H x).f a' w' S ρ κ:=⟨μ M,M,rfl,S',ρ',κ',J⟩
   have:m a' w'<=μ M:=by
    simp only[m,dif_pos O];exact(least _ O).choose_spec.2 _ ⟨M,rfl,S',ρ',κ',J⟩
   omega
 all_goals(simp only[bN,aD.bare] at I;first|(cases I;done)|(split at I<;>simp at I)|(simp at I))
theorem aP.atR {F:Nat->Array Oper->Option (List Nat)} (G:lX P F) {X:Type} (M:X->List (Nat×AV)) (H:X->List (Name×Blk)) (μ:X->Nat) (J:X) {c:aD}{N:St->Prop}{E:kW->St->Prop}{σ:St}{V:Tag (N,E)}
  (O:LeL σ ⟨aK (M J) σ.s,aL (H J) σ.h⟩)
  (U:∀x,wpc P C F c (fun σ'=>∃I,ReL σ' ⟨aK (M I) σ.s,aL (H I) σ.h⟩∧μ I<μ x) E ⟨aK (M x) σ.s,aL (H x) σ.h⟩):aP P C F c N E σ V:=
 aP.introR G (λx=>⟨aK (M x) σ.s,aL (H x) σ.h⟩) μ J O U
end Go.Vs
