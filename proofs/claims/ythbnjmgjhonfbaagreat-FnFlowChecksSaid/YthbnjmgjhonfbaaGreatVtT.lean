/- A loop whose turns may end under another name of one block. -/
import Derived.Test.YthbnjmgjhonfbaaGreatVtS
set_option linter.all false
set_option maxHeartbeats 8000000
namespace Go.Vs
variable [Envs]
variable {P:Program}{C:Ctx}{a:Act}{w:World}{S:Nat→Prop}{ρ:Name→Option Nat}{κ:Name→Nat}
theorem OK.vB {σ:St}{n m:Name} (hn:n≠m) (hf:dE m σ=true) (hok:OK C σ.f a w S ρ κ):∃ρ' κ',OK C (vB n m σ).f a w S ρ' κ':=by
 have hf':=eQ hf;obtain⟨ρ',κ',h1⟩:=hok.rename (n:=n) (m:=m) hn hf'.1.1 hf'.1.2;refine⟨ρ',κ',?_⟩
 have e:(⟨fun u=>rn (nmF n m) (σ.f.s u),fun x=>if x=m then(σ.f.h n).map (rnB (nmF n m)) else if x=n then none else(σ.f.h x).map (rnB (nmF n m))⟩:FSt)=(Vs.vB n m σ).f:=by
  simp only[St.f,Vs.vB,FSt.mk.injEq];refine⟨funext fun u=>(mV _ (by simp[rn]) _ u).symm,funext fun x=>(aAT _ x hf'.1.1).symm⟩
 rw[e] at h1;exact h1
def ReL (σ τ:St):Prop:=LeL σ τ∨∃n m,n≠m∧dE m σ=true∧LeL (Vs.vB n m σ) τ
theorem OK.rel {σ τ:St} (hok:OK C σ.f a w S ρ κ) (h:ReL σ τ):∃ρ' κ',OK C τ.f a w S ρ' κ':=by
 rcases h with h|⟨n,m,hn,hf,h⟩
 ·exact⟨ρ,κ,hok.le h⟩
 ·obtain⟨ρ',κ',h1⟩:=hok.vB hn hf;exact⟨ρ',κ',h1.le h⟩
theorem aN.introR {drawn:Nat→Array Oper→Option (List Nat)} (hdr:nG P drawn) {X:Type} (Inv:X→St) (μ:X→Nat) (x0:X) {c:aD}{N:St→Prop}{E:lL→St→Prop}{σ:St}{tg:Tag (N,E)} (h0:LeL σ (Inv x0))
  (hr:∀x,wpc P C drawn c (fun σ'=>∃x',ReL σ' (Inv x')∧μ x'<μ x) E (Inv x)):aN P C drawn c N E σ tg:=by
 show SemW P C drawn (.loop c) N E σ
 intro code Q a w S ρ κ hc hN hE hR hok;cases code
 case loop cx =>
  simp only[bU,aD.bare] at hc;cases h1:bU P C.nt drawn cx with
  |none=>rw[h1] at hc;cases hc
  | some x' =>
   rw[h1] at hc;simp only[Option.map_some,Option.some.injEq,aD.loop.injEq] at hc;subst hc
   classical
   let G:Act→World→Prop:=fun a w=>∃x S ρ κ,OK C (Inv x).f a w S ρ κ
   let m:Act→World→Nat:=fun a w=>if h:∃n x,μ x=n∧∃S ρ κ,OK C (Inv x).f a w S ρ κ then(least _ h).choose else 0
   refine wp_loop G m ⟨x0,S,ρ,κ,hok.le h0⟩ ?_;rintro a w hG
   have hex:∃n x,μ x=n∧∃S ρ κ,OK C (Inv x).f a w S ρ κ:=by
    obtain⟨x,S,ρ,κ,h⟩:=hG;exact⟨μ x,x,rfl,S,ρ,κ,h⟩
   obtain⟨x,hx,S,ρ,κ,hokx⟩:=(least _ hex).choose_spec.1;have hm:m a w=μ x:=by simp only[m,dif_pos hex];exact hx.symm
   refine tC hdr c _ _ _ (hr x) cx _ a w S ρ κ h1 (fun a' w' hg=>?_) hE hR hokx;obtain⟨σ',S',ρ',κ',⟨x',hle,hlt⟩,hok'⟩:=hg;obtain⟨ρ',κ',hok2⟩:=hok'.rel hle;refine⟨⟨x',S',ρ',κ',hok2⟩,?_⟩;have hex':∃n x,μ x=n∧∃S ρ κ,OK C (Inv x).f a' w' S ρ κ:=⟨μ x',x',rfl,S',ρ',κ',hok2⟩
   have:m a' w'≤μ x':=by
    simp only[m,dif_pos hex'];exact(least _ hex').choose_spec.2 _ ⟨x',rfl,S',ρ',κ',hok2⟩
   omega
 all_goals(simp only[bU,aD.bare] at hc;first|(cases hc;done)|(split at hc<;>simp at hc)|(simp at hc))
theorem aN.atR {drawn:Nat→Array Oper→Option (List Nat)} (hdr:nG P drawn) {X:Type} (M:X→List (Nat×AV)) (H:X→List (Name×Blk)) (μ:X→Nat) (x0:X) {c:aD}{N:St→Prop}{E:lL→St→Prop}{σ:St}{tg:Tag (N,E)}
  (h0:LeL σ ⟨aK (M x0) σ.s,aL (H x0) σ.h⟩)
  (hr:∀x,wpc P C drawn c (fun σ'=>∃x',ReL σ' ⟨aK (M x') σ.s,aL (H x') σ.h⟩∧μ x'<μ x) E ⟨aK (M x) σ.s,aL (H x) σ.h⟩):aN P C drawn c N E σ tg:=
 aN.introR hdr (fun x=>⟨aK (M x) σ.s,aL (H x) σ.h⟩) μ x0 h0 hr
end Go.Vs
