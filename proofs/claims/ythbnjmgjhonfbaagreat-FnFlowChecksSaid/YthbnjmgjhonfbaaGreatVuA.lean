/- Walks begun anew, at values that are known of old. -/
import Derived.Test.YthbnjmgjhonfbaaGreatVtZ
set_option linter.all false
set_option maxHeartbeats 8000000
namespace Go.Vs
variable {P:Program}
open Classical in
@[reducible] noncomputable def keepE (S : Nat → Prop) (w : World) : Envs := ⟨((List.range w.heap.size).filter fun b => decide (S b)).map fun b => (b, fun o => o = w.heap[b]?)⟩
theorem kC.has {f:FuncId}{fn:Func}{ac:aD} (h:kC P f fn ac):aBO P f:=by
 obtain⟨h1,h2,h3⟩:=h;obtain⟨body,hb,_⟩:=Option.bind_eq_some_iff.1 h2;exact⟨fn,body,h1,hb,by simpa using h3⟩
def aGY:Nat→aD→aD
 |0,c=>c
 |n+1,.seq _ y=>aGY n y
 |_+1,c=>c
def wpcN [Envs] (P:Program) (C:Ctx) (dr:Nat→Array Oper→Option (List Nat)):Nat→aD→(St→Prop)→(lL→St→Prop)→St→Prop
 |0,_,N,_,σ=>N σ
 |n+1,.seq x y,N,E,σ=>wpc P C dr x (wpcN P C dr n y N E) E σ
 |_+1,_,_,_,_=>False
variable {nt:Nat}{dr:Nat→Array Oper→Option (List Nat)}{Q:Exit→Act→World→Prop}
theorem At.upto [Envs] {C:Ctx} (hdr:nG P dr) (hnt:C.nt=nt) {N:St→Prop}{E:lL→St→Prop} (hE:∀i a w,dF C (E (.exit i)) a w→Q (.exit i) a w) (hR:∀a w,dF C (E .ret) a w→Q .ret a w) :
  ∀(n:Nat) (c:aD) {σ:St}{a:Act}{w:World}{S:Nat→Prop}{ρ:Name→Option Nat}{κ:Name→Nat},OK C σ.f a w S ρ κ→wpcN P C dr n c N E σ→(∀a w,dF C N a w→At P nt dr (aGY n c) Q a w)→At P nt dr c Q a w
 |0,c,σ,a,w,S,ρ,κ,hok,hv,hN=>hN a w ⟨σ,S,ρ,κ,hv,hok⟩
 | n + 1,.seq x y,σ,a,w,S,ρ,κ,hok,hv,hN=>At.seq (At.fw hdr hok hnt hv (fun a w hg=>by
     obtain⟨σ',S',ρ',κ',hv',hok'⟩:=hg;exact At.upto hdr hnt hE hR n y hok' hv' hN) (fun i a w hg=>hE i a w hg) fun a w hg=>hR a w hg)
 |n+1,.skip,_,_,_,_,_,_,_,hv,_=>hv.elim
 |n+1,.region ..,_,_,_,_,_,_,_,hv,_=>hv.elim
 |n+1,.cond ..,_,_,_,_,_,_,_,hv,_=>hv.elim
 |n+1,.block ..,_,_,_,_,_,_,_,hv,_=>hv.elim
 |n+1,.loop ..,_,_,_,_,_,_,_,hv,_=>hv.elim
 |n+1,.exit ..,_,_,_,_,_,_,_,hv,_=>hv.elim
 |n+1,.ret,_,_,_,_,_,_,_,hv,_=>hv.elim
 |n+1,.closing ..,_,_,_,_,_,_,_,hv,_=>hv.elim
 |n+1,.naming ..,_,_,_,_,_,_,_,hv,_=>hv.elim
theorem Later.refl (C:Ctx):Later C C:=⟨rfl,Nat.le_refl _,fun _ _ _=>rfl,fun _ h=>.inr h,fun _ h=>h,fun _ h=>.inl h,⟨rfl,rfl⟩,rfl,rfl,rfl⟩
attribute [go_sem] wpcN
end Go.Vs
