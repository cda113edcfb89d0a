/- Walks begun anew, at values that are known of old. -/
import Derived.Test.YtmiiohemehacjaaGreatDoorVtZ
set_option linter.all false
set_option maxHeartbeats 8000000
namespace Go.Vs
variable {P:Program}
open Classical in
@[reducible] noncomputable def keepE (S : Nat -> Prop) (w : World) : Envs := ⟨((List.range w.heap.size).filter λb => decide (S b)).map λb => (b, λo => o = w.heap[b]?)⟩
structure aBM (w w':World):Prop where
 size:w.heap.size<=w'.heap.size
 old:∀b,b<w.heap.size->w'.heap[b]? = w.heap[b]?
 out:w'.os=w.os∧w'.output=w.output
theorem aBM.refl (w:World):aBM w w:=⟨AL _,λ_ _=>rfl,rfl,rfl⟩
theorem aBM.trans {w w' u:World} (h:aBM w w') (h':aBM w' u):aBM w u:=
 ⟨BJ h.size h'.size,λb F=>(h'.old b (BR F h.size)).trans (h.old b F),h'.out.1.trans h.out.1,h'.out.2.trans h.out.2⟩
theorem aBM.rc {w w':World} (h:aBM w w') {S:Nat->Prop} (u:∀b,S b->b<w.heap.size) {x:AV}{v:Value} (G:RC S w x v):RC S w' x v:=
 letI:Envs:=⟨[]⟩
 G.mono (λ_ h=>h) λb F=>h.old b (u b F)
theorem aBM.env [Envs] {w w':World} (h:aBM w w') {S:Nat->Prop} (u:∀b,S b->b<w.heap.size) (G:Env S w):Env S w':=
 G.mono (λ_ h=>h) λb F=>h.old b (u b F)
theorem l8.has {f:FuncId}{fn:Func}{ac:aF} (h:l8 P f fn ac):wP P f:=by
 obtain⟨F,h2,G⟩:=h;obtain⟨u,H,_⟩:=Ca.1 h2;exact⟨fn,u,F,H,by simpa using G⟩
def wpcN [Envs] (P:Program) (C:Ctx) (dr:Nat->Array Oper->Option (List Nat)):Nat->aF->(St->Prop)->(kT->St->Prop)->St->Prop
 |0,_,N,_,σ=>N σ
 |n+1,.seq x y,N,E,σ=>wpc P C dr x (wpcN P C dr n y N E) E σ
 |_+1,_,_,_,_=>False
variable {nt:Nat}{dr:Nat->Array Oper->Option (List Nat)}{Q:Exit->Act->World->Prop}
theorem Later.refl (C:Ctx):Later C C:=⟨rfl,AL _,λ_ _ _=>rfl,λ_ h=>.inr h,λ_ h=>h,λ_ h=>.inl h,⟨rfl,rfl⟩,rfl,rfl,rfl⟩
attribute [go_sem] wpcN
end Go.Vs
