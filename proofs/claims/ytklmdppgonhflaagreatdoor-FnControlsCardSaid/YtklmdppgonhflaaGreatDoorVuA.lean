/- Walks begun anew, at values that are known of old. -/
import Derived.Test.YtklmdppgonhflaaGreatDoorVtZ
set_option linter.all false
set_option maxHeartbeats 8000000
namespace Go.Vs
variable {P:Program}
open Classical in
@[reducible] noncomputable def keepE (S : Nat -> Prop) (w : World) : Envs := ⟨((List.range w.heap.size).filter λb => decide (S b)).map λb => (b, λo => o = w.heap[b]?)⟩
structure r9 (w w':World):Prop where
 size:w.heap.size<=w'.heap.size
 old:∀b,b<w.heap.size->w'.heap[b]? = w.heap[b]?
 out:w'.os=w.os∧w'.output=w.output
theorem r9.trans {w w' F:World} (h:r9 w w') (h':r9 w' F):r9 w F:=
 ⟨Bl h.size h'.size,λb G=>(h'.old b (AZ G h.size)).trans (h.old b G),h'.out.1.trans h.out.1,h'.out.2.trans h.out.2⟩
theorem r9.env [Envs] {w w':World} (h:r9 w w') {S:Nat->Prop} (F:∀b,S b->b<w.heap.size) (H:Env S w):Env S w':=
 H.mono (λ_ h=>h) λb G=>h.old b (F b G)
def wP:Nat->aD->aD
 |0,c=>c
 |n+1,.seq _ y=>wP n y
 |_+1,c=>c
def wpcN [Envs] (P:Program) (C:Ctx) (dr:Nat->Array Oper->Option (List Nat)):Nat->aD->(St->Prop)->(kW->St->Prop)->St->Prop
 |0,_,N,_,σ=>N σ
 |n+1,.seq x y,N,E,σ=>wpc P C dr x (wpcN P C dr n y N E) E σ
 |_+1,_,_,_,_=>False
variable {nt:Nat}{dr:Nat->Array Oper->Option (List Nat)}{Q:Exit->Act->World->Prop}
attribute [go_sem] wpcN
end Go.Vs
