/- A law's contract, for all arguments, is the statement's answer. -/
import Derived.Test.YtklmdppgonhflaaGreatDoorVtC
import Derived.Test.YtklmdppgonhflaaGreatDoorVsQ
set_option linter.all false
set_option maxHeartbeats 8000000
namespace Go.Vs
section
variable [Envs]
open Go.ChangeShapes Go.RowKit
variable {P:Program}
end
section
variable [Envs]
open Go.ChangeShapes Go.WideShapes Go.ChangeAt Go.RowKit
variable {P:Program}
def Arg (P:Program) (t:TypeId) {α:Type} (e:α->AV):Prop:=
 ∀ (H:Type) (enc:TypeId×Value->H) (W:World) (base:Nat) (v:Value) (d:DataW H) (p:List MemPlace),Value.okWide P W .any base t v->DataW.Trod enc P W 0 (λ_=>true) true t v d p->
  ∃a,RC (λb=>b<W.heap.size) W (e a) v
theorem Arg.slice {t u:TypeId}{α:Type}{e:α->List AV} (h:P.underlying t=some (.slice u)) (I:Opens P t 1 e):Arg P t (λa=>(e a).getD 0 .junk):=by
 intro H enc W F v d p J G;obtain⟨a,len,cap,rfl⟩:=okWide_slice h J;exact aFG I rfl G
def Args (P:Program) (ts:List TypeId) {A:Type} (e:A->List AV):Prop:=
 ∀ (H:Type) (enc:TypeId×Value->H) (W:World) (base:Nat) (vs:List Value) (ds:List (DataW H)) (p:List MemPlace),
  (∀(j:Nat) t v,ts[j]? = some t->vs[j]? = some v->Value.okWide P W .any base t v)->DataW.TrodAll enc P W 0 (λ_=>true) true ts vs ds p->
  ∃a,(e a).length=vs.length∧∀j,j<vs.length->RC (λb=>b<W.heap.size) W ((e a).getD j .junk) (vs.getD j undef)
theorem Args.nil:Args P [] (λ_:Unit=>[]):=by
 intro H enc W F vs G p J I;cases vs with
 |nil=>exact⟨(),rfl,by simp⟩
 |cons v vs=>cases G<;>exact I.elim
theorem Args.cons {t:TypeId}{ts:List TypeId}{α β:Type}{e:α->AV}{U:β->List AV} (h:Arg P t e) (hs:Args P ts U):Args P (t::ts) (λp:α×β=>e p.1::U p.2):=by
 intro H enc W F vs G p V I;cases vs with
 |nil=>cases G<;>exact I.elim
 | cons v vs=>cases G with
  |nil=>exact I.elim
  | cons d G =>
   obtain⟨p1,q,Y,h2,_⟩:=I;obtain⟨a,Z⟩:=h H enc W F v d p1 (V 0 t v rfl rfl) Y;obtain⟨b,J,M⟩:=hs H enc W F vs G q (λj t v ht O=>V (j+1) t v (by simpa using ht) (by simpa using O)) h2;refine⟨(a,b),by simp[J],λj hj=>?_⟩;cases j with
   |zero=>simpa using Z
   |succ j=>simpa using M j (by simpa using hj)
theorem aCc {H:Type}{enc:TypeId×Value->H}{W:World}:∀{ts:List TypeId}{vs:List Value}{F:List (DataW H)}{p:List MemPlace},DataW.TrodAll enc P W 0 (λ_=>true) true ts vs F p->F.length=ts.length
 | [],[],[],_,_=>rfl
 |_::ts,_::vs,_::F,_,⟨_,_,_,h,_⟩=>by simp[aCc h]
 | [],[],_::_,_,h=>h.elim
 | [],_::_,_,_,h=>h.elim
 |_::_,[],_,_,h=>h.elim
 |_::_,_::_,[],_,h=>h.elim
end
end Go.Vs
