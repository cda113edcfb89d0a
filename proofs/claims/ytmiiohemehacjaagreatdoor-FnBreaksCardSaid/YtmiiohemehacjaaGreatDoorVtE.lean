/- A law's contract, for all arguments, is the statement's answer. -/
import Derived.Test.YtmiiohemehacjaaGreatDoorVtC
import Derived.Test.YtmiiohemehacjaaGreatDoorVsQ
set_option linter.all false
set_option maxHeartbeats 8000000
namespace Go.Vs
section
variable [Envs]
open Go.ChangeShapes Go.RowKit
variable {P:Program}
def aBL (P:Program) (fs:List Field) (o:Nat) {α:Type} (k:Nat) (e:α->List AV):Prop:=
 (∀a,(e a).length=k)∧∀(H:Type) (enc:TypeId×Value->H) (w:World) (sp:Nat->Bool) (fuel:Nat) (cs:List Value),
  (∀(i:Nat) (f:Field),fs[i]? = some f->∃x,DataW.trod enc P w 0 sp true fuel f.type ((cs.drop f.offset).take (P.cellsOf f.type))=some x)->
  ∃a,∀j,j<k->(cs.getD (o+j) undef).oneCell'=true∧RC (λb=>b<w.heap.size) w ((e a).getD j .junk) (cs.getD (o+j) undef)
theorem Opens.at {t:TypeId}{α:Type}{k:Nat}{e:α->List AV} (h:Opens P t k e) {H:Type}{enc:TypeId×Value->H}{w:World}{F:Nat->Bool}{fuel:Nat}{cs:List Value}{o:Nat}{x:DataW H×List MemPlace}
  (I:DataW.trod enc P w 0 F true fuel t ((cs.drop o).take (P.cellsOf t))=some x) :
  ∃a,∀j,j<k->(cs.getD (o+j) undef).oneCell'=true∧RC (λb=>b<w.heap.size) w ((e a).getD j .junk) (cs.getD (o+j) undef):=by
 obtain⟨a,_,h2⟩:=h.2.2 H enc w F fuel _ _ I;refine⟨a,λj u=>?_⟩;have:=h2 j u
 have G:((cs.drop o).take (P.cellsOf t)).getD j undef=cs.getD (o+j) undef:=by
  rw[h.1];simp[List.getD,u]
 rwa [G] at this
theorem aBL.one {f:Field}{o:Nat}{α:Type}{k:Nat}{e:α->List AV} (h:Opens P f.type k e) (G:f.offset=o):aBL P [f] o k e:=by
 refine⟨h.2.1,λH enc w I fuel cs F=>?_⟩;obtain⟨x,u⟩:=F 0 f rfl;rw[G] at u;exact h.at u
theorem aBL.cons {f:Field}{I:List Field}{o:Nat}{α β:Type}{k O:Nat}{e:α->List AV}{u:β->List AV} (h:Opens P f.type k e) (Z:f.offset=o) (L:aBL P I (o+k) O u) :
  aBL P (f::I) o (k+O) (λp:α×β=>e p.1++u p.2):=by
 refine⟨λp=>by simp[h.2.1,L.1],λH enc w sp fuel cs J=>?_⟩;obtain⟨x,M⟩:=J 0 f rfl;rw[Z] at M;obtain⟨a,U⟩:=h.at M;obtain⟨b,V⟩:=L.2 H enc w sp fuel cs λi g Y=>J (i+1) g (by simpa using Y);refine⟨(a,b),λj hj=>?_⟩;by_cases F:j<k
 .have G:(e a++u b).getD j .junk=(e a).getD j .junk:=by
   simp[List.getD,BB (show j<(e a).length by rw[h.2.1];exact F)]
  rw[G];exact U j F
 .have G:(e a++u b).getD j .junk=(u b).getD (j-k) .junk:=by
   simp[List.getD,Bv (show(e a).length<=j by rw[h.2.1];omega),h.2.1]
  have:=V (j-k) (by omega);rw[show o+k+(j-k)=o+j by omega] at this;rw[G];exact this
theorem Opens.struct {t:TypeId}{F:Array Field}{α:Type}{k:Nat}{e:α->List AV} (h:P.underlying t=some (.struct F)) (I:P.cellsOf t=k) (J:aBL P F.toList 0 k e):Opens P t k e:=by
 refine⟨I,J.1,λH enc w Y fuel cs x V=>?_⟩;obtain⟨xs,n,rfl,rfl,U,Z,M⟩:=DataW.trod_struct h V
 obtain ⟨a,L⟩:=J.2 H enc w Y n cs λi f G=>by
  have u:F[i]? = some f:=by simpa using G
  have:=M i f u;have hi:i<F.size:=(Cc.1 u).1;rw[Bf (by omega)] at this;exact⟨_,this⟩
 exact⟨a,by rw[U,I],λj O=>by simpa using L j O⟩
end
section
variable [Envs]
open Go.ChangeShapes Go.WideShapes Go.ChangeAt Go.RowKit
variable {P:Program}
def Arg (P:Program) (t:TypeId) {α:Type} (e:α->AV):Prop:=
 ∀ (H:Type) (enc:TypeId×Value->H) (W:World) (base:Nat) (v:Value) (d:DataW H) (p:List MemPlace),Value.okWide P W .any base t v->DataW.Trod enc P W 0 (λ_=>true) true t v d p->
  ∃a,RC (λb=>b<W.heap.size) W (e a) v
theorem Arg.struct {t:TypeId}{F:Array Field}{α:Type}{k:Nat}{e:α->List AV} (h:P.underlying t=some (.struct F)) (I:Opens P t k e):Arg P t (λa=>.agg (e a)):=by
 intro H enc W u v d p J G;obtain⟨cs,rfl,_⟩:=okWide_struct h J;exact aL2 I G
theorem Arg.slice {t u:TypeId}{α:Type}{e:α->List AV} (h:P.underlying t=some (.slice u)) (I:Opens P t 1 e):Arg P t (λa=>(e a).getD 0 .junk):=by
 intro H enc W F v d p J G;obtain⟨a,len,cap,rfl⟩:=okWide_slice h J;exact aE6 I rfl G
theorem Arg.int {t:TypeId}{k:IntKind} (h:P.underlying t=some (.int k)) (F:P.cellsOf t=1):Arg P t (λn:{n:Int // (Lit.int k n).wf=true}=>.v (.int k n.1)):=by
 intro H enc W u v d p I G;obtain⟨n,rfl⟩:=okWide_int h I;exact aE6 (Opens.int h F) rfl G
theorem Arg.string {t:TypeId} (h:P.underlying t=some .string) (F:P.cellsOf t=1):Arg P t (λs:{s:ByteArray // s.size<2 ^ 63}=>.v (.string s.1)):=by
 intro H enc W u v d p I G;obtain⟨n,rfl⟩:=okWide_string h I;exact aE6 (Opens.string h F) rfl G
def Args (P:Program) (ts:List TypeId) {A:Type} (e:A->List AV):Prop:=
 ∀ (H:Type) (enc:TypeId×Value->H) (W:World) (base:Nat) (vs:List Value) (ds:List (DataW H)) (p:List MemPlace),
  (∀(j:Nat) t v,ts[j]? = some t->vs[j]? = some v->Value.okWide P W .any base t v)->DataW.TrodAll enc P W 0 (λ_=>true) true ts vs ds p->
  ∃a,(e a).length=vs.length∧∀j,j<vs.length->RC (λb=>b<W.heap.size) W ((e a).getD j .junk) (vs.getD j undef)
theorem Args.nil:Args P [] (λ_:Unit=>[]):=by
 intro H enc W u vs F p I G;cases vs with
 |nil=>exact⟨(),rfl,by simp⟩
 |cons v vs=>cases F<;>exact G.elim
theorem Args.cons {t:TypeId}{U:List TypeId}{α β:Type}{e:α->AV}{M:β->List AV} (h:Arg P t e) (hs:Args P U M):Args P (t::U) (λp:α×β=>e p.1::M p.2):=by
 intro H enc W u vs F p O G;cases vs with
 |nil=>cases F<;>exact G.elim
 | cons v vs=>cases F with
  |nil=>exact G.elim
  | cons d F =>
   obtain⟨p1,q,V,h2,_⟩:=G;obtain⟨a,Y⟩:=h H enc W u v d p1 (O 0 t v rfl rfl) V;obtain⟨b,I,J⟩:=hs H enc W u vs F q (λj t v ht L=>O (j+1) t v (by simpa using ht) (by simpa using L)) h2;refine⟨(a,b),by simp[I],λj Z=>?_⟩;cases j with
   |zero=>simpa using Y
   |succ j=>simpa using J j (by simpa using Z)
theorem aBQ {H:Type}{enc:TypeId×Value->H}{W:World}:∀{F:List TypeId}{vs:List Value}{u:List (DataW H)}{p:List MemPlace},DataW.TrodAll enc P W 0 (λ_=>true) true F vs u p->u.length=F.length
 | [],[],[],_,_=>rfl
 |_::F,_::vs,_::u,_,⟨_,_,_,h,_⟩=>by simp[aBQ h]
 | [],[],_::_,_,h=>h.elim
 | [],_::_,_,_,h=>h.elim
 |_::_,[],_,_,h=>h.elim
 |_::_,_::_,[],_,h=>h.elim
end
end Go.Vs
