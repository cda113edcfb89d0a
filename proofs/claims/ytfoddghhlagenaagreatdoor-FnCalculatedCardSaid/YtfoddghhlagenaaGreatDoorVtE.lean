/- A law's contract, for all arguments, is the statement's answer. -/
import Derived.Test.YtfoddghhlagenaaGreatDoorVtC
import Derived.Test.YtfoddghhlagenaaGreatDoorVsQ
set_option linter.all false
set_option maxHeartbeats 8000000
namespace Go.Vs
section
variable [Envs]
open Go.ChangeShapes Go.RowKit
variable {P:Program}
def vH (P:Program) (fs:List Field) (o:Nat) {α:Type} (k:Nat) (e:α->List AV):Prop:=
 (∀a,(e a).length=k)∧∀(H:Type) (enc:TypeId×Value->H) (w:World) (sp:Nat->Bool) (fuel:Nat) (cs:List Value),
  (∀(i:Nat) (f:Field),fs[i]? = some f->∃x,DataW.trod enc P w 0 sp true fuel f.type ((cs.drop f.offset).take (P.cellsOf f.type))=some x)->
  ∃a,∀j,j<k->(cs.getD (o+j) undef).oneCell'=true∧RC (λb=>b<w.heap.size) w ((e a).getD j .junk) (cs.getD (o+j) undef)
theorem Opens.at {t:TypeId}{α:Type}{k:Nat}{e:α->List AV} (h:Opens P t k e) {H:Type}{enc:TypeId×Value->H}{w:World}{sp:Nat->Bool}{fuel:Nat}{cs:List Value}{o:Nat}{x:DataW H×List MemPlace}
  (hx:DataW.trod enc P w 0 sp true fuel t ((cs.drop o).take (P.cellsOf t))=some x) :
  ∃a,∀j,j<k->(cs.getD (o+j) undef).oneCell'=true∧RC (λb=>b<w.heap.size) w ((e a).getD j .junk) (cs.getD (o+j) undef):=by
 obtain⟨a,_,h2⟩:=h.2.2 H enc w sp fuel _ _ hx
 refine⟨a,λj hj=>?_⟩
 have:=h2 j hj
 have e1:((cs.drop o).take (P.cellsOf t)).getD j undef=cs.getD (o+j) undef:=by
  rw[h.1]
  simp[List.getD,hj]
 rwa [e1] at this
theorem vH.one {f:Field}{o:Nat}{α:Type}{k:Nat}{e:α->List AV} (h:Opens P f.type k e) (ho:f.offset=o):vH P [f] o k e:=by
 refine⟨h.2.1,λH enc w sp fuel cs hf=>?_⟩
 obtain⟨x,hx⟩:=hf 0 f rfl
 rw[ho] at hx
 exact h.at hx
theorem vH.cons {f:Field}{fs:List Field}{o:Nat}{α β:Type}{k k':Nat}{e:α->List AV}{e':β->List AV} (h:Opens P f.type k e) (ho:f.offset=o) (hs:vH P fs (o+k) k' e') :
  vH P (f::fs) o (k+k') (λp:α×β=>e p.1++e' p.2):=by
 refine⟨λp=>by simp[h.2.1,hs.1],λH enc w sp fuel cs hf=>?_⟩
 obtain⟨x,hx⟩:=hf 0 f rfl
 rw[ho] at hx
 obtain⟨a,ha⟩:=h.at hx
 obtain⟨b,hb⟩:=hs.2 H enc w sp fuel cs λi g hg=>hf (i+1) g (by simpa using hg)
 refine⟨(a,b),λj hj=>?_⟩
 by_cases hjk:j<k
 .have e1:(e a++e' b).getD j .junk=(e a).getD j .junk:=by
   simp[List.getD,List.getElem?_append_left (show j<(e a).length by rw[h.2.1];exact hjk)]
  rw[e1];exact ha j hjk
 .have e1:(e a++e' b).getD j .junk=(e' b).getD (j-k) .junk:=by
   simp[List.getD,List.getElem?_append_right (show(e a).length<=j by rw[h.2.1];omega),h.2.1]
  have:=hb (j-k) (by omega)
  rw[show o+k+(j-k)=o+j by omega] at this
  rw[e1];exact this
theorem Opens.struct {t:TypeId}{fs:Array Field}{α:Type}{k:Nat}{e:α->List AV} (h:P.underlying t=some (.struct fs)) (hc:P.cellsOf t=k) (hs:vH P fs.toList 0 k e):Opens P t k e:=by
 refine⟨hc,hs.1,λH enc w sp fuel cs x hx=>?_⟩
 obtain⟨xs,n,rfl,rfl,hl,hn,hf⟩:=DataW.trod_struct h hx
 obtain ⟨a,ha⟩:=hs.2 H enc w sp n cs λi f hif=>by
  have hif':fs[i]? = some f:=by simpa using hif
  have:=hf i f hif'
  have hi:i<fs.size:=(Array.getElem?_eq_some_iff.1 hif').1
  rw[List.getElem?_eq_getElem (by omega)] at this
  exact⟨_,this⟩
 exact⟨a,by rw[hl,hc],λj hj=>by simpa using ha j hj⟩
end
section
variable [Envs]
open Go.ChangeShapes Go.WideShapes Go.ChangeAt Go.RowKit
variable {P:Program}
def Arg (P:Program) (t:TypeId) {α:Type} (e:α->AV):Prop:=
 ∀ (H:Type) (enc:TypeId×Value->H) (W:World) (base:Nat) (v:Value) (d:DataW H) (p:List MemPlace),Value.okWide P W .any base t v->DataW.Trod enc P W 0 (λ_=>true) true t v d p->
  ∃a,RC (λb=>b<W.heap.size) W (e a) v
theorem Arg.struct {t:TypeId}{fs:Array Field}{α:Type}{k:Nat}{e:α->List AV} (h:P.underlying t=some (.struct fs)) (ho:Opens P t k e):Arg P t (λa=>.agg (e a)):=by
 intro H enc W base v d p hv hd
 obtain⟨cs,rfl,_⟩:=okWide_struct h hv
 exact aFt ho hd
theorem Arg.slice {t u:TypeId}{α:Type}{e:α->List AV} (h:P.underlying t=some (.slice u)) (ho:Opens P t 1 e):Arg P t (λa=>(e a).getD 0 .junk):=by
 intro H enc W base v d p hv hd
 obtain⟨a,len,cap,rfl⟩:=okWide_slice h hv
 exact aAq ho rfl hd
theorem Arg.int {t:TypeId}{k:IntKind} (h:P.underlying t=some (.int k)) (hc:P.cellsOf t=1):Arg P t (λn:{n:Int // (Lit.int k n).wf=true}=>.v (.int k n.1)):=by
 intro H enc W base v d p hv hd
 obtain⟨n,rfl⟩:=okWide_int h hv
 exact aAq (Opens.int h hc) rfl hd
theorem Arg.string {t:TypeId} (h:P.underlying t=some .string) (hc:P.cellsOf t=1):Arg P t (λs:{s:ByteArray // s.size<2 ^ 63}=>.v (.string s.1)):=by
 intro H enc W base v d p hv hd
 obtain⟨n,rfl⟩:=okWide_string h hv
 exact aAq (Opens.string h hc) rfl hd
def Args (P:Program) (ts:List TypeId) {A:Type} (e:A->List AV):Prop:=
 ∀ (H:Type) (enc:TypeId×Value->H) (W:World) (base:Nat) (vs:List Value) (ds:List (DataW H)) (p:List MemPlace),
  (∀(j:Nat) t v,ts[j]? = some t->vs[j]? = some v->Value.okWide P W .any base t v)->DataW.TrodAll enc P W 0 (λ_=>true) true ts vs ds p->
  ∃a,(e a).length=vs.length∧∀j,j<vs.length->RC (λb=>b<W.heap.size) W ((e a).getD j .junk) (vs.getD j undef)
theorem Args.nil:Args P [] (λ_:Unit=>[]):=by
 intro H enc W base vs ds p hv hA
 cases vs with
 |nil=>exact⟨(),rfl,by simp⟩
 |cons v vs=>cases ds<;>exact hA.elim
theorem Args.cons {t:TypeId}{ts:List TypeId}{α β:Type}{e:α->AV}{e':β->List AV} (h:Arg P t e) (hs:Args P ts e'):Args P (t::ts) (λp:α×β=>e p.1::e' p.2):=by
 intro H enc W base vs ds p hv hA
 cases vs with
 |nil=>cases ds<;>exact hA.elim
 | cons v vs=>cases ds with
  |nil=>exact hA.elim
  | cons d ds =>
   obtain⟨p1,q,h1,h2,_⟩:=hA
   obtain⟨a,ha⟩:=h H enc W base v d p1 (hv 0 t v rfl rfl) h1
   obtain⟨b,hb1,hb2⟩:=hs H enc W base vs ds q (λj t v ht hv'=>hv (j+1) t v (by simpa using ht) (by simpa using hv')) h2
   refine⟨(a,b),by simp[hb1],λj hj=>?_⟩
   cases j with
   |zero=>simpa using ha
   |succ j=>simpa using hb2 j (by simpa using hj)
theorem vJ {H:Type}{enc:TypeId×Value->H}{W:World}:∀{ts:List TypeId}{vs:List Value}{ds:List (DataW H)}{p:List MemPlace},DataW.TrodAll enc P W 0 (λ_=>true) true ts vs ds p->ds.length=ts.length
 | [],[],[],_,_=>rfl
 |_::ts,_::vs,_::ds,_,⟨_,_,_,h,_⟩=>by simp[vJ h]
 | [],[],_::_,_,h=>h.elim
 | [],_::_,_,_,h=>h.elim
 |_::_,[],_,_,h=>h.elim
 |_::_,_::_,[],_,h=>h.elim
end
end Go.Vs
