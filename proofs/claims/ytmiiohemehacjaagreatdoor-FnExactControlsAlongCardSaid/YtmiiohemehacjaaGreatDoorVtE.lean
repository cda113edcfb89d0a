/- A law's contract, for all arguments, is the statement's answer. -/
import Derived.Test.YtmiiohemehacjaaGreatDoorVtC
import Derived.Test.YtmiiohemehacjaaGreatDoorVsQ
set_option linter.all false
set_option maxHeartbeats 8000000
namespace Go.Vs
section
variable [Envs]
open Go.ChangeShapes Go.RowKit
variable {P:Program}
def dL (P:Program) (fs:List Field) (o:Nat) {α:Type} (k:Nat) (e:α->List AV):Prop:=
 (∀a,(e a).length=k)∧∀(H:Type) (enc:TypeId×Value->H) (w:World) (sp:Nat->Bool) (fuel:Nat) (cs:List Value),
  (∀(i:Nat) (f:Field),fs[i]? = some f->∃x,DataW.trod enc P w 0 sp true fuel f.type ((cs.drop f.offset).take (P.cellsOf f.type))=some x)->
  ∃a,∀j,j<k->(cs.getD (o+j) undef).oneCell'=true∧RC (λb=>b<w.heap.size) w ((e a).getD j .junk) (cs.getD (o+j) undef)
theorem bM.at {t:TypeId}{α:Type}{k:Nat}{e:α->List AV} (h:bM P t k e) {H:Type}{enc:TypeId×Value->H}{w:World}{I:Nat->Bool}{fuel:Nat}{cs:List Value}{o:Nat}{x:DataW H×List MemPlace}
  (L:DataW.trod enc P w 0 I true fuel t ((cs.drop o).take (P.cellsOf t))=some x) :
  ∃a,∀j,j<k->(cs.getD (o+j) undef).oneCell'=true∧RC (λb=>b<w.heap.size) w ((e a).getD j .junk) (cs.getD (o+j) undef):=by
 obtain⟨a,_,h2⟩:=h.2.2 H enc w I fuel _ _ L;refine⟨a,λj F=>?_⟩;have:=h2 j F
 have J:((cs.drop o).take (P.cellsOf t)).getD j undef=cs.getD (o+j) undef:=by
  rw[h.1];simp[List.getD,F]
 rwa [J] at this
theorem dL.one {f:Field}{o:Nat}{α:Type}{k:Nat}{e:α->List AV} (h:bM P f.type k e) (J:f.offset=o):dL P [f] o k e:=by
 refine⟨h.2.1,λH enc w L fuel cs I=>?_⟩;obtain⟨x,F⟩:=I 0 f rfl;rw[J] at F;exact h.at F
theorem dL.cons {f:Field}{L:List Field}{o:Nat}{α β:Type}{k Z:Nat}{e:α->List AV}{F:β->List AV} (h:bM P f.type k e) (ho:f.offset=o) (U:dL P L (o+k) Z F) :
  dL P (f::L) o (k+Z) (λp:α×β=>e p.1++F p.2):=by
 refine⟨λp=>by simp[h.2.1,U.1],λH enc w sp fuel cs O=>?_⟩;obtain⟨x,Y⟩:=O 0 f rfl;rw[ho] at Y;obtain⟨a,ha⟩:=h.at Y;obtain⟨b,hb⟩:=U.2 H enc w sp fuel cs λi g hg=>O (i+1) g (by simpa using hg);refine⟨(a,b),λj hj=>?_⟩;by_cases I:j<k
 .have J:(e a++F b).getD j .junk=(e a).getD j .junk:=by
   simp[List.getD,List.getElem?_append_left (show j<(e a).length by rw[h.2.1];exact I)]
  rw[J];exact ha j I
 .have J:(e a++F b).getD j .junk=(F b).getD (j-k) .junk:=by
   simp[List.getD,List.getElem?_append_right (show(e a).length<=j by rw[h.2.1];omega),h.2.1]
  have:=hb (j-k) (by omega);rw[show o+k+(j-k)=o+j by omega] at this;rw[J];exact this
theorem dL.one' {L:List Field}{f:Field}{o K:Nat}{α:Type}{k:Nat}{e F:α->List AV} (I:L=[f]) (h:bM P f.type k e) (O:f.offset=o) (J:K=k) (H:F=e):dL P L o K F:=by
 subst I;subst J;subst H;exact dL.one h O
theorem dL.cons' {L:List Field}{f:Field}{I:List Field}{o K:Nat}{α β:Type}{k J:Nat}{e:α->List AV}{H:β->List AV}{F:α×β->List AV} (U:L=f::I) (h:bM P f.type k e) (Z:f.offset=o) (hs:dL P I (o+k) J H)
  (Y:K=k+J) (O:F=λp:α×β=>e p.1++H p.2):dL P L o K F:=by
 subst U;subst Y;subst O;exact dL.cons h Z hs
theorem bM.struct {t:TypeId}{I:Array Field}{α:Type}{k:Nat}{e:α->List AV} (h:P.underlying t=some (.struct I)) (L:P.cellsOf t=k) (O:dL P I.toList 0 k e):bM P t k e:=by
 refine⟨L,O.1,λH enc w sp fuel cs x hx=>?_⟩;obtain⟨xs,n,rfl,rfl,hl,hn,Y⟩:=DataW.trod_struct h hx
 obtain ⟨a,U⟩:=O.2 H enc w sp n cs λi f J=>by
  have F:I[i]? = some f:=by simpa using J
  have:=Y i f F;have hi:i<I.size:=(Array.getElem?_eq_some_iff.1 F).1;rw[List.getElem?_eq_getElem (by omega)] at this;exact⟨_,this⟩
 exact⟨a,by rw[hl,L],λj Z=>by simpa using U j Z⟩
abbrev I64:={n:Int // (Lit.int .i64 n).wf=true}
theorem I64.range (n:I64):-9223372036854775808<=n.1∧n.1<=9223372036854775807:=by
 have h:=n.2;simp only[Lit.wf,Bool.and_eq_true,decide_eq_true_eq] at h;exact h
end
section
variable [Envs]
open Go.ChangeShapes Go.WideShapes Go.ChangeAt Go.RowKit
variable {P:Program}
def Arg (P:Program) (t:TypeId) {α:Type} (e:α->AV):Prop:=
 ∀ (H:Type) (enc:TypeId×Value->H) (W:World) (base:Nat) (v:Value) (d:DataW H) (p:List MemPlace),Value.okWide P W .any base t v->DataW.Trod enc P W 0 (λ_=>true) true t v d p->
  ∃a,RC (λb=>b<W.heap.size) W (e a) v
theorem Arg.struct {t:TypeId}{F:Array Field}{α:Type}{k:Nat}{e:α->List AV} (h:P.underlying t=some (.struct F)) (J:bM P t k e):Arg P t (λa=>.agg (e a)):=by
 intro H enc W base v d p L I;obtain⟨cs,rfl,_⟩:=okWide_struct h L;exact aMu J I
theorem Arg.slice {t u:TypeId}{α:Type}{e:α->List AV} (h:P.underlying t=some (.slice u)) (I:bM P t 1 e):Arg P t (λa=>(e a).getD 0 .junk):=by
 intro H enc W base v d p J F;obtain⟨a,len,cap,rfl⟩:=okWide_slice h J;exact aEZ I rfl F
theorem Arg.int {t:TypeId}{k:IntKind} (h:P.underlying t=some (.int k)) (F:P.cellsOf t=1):Arg P t (λn:{n:Int // (Lit.int k n).wf=true}=>.v (.int k n.1)):=by
 intro H enc W base v d p J I;obtain⟨n,rfl⟩:=okWide_int h J;exact aEZ (bM.int h F) rfl I
theorem Arg.string {t:TypeId} (h:P.underlying t=some .string) (F:P.cellsOf t=1):Arg P t (λs:{s:ByteArray // s.size<2 ^ 63}=>.v (.string s.1)):=by
 intro H enc W base v d p J I;obtain⟨n,rfl⟩:=okWide_string h J;exact aEZ (bM.string h F) rfl I
def Args (P:Program) (ts:List TypeId) {A:Type} (e:A->List AV):Prop:=
 ∀ (H:Type) (enc:TypeId×Value->H) (W:World) (base:Nat) (vs:List Value) (ds:List (DataW H)) (p:List MemPlace),
  (∀(j:Nat) t v,ts[j]? = some t->vs[j]? = some v->Value.okWide P W .any base t v)->DataW.TrodAll enc P W 0 (λ_=>true) true ts vs ds p->
  ∃a,(e a).length=vs.length∧∀j,j<vs.length->RC (λb=>b<W.heap.size) W ((e a).getD j .junk) (vs.getD j undef)
theorem Args.nil:Args P [] (λ_:Unit=>[]):=by
 intro H enc W base vs F p J I;cases vs with
 |nil=>exact⟨(),rfl,by simp⟩
 |cons v vs=>cases F<;>exact I.elim
theorem Args.cons {t:TypeId}{ts:List TypeId}{α β:Type}{e:α->AV}{U:β->List AV} (h:Arg P t e) (hs:Args P ts U):Args P (t::ts) (λp:α×β=>e p.1::U p.2):=by
 intro H enc W base vs F p Y I;cases vs with
 |nil=>cases F<;>exact I.elim
 | cons v vs=>cases F with
  |nil=>exact I.elim
  | cons d F =>
   obtain⟨p1,q,Z,h2,_⟩:=I;obtain⟨a,ha⟩:=h H enc W base v d p1 (Y 0 t v rfl rfl) Z;obtain⟨b,J,L⟩:=hs H enc W base vs F q (λj t v ht O=>Y (j+1) t v (by simpa using ht) (by simpa using O)) h2;refine⟨(a,b),by simp[J],λj hj=>?_⟩;cases j with
   |zero=>simpa using ha
   |succ j=>simpa using L j (by simpa using hj)
theorem aBw {H:Type}{enc:TypeId×Value->H}{W:World}:∀{ts:List TypeId}{vs:List Value}{F:List (DataW H)}{p:List MemPlace},DataW.TrodAll enc P W 0 (λ_=>true) true ts vs F p->F.length=ts.length
 | [],[],[],_,_=>rfl
 |_::ts,_::vs,_::F,_,⟨_,_,_,h,_⟩=>by simp[aBw h]
 | [],[],_::_,_,h=>h.elim
 | [],_::_,_,_,h=>h.elim
 |_::_,[],_,_,h=>h.elim
 |_::_,_::_,[],_,h=>h.elim
end
end Go.Vs
