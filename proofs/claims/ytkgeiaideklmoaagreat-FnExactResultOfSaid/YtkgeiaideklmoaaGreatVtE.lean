/- A law's contract, for all arguments, is the statement's answer. -/
import Derived.Test.YtkgeiaideklmoaaGreatVtC
import Derived.Test.YtkgeiaideklmoaaGreatVsQ
set_option linter.all false
set_option maxHeartbeats 8000000
namespace Go.Vs
section
variable [Envs]
open Go.ChangeShapes Go.RowKit
variable {P:Program}
def fQ (P:Program) (fs:List Field) (o:Nat) {α:Type} (k:Nat) (e:α→List AV):Prop:=
 (∀a,(e a).length=k)∧∀(H:Type) (enc:TypeId×Value→H) (w:World) (sp:Nat→Bool) (fuel:Nat) (cs:List Value),
  (∀(i:Nat) (f:Field),fs[i]? = some f→∃x,DataW.trod enc P w 0 sp true fuel f.type ((cs.drop f.offset).take (P.cellsOf f.type))=some x)→
  ∃a,∀j,j<k→(cs.getD (o+j) undef).oneCell'=true∧RC (fun b=>b<w.heap.size) w ((e a).getD j .junk) (cs.getD (o+j) undef)
theorem dE.at {t:TypeId}{α:Type}{k:Nat}{e:α→List AV} (h:dE P t k e) {H:Type}{enc:TypeId×Value→H}{w:World}{G:Nat→Bool}{fuel:Nat}{cs:List Value}{o:Nat}{x:DataW H×List MemPlace}
  (J:DataW.trod enc P w 0 G true fuel t ((cs.drop o).take (P.cellsOf t))=some x) :
  ∃a,∀j,j<k→(cs.getD (o+j) undef).oneCell'=true∧RC (fun b=>b<w.heap.size) w ((e a).getD j .junk) (cs.getD (o+j) undef):=by
 obtain⟨a,_,h2⟩:=h.2.2 H enc w G fuel _ _ J;refine⟨a,fun j F=>?_⟩;have:=h2 j F
 have I:((cs.drop o).take (P.cellsOf t)).getD j undef=cs.getD (o+j) undef:=by
  rw[h.1];simp[List.getD,F]
 rwa [I] at this
theorem fQ.one {f:Field}{o:Nat}{α:Type}{k:Nat}{e:α→List AV} (h:dE P f.type k e) (I:f.offset=o):fQ P [f] o k e:=by
 refine⟨h.2.1,fun H enc w J fuel cs G=>?_⟩;obtain⟨x,F⟩:=G 0 f rfl;rw[I] at F;exact h.at F
theorem fQ.cons {f:Field}{J:List Field}{o:Nat}{α β:Type}{k U:Nat}{e:α→List AV}{F:β→List AV} (h:dE P f.type k e) (ho:f.offset=o) (M:fQ P J (o+k) U F) :
  fQ P (f::J) o (k+U) (fun p:α×β=>e p.1++F p.2):=by
 refine⟨fun p=>by simp[h.2.1,M.1],fun H enc w sp fuel cs L=>?_⟩;obtain⟨x,O⟩:=L 0 f rfl;rw[ho] at O;obtain⟨a,Y⟩:=h.at O;obtain⟨b,hb⟩:=M.2 H enc w sp fuel cs fun i g hg=>L (i+1) g (by simpa using hg);refine⟨(a,b),fun j hj=>?_⟩;by_cases G:j<k
 ·have I:(e a++F b).getD j .junk=(e a).getD j .junk:=by
   simp[List.getD,List.getElem?_append_left (show j<(e a).length by rw[h.2.1];exact G)]
  rw[I];exact Y j G
 ·have I:(e a++F b).getD j .junk=(F b).getD (j-k) .junk:=by
   simp[List.getD,List.getElem?_append_right (show(e a).length≤j by rw[h.2.1];omega),h.2.1]
  have:=hb (j-k) (by omega);rw[show o+k+(j-k)=o+j by omega] at this;rw[I];exact this
theorem fQ.one' {L:List Field}{f:Field}{o K:Nat}{α:Type}{k:Nat}{e F:α→List AV} (H:L=[f]) (h:dE P f.type k e) (J:f.offset=o) (I:K=k) (G:F=e):fQ P L o K F:=by
 subst H;subst I;subst G;exact fQ.one h J
theorem fQ.cons' {L:List Field}{f:Field}{H:List Field}{o K:Nat}{α β:Type}{k I:Nat}{e:α→List AV}{G:β→List AV}{F:α×β→List AV} (M:L=f::H) (h:dE P f.type k e) (U:f.offset=o) (Y:fQ P H (o+k) I G)
  (O:K=k+I) (J:F=fun p:α×β=>e p.1++G p.2):fQ P L o K F:=by
 subst M;subst O;subst J;exact fQ.cons h U Y
theorem dE.struct {t:TypeId}{G:Array Field}{α:Type}{k:Nat}{e:α→List AV} (h:P.underlying t=some (.struct G)) (J:P.cellsOf t=k) (L:fQ P G.toList 0 k e):dE P t k e:=by
 refine⟨J,L.1,fun H enc w sp fuel cs x hx=>?_⟩;obtain⟨xs,n,rfl,rfl,Y,hn,O⟩:=DataW.trod_struct h hx
 obtain ⟨a,M⟩:=L.2 H enc w sp n cs fun i f I=>by
  have F:G[i]? = some f:=by simpa using I
  have:=O i f F;have hi:i<G.size:=(Array.getElem?_eq_some_iff.1 F).1;rw[List.getElem?_eq_getElem (by omega)] at this;exact⟨_,this⟩
 exact⟨a,by rw[Y,J],fun j U=>by simpa using M j U⟩
abbrev I64:={n:Int // (Lit.int .i64 n).wf=true}
theorem I64.range (n:I64):-9223372036854775808≤n.1∧n.1≤9223372036854775807:=by
 have h:=n.2;simp only[Lit.wf,Bool.and_eq_true,decide_eq_true_eq] at h;exact h
end
section
variable [Envs]
open Go.ChangeShapes Go.WideShapes Go.ChangeAt Go.RowKit
variable {P:Program}
def Arg (P:Program) (t:TypeId) {α:Type} (e:α→AV):Prop:=
 ∀ (H:Type) (enc:TypeId×Value→H) (W:World) (base:Nat) (v:Value) (d:DataW H) (p:List MemPlace),Value.okWide P W .any base t v→DataW.Trod enc P W 0 (fun _=>true) true t v d p→
  ∃a,RC (fun b=>b<W.heap.size) W (e a) v
theorem Arg.struct {t:TypeId}{F:Array Field}{α:Type}{k:Nat}{e:α→List AV} (h:P.underlying t=some (.struct F)) (I:dE P t k e):Arg P t (fun a=>.agg (e a)):=by
 intro H enc W base v d p J G;obtain⟨cs,rfl,_⟩:=okWide_struct h J;exact aKQ I G
theorem Arg.slice {t u:TypeId}{α:Type}{e:α→List AV} (h:P.underlying t=some (.slice u)) (G:dE P t 1 e):Arg P t (fun a=>(e a).getD 0 .junk):=by
 intro H enc W base v d p I F;obtain⟨a,len,cap,rfl⟩:=okWide_slice h I;exact aDY G rfl F
theorem Arg.int {t:TypeId}{k:IntKind} (h:P.underlying t=some (.int k)) (F:P.cellsOf t=1):Arg P t (fun n:{n:Int // (Lit.int k n).wf=true}=>.v (.int k n.1)):=by
 intro H enc W base v d p I G;obtain⟨n,rfl⟩:=okWide_int h I;exact aDY (dE.int h F) rfl G
theorem Arg.string {t:TypeId} (h:P.underlying t=some .string) (F:P.cellsOf t=1):Arg P t (fun s:{s:ByteArray // s.size<2 ^ 63}=>.v (.string s.1)):=by
 intro H enc W base v d p I G;obtain⟨n,rfl⟩:=okWide_string h I;exact aDY (dE.string h F) rfl G
def Args (P:Program) (ts:List TypeId) {A:Type} (e:A→List AV):Prop:=
 ∀ (H:Type) (enc:TypeId×Value→H) (W:World) (base:Nat) (vs:List Value) (ds:List (DataW H)) (p:List MemPlace),
  (∀(j:Nat) t v,ts[j]? = some t→vs[j]? = some v→Value.okWide P W .any base t v)→DataW.TrodAll enc P W 0 (fun _=>true) true ts vs ds p→
  ∃a,(e a).length=vs.length∧∀j,j<vs.length→RC (fun b=>b<W.heap.size) W ((e a).getD j .junk) (vs.getD j undef)
theorem Args.nil:Args P [] (fun _:Unit=>[]):=by
 intro H enc W base vs F p I G;cases vs with
 |nil=>exact⟨(),rfl,by simp⟩
 |cons v vs=>cases F<;>exact G.elim
theorem Args.cons {t:TypeId}{ts:List TypeId}{α β:Type}{e:α→AV}{M:β→List AV} (h:Arg P t e) (hs:Args P ts M):Args P (t::ts) (fun p:α×β=>e p.1::M p.2):=by
 intro H enc W base vs F p O G;cases vs with
 |nil=>cases F<;>exact G.elim
 | cons v vs=>cases F with
  |nil=>exact G.elim
  | cons d F =>
   obtain⟨p1,q,U,h2,_⟩:=G;obtain⟨a,Y⟩:=h H enc W base v d p1 (O 0 t v rfl rfl) U;obtain⟨b,I,J⟩:=hs H enc W base vs F q (fun j t v ht L=>O (j+1) t v (by simpa using ht) (by simpa using L)) h2;refine⟨(a,b),by simp[I],fun j hj=>?_⟩;cases j with
   |zero=>simpa using Y
   |succ j=>simpa using J j (by simpa using hj)
theorem aAV {H:Type}{enc:TypeId×Value→H}{W:World}:∀{ts:List TypeId}{vs:List Value}{F:List (DataW H)}{p:List MemPlace},DataW.TrodAll enc P W 0 (fun _=>true) true ts vs F p→F.length=ts.length
 | [],[],[],_,_=>rfl
 |_::ts,_::vs,_::F,_,⟨_,_,_,h,_⟩=>by simp[aAV h]
 | [],[],_::_,_,h=>h.elim
 | [],_::_,_,_,h=>h.elim
 |_::_,[],_,_,h=>h.elim
 |_::_,_::_,[],_,h=>h.elim
theorem law_returns {C:Checked}{os:Os}{s:ChangeSpec}{f:FuncId}{fn:Func}{dom:List PathCond}{H:Type}{enc:TypeId×Value→H}{tb:TypeId}{A:Type}{e:A→List AV}
  (hd:envs=[]) (own:ownKnob C.prog.godebug=none) (I:os.Started) (L:C.prog.inits.idxOf? f=none) (hc:C.prog.funcs[f]? = some fn)
  (J:∃(w:World) (F:Tape) (i:Input),w.os=os∧(w.forCall F i).Shaped C.prog∧i.vars=[]∧Input.okWide C.prog (w.forCall F i) .any w.heap.size f i∧
    s.pre6 enc C.prog fn dom false (w.forCall F i).memory i.args∧Assume.holds {} C.prog (lone (Frame.enter C.prog f i.args .normal) [] (w.forCall F i)))
  (hl:laidOutB C.prog=true) (hf:(fn.params.toList.all fun t=>C.prog.readableRec t&&decide (t<C.prog.types.size))=true) (he:fn.resultTypes=#[tb]) (hg:C.prog.underlying tb=some .bool)
  (G:s.vars=[]) (hs:∀M:List (DataW H),M.length=fn.params.toList.length→(s.fn H (M++[])).results=[.lit (.bool true)]∧(s.fn H (M++[])).args=M∧(s.fn H (M++[])).vars=[])
  (O:Args C.prog fn.params.toList e) (U:∀a,Fn C.prog f [] (e a) (.v (.bool true)) []) :
  ReturnsInHanded {} C os f .any (s.pre6 enc C.prog fn dom false) (s.post enc C.prog fn false true false false):=by
 refine returnsInHanded_of_change own I L hc J ?_;intro W base args M gs ha Y hW _ _;have hb:=hW;obtain⟨p,q,hA,hV,rfl,hk,hm⟩:=hW;rw[G] at hV;obtain⟨rfl,rfl⟩:=trodVars_none hV;obtain⟨a,h1,h2⟩:=O H enc W base args.toList M p (fun j t v ht hv=>Y j t v (by simpa using ht) (by simpa using hv)) hA;refine aIY hl hf he hg hb G (hs M (aAV hA)) (by rw[Env,hd];intro p hp;cases hp) (U a) (by simpa using h1.symm) fun j hj=>?_;have:=h2 j (by rw[h1] at hj;exact hj)
 rwa [getD_toList] at this
end
end Go.Vs
