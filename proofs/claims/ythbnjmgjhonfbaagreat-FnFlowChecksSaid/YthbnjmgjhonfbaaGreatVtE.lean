/- A law's contract, for all arguments, is the statement's answer. -/
import Derived.Test.YthbnjmgjhonfbaaGreatVtC
import Derived.Test.YthbnjmgjhonfbaaGreatVsQ
set_option linter.all false
set_option maxHeartbeats 8000000
namespace Go.Vs
section
variable [Envs]
open Go.ChangeShapes Go.RowKit
variable {P:Program}
def aA5 (P:Program) (fs:List Field) (o:Nat) {α:Type} (k:Nat) (e:α→List AV):Prop:=
 (∀a,(e a).length=k)∧∀(H:Type) (enc:TypeId×Value→H) (w:World) (sp:Nat→Bool) (fuel:Nat) (cs:List Value),
  (∀(i:Nat) (f:Field),fs[i]? = some f→∃x,DataW.trod enc P w 0 sp true fuel f.type ((cs.drop f.offset).take (P.cellsOf f.type))=some x)→
  ∃a,∀j,j<k→(cs.getD (o+j) undef).oneCell'=true∧RC (fun b=>b<w.heap.size) w ((e a).getD j .junk) (cs.getD (o+j) undef)
theorem Opens.at {t:TypeId}{α:Type}{k:Nat}{e:α→List AV} (h:Opens P t k e) {H:Type}{enc:TypeId×Value→H}{w:World}{sp:Nat→Bool}{fuel:Nat}{cs:List Value}{o:Nat}{x:DataW H×List MemPlace}
  (hx:DataW.trod enc P w 0 sp true fuel t ((cs.drop o).take (P.cellsOf t))=some x) :
  ∃a,∀j,j<k→(cs.getD (o+j) undef).oneCell'=true∧RC (fun b=>b<w.heap.size) w ((e a).getD j .junk) (cs.getD (o+j) undef):=by
 obtain⟨a,_,h2⟩:=h.2.2 H enc w sp fuel _ _ hx;refine⟨a,fun j hj=>?_⟩;have:=h2 j hj
 have e1:((cs.drop o).take (P.cellsOf t)).getD j undef=cs.getD (o+j) undef:=by
  rw[h.1];simp[List.getD,hj]
 rwa [e1] at this
theorem aA5.one {f:Field}{o:Nat}{α:Type}{k:Nat}{e:α→List AV} (h:Opens P f.type k e) (ho:f.offset=o):aA5 P [f] o k e:=by
 refine⟨h.2.1,fun H enc w sp fuel cs hf=>?_⟩;obtain⟨x,hx⟩:=hf 0 f rfl;rw[ho] at hx;exact h.at hx
theorem aA5.cons {f:Field}{fs:List Field}{o:Nat}{α β:Type}{k k':Nat}{e:α→List AV}{e':β→List AV} (h:Opens P f.type k e) (ho:f.offset=o) (hs:aA5 P fs (o+k) k' e') :
  aA5 P (f::fs) o (k+k') (fun p:α×β=>e p.1++e' p.2):=by
 refine⟨fun p=>by simp[h.2.1,hs.1],fun H enc w sp fuel cs hf=>?_⟩;obtain⟨x,hx⟩:=hf 0 f rfl;rw[ho] at hx;obtain⟨a,ha⟩:=h.at hx;obtain⟨b,hb⟩:=hs.2 H enc w sp fuel cs fun i g hg=>hf (i+1) g (by simpa using hg);refine⟨(a,b),fun j hj=>?_⟩;by_cases hjk:j<k
 ·have e1:(e a++e' b).getD j .junk=(e a).getD j .junk:=by
   simp[List.getD,List.getElem?_append_left (show j<(e a).length by rw[h.2.1];exact hjk)]
  rw[e1];exact ha j hjk
 ·have e1:(e a++e' b).getD j .junk=(e' b).getD (j-k) .junk:=by
   simp[List.getD,List.getElem?_append_right (show(e a).length≤j by rw[h.2.1];omega),h.2.1]
  have:=hb (j-k) (by omega);rw[show o+k+(j-k)=o+j by omega] at this;rw[e1];exact this
theorem Opens.struct {t:TypeId}{fs:Array Field}{α:Type}{k:Nat}{e:α→List AV} (h:P.underlying t=some (.struct fs)) (hc:P.cellsOf t=k) (hs:aA5 P fs.toList 0 k e):Opens P t k e:=by
 refine⟨hc,hs.1,fun H enc w sp fuel cs x hx=>?_⟩;obtain⟨xs,n,rfl,rfl,hl,hn,hf⟩:=DataW.trod_struct h hx
 obtain ⟨a,ha⟩:=hs.2 H enc w sp n cs fun i f hif=>by
  have hif':fs[i]? = some f:=by simpa using hif
  have:=hf i f hif';have hi:i<fs.size:=(Array.getElem?_eq_some_iff.1 hif').1;rw[List.getElem?_eq_getElem (by omega)] at this;exact⟨_,this⟩
 exact⟨a,by rw[hl,hc],fun j hj=>by simpa using ha j hj⟩
end
section
variable [Envs]
open Go.ChangeShapes Go.WideShapes Go.ChangeAt Go.RowKit
variable {P:Program}
def Arg (P:Program) (t:TypeId) {α:Type} (e:α→AV):Prop:=
 ∀ (H:Type) (enc:TypeId×Value→H) (W:World) (base:Nat) (v:Value) (d:DataW H) (p:List MemPlace),Value.okWide P W .any base t v→DataW.Trod enc P W 0 (fun _=>true) true t v d p→
  ∃a,RC (fun b=>b<W.heap.size) W (e a) v
theorem Arg.struct {t:TypeId}{fs:Array Field}{α:Type}{k:Nat}{e:α→List AV} (h:P.underlying t=some (.struct fs)) (ho:Opens P t k e):Arg P t (fun a=>.agg (e a)):=by
 intro H enc W base v d p hv hd;obtain⟨cs,rfl,_⟩:=okWide_struct h hv;exact aLd ho hd
theorem Arg.slice {t u:TypeId}{α:Type}{e:α→List AV} (h:P.underlying t=some (.slice u)) (ho:Opens P t 1 e):Arg P t (fun a=>(e a).getD 0 .junk):=by
 intro H enc W base v d p hv hd;obtain⟨a,len,cap,rfl⟩:=okWide_slice h hv;exact aEh ho rfl hd
theorem Arg.int {t:TypeId}{k:IntKind} (h:P.underlying t=some (.int k)) (hc:P.cellsOf t=1):Arg P t (fun n:{n:Int // (Lit.int k n).wf=true}=>.v (.int k n.1)):=by
 intro H enc W base v d p hv hd;obtain⟨n,rfl⟩:=okWide_int h hv;exact aEh (Opens.int h hc) rfl hd
theorem Arg.string {t:TypeId} (h:P.underlying t=some .string) (hc:P.cellsOf t=1):Arg P t (fun s:{s:ByteArray // s.size<2 ^ 63}=>.v (.string s.1)):=by
 intro H enc W base v d p hv hd;obtain⟨n,rfl⟩:=okWide_string h hv;exact aEh (Opens.string h hc) rfl hd
def Args (P:Program) (ts:List TypeId) {A:Type} (e:A→List AV):Prop:=
 ∀ (H:Type) (enc:TypeId×Value→H) (W:World) (base:Nat) (vs:List Value) (ds:List (DataW H)) (p:List MemPlace),
  (∀(j:Nat) t v,ts[j]? = some t→vs[j]? = some v→Value.okWide P W .any base t v)→DataW.TrodAll enc P W 0 (fun _=>true) true ts vs ds p→
  ∃a,(e a).length=vs.length∧∀j,j<vs.length→RC (fun b=>b<W.heap.size) W ((e a).getD j .junk) (vs.getD j undef)
theorem Args.nil:Args P [] (fun _:Unit=>[]):=by
 intro H enc W base vs ds p hv hA;cases vs with
 |nil=>exact⟨(),rfl,by simp⟩
 |cons v vs=>cases ds<;>exact hA.elim
theorem Args.cons {t:TypeId}{ts:List TypeId}{α β:Type}{e:α→AV}{e':β→List AV} (h:Arg P t e) (hs:Args P ts e'):Args P (t::ts) (fun p:α×β=>e p.1::e' p.2):=by
 intro H enc W base vs ds p hv hA;cases vs with
 |nil=>cases ds<;>exact hA.elim
 | cons v vs=>cases ds with
  |nil=>exact hA.elim
  | cons d ds =>
   obtain⟨p1,q,h1,h2,_⟩:=hA;obtain⟨a,ha⟩:=h H enc W base v d p1 (hv 0 t v rfl rfl) h1;obtain⟨b,hb1,hb2⟩:=hs H enc W base vs ds q (fun j t v ht hv'=>hv (j+1) t v (by simpa using ht) (by simpa using hv')) h2;refine⟨(a,b),by simp[hb1],fun j hj=>?_⟩;cases j with
   |zero=>simpa using ha
   |succ j=>simpa using hb2 j (by simpa using hj)
theorem aA7 {H:Type}{enc:TypeId×Value→H}{W:World}:∀{ts:List TypeId}{vs:List Value}{ds:List (DataW H)}{p:List MemPlace},DataW.TrodAll enc P W 0 (fun _=>true) true ts vs ds p→ds.length=ts.length
 | [],[],[],_,_=>rfl
 |_::ts,_::vs,_::ds,_,⟨_,_,_,h,_⟩=>by simp[aA7 h]
 | [],[],_::_,_,h=>h.elim
 | [],_::_,_,_,h=>h.elim
 |_::_,[],_,_,h=>h.elim
 |_::_,_::_,[],_,h=>h.elim
theorem law_returns {C:Checked}{os:Os}{s:ChangeSpec}{f:FuncId}{fn:Func}{dom:List PathCond}{H:Type}{enc:TypeId×Value→H}{tb:TypeId}{A:Type}{e:A→List AV}
  (hno:envs=[]) (own:ownKnob C.prog.godebug=none) (started:os.Started) (noInit:C.prog.inits.idxOf? f=none) (hfn:C.prog.funcs[f]? = some fn)
  (witness:∃(w:World) (tape:Tape) (i:Input),w.os=os∧(w.forCall tape i).Shaped C.prog∧i.vars=[]∧Input.okWide C.prog (w.forCall tape i) .any w.heap.size f i∧
    s.pre6 enc C.prog fn dom false (w.forCall tape i).memory i.args∧Assume.holds {} C.prog (lone (Frame.enter C.prog f i.args .normal) [] (w.forCall tape i)))
  (hl:laidOutB C.prog=true) (htB:(fn.params.toList.all fun t=>C.prog.readableRec t&&decide (t<C.prog.types.size))=true) (hrt:fn.resultTypes=#[tb]) (htb:C.prog.underlying tb=some .bool)
  (hvars:s.vars=[]) (hs:∀ds:List (DataW H),ds.length=fn.params.toList.length→(s.fn H (ds++[])).results=[.lit (.bool true)]∧(s.fn H (ds++[])).args=ds∧(s.fn H (ds++[])).vars=[])
  (hargs:Args C.prog fn.params.toList e) (hlaw:∀a,Fn C.prog f [] (e a) (.v (.bool true)) []) :
  ReturnsInHanded {} C os f .any (s.pre6 enc C.prog fn dom false) (s.post enc C.prog fn false true false false):=by
 refine returnsInHanded_of_change own started noInit hfn witness ?_;intro W base args ds gs before hval hW _ _;have hW':=hW;obtain⟨p,q,hA,hV,rfl,hfz,hnd⟩:=hW;rw[hvars] at hV;obtain⟨rfl,rfl⟩:=trodVars_none hV;obtain⟨a,h1,h2⟩:=hargs H enc W base args.toList ds p (fun j t v ht hv=>hval j t v (by simpa using ht) (by simpa using hv)) hA;refine aIY hl htB hrt htb hW' hvars (hs ds (aA7 hA)) (by rw[Env,hno];intro p hp;cases hp) (hlaw a) (by simpa using h1.symm) fun j hj=>?_;have:=h2 j (by rw[h1] at hj;exact hj)
 rwa [getD_toList] at this
end
end Go.Vs
