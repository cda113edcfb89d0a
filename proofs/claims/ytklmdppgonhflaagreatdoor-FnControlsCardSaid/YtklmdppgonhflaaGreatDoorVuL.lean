/- A law's contract for all arguments, where the tables come of the world's shape too. -/
import Derived.Test.YtklmdppgonhflaaGreatDoorVtR
import Derived.HandedShaped
set_option linter.all false
set_option maxHeartbeats 8000000
namespace Go.Vs
variable [Envs]
open Go.ChangeShapes Go.WideShapes Go.ChangeAt Go.RowKit
theorem law_returns_sh {C:Checked}{os:Os}{s:ChangeSpec}{f:FuncId}{fn:Func}{V:List PathCond}{H:Type}{enc:TypeId×Value->H}{tb:TypeId}{A:Type}{e:A->List AV}{X:World->Array Value->Prop}
  (hX:∀(w w':World) (args:Array Value),w.heap=w'.heap->X w args->X w' args) (Z:∀W args,X W args->W.ShapedOpen C.prog->Env (λb=>b<W.heap.size) W)
  (own:ownKnob C.prog.godebug=none) (I:os.Started) (M:C.prog.inits.idxOf? f=none) (ho:C.prog.funcs[f]? = some fn)
  (J:∃(w:World) (F:Tape) (i:Input),w.os=os∧(w.forCall F i).Shaped C.prog∧i.vars=[]∧Input.okWide C.prog (w.forCall F i) .any w.heap.size f i∧
    ((s.pre enc C.prog fn V false (w.forCall F i).memory i.args∧X (w.forCall F i).memory i.args)∧sizedMet enc C.prog fn (OpenSpec.ofChange s) false (w.forCall F i).memory i.args)∧Assume.holds {} C.prog (lone (Frame.enter C.prog f i.args .normal) [] (w.forCall F i)))
  (hl:laidOutB C.prog=true) (hy:(fn.params.toList.all λt=>C.prog.readableRec t&&decide (t<C.prog.types.size))=true) (hr:fn.resultTypes=#[tb]) (h0:C.prog.underlying tb=some .bool)
  (G:s.vars=[]) (hs:∀O:List (DataW H),O.length=fn.params.toList.length->(s.fn H (O++[])).results=[.lit (.bool true)]∧(s.fn H (O++[])).args=O∧(s.fn H (O++[])).vars=[])
  (U:Args C.prog fn.params.toList e) (hb:∀a,Fn C.prog f [] (e a) (.v (.bool true)) []) :
  ReturnsInHanded {} C os f .any (λw args=>(s.pre enc C.prog fn V false w args∧X w args)∧sizedMet enc C.prog fn (OpenSpec.ofChange s) false w args) (s.post enc C.prog fn false true false false):=by
 refine returnsInHanded_of_calls own I M J ?_;intro w F i _ hu _ hq hd hm;obtain⟨_,_,_,Y,ha,_,_,_,_,hf⟩:=hq;have e:Y=fn:=Ay (ha.symm.trans ho);subst e;obtain⟨⟨⟨O,gs,hk,hw,hc⟩,hx⟩,hz⟩:=hd;have h3:=DataW.Whole.of_heap (w':=w.forCall F i) (by rfl) hw;have h4:=hX _ (w.forCall F i) i.args (by rfl) hx
 have hg:Calls C.prog f i.args (w.forCall F i) λe W'=>∃v,e=.returned v∧s.post enc C.prog Y false true false false (w.forCall F i) i.args v W':=by
  have hW:=h3;have hn:=hW;obtain⟨p,q,hA,hV,rfl,h5,h6⟩:=hW;rw[G] at hV;obtain⟨rfl,rfl⟩:=trodVars_none hV;obtain⟨a,h1,h2⟩:=U H enc (w.forCall F i) w.heap.size i.args.toList O p (λj t v ht hv=>hf j t v (by simpa using ht) (by simpa using hv)) hA;refine aLj hl hy hr h0 hn G (hs O (aCc hA)) (Z _ i.args h4 hu) (hb a) (by simpa using h1.symm) λj hj=>?_;have:=h2 j (by rw[h1] at hj;exact hj)
  rwa [getD_toList] at this
 refine hg.mono λe W' ⟨v,he,hp⟩=>?_;subst he;exact ChangeSpec.post_blind hp
end Go.Vs
