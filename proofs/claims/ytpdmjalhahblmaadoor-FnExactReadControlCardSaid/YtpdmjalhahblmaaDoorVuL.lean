/- A law's contract for all arguments, where the tables come of the world's shape too. -/
import Derived.Test.YtpdmjalhahblmaaDoorVtR
import Derived.HandedShaped
namespace Go.Vs
set_option linter.unusedSectionVars false
variable [Envs]
open Go.ChangeShapes Go.WideShapes Go.ChangeAt Go.RowKit
theorem law_returns_sh {C : Checked} {os : Os} {s : ChangeSpec} {f : FuncId} {fn : Func} {dom : List PathCond} {H : Type} {enc : TypeId × Value → H} {tb : TypeId} {A : Type} {e : A → List AV} {X : World → Array Value → Prop}
    (hX : ∀ (w w' : World) (args : Array Value), w.heap = w'.heap → X w args → X w' args) (henv : ∀ W args, X W args → W.ShapedOpen C.prog → Env (fun b => b < W.heap.size) W)
    (own : ownKnob C.prog.godebug = none) (started : os.Started) (noInit : C.prog.inits.idxOf? f = none) (hfn : C.prog.funcs[f]? = some fn)
    (witness : ∃ (w : World) (tape : Tape) (i : Input), w.os = os ∧ (w.forCall tape i).Shaped C.prog ∧ i.vars = [] ∧ Input.okWide C.prog (w.forCall tape i) .any w.heap.size f i ∧
      ((s.pre enc C.prog fn dom false (w.forCall tape i).memory i.args ∧ X (w.forCall tape i).memory i.args) ∧ sizedMet enc C.prog fn (OpenSpec.ofChange s) false (w.forCall tape i).memory i.args) ∧ Assume.holds {} C.prog (lone (Frame.enter C.prog f i.args .normal) [] (w.forCall tape i)))
    (hl : laidOutB C.prog = true) (htB : (fn.params.toList.all fun t => C.prog.readableRec t && decide (t < C.prog.types.size)) = true) (hrt : fn.resultTypes = #[tb]) (htb : C.prog.underlying tb = some .bool)
    (hvars : s.vars = []) (hs : ∀ ds : List (DataW H), ds.length = fn.params.toList.length → (s.fn H (ds ++ [])).results = [.lit (.bool true)] ∧ (s.fn H (ds ++ [])).args = ds ∧ (s.fn H (ds ++ [])).vars = [])
    (hargs : Args C.prog fn.params.toList e) (hlaw : ∀ a, Fn C.prog f [] (e a) (.v (.bool true)) []) :
    ReturnsInHanded {} C os f .any (fun w args => (s.pre enc C.prog fn dom false w args ∧ X w args) ∧ sizedMet enc C.prog fn (OpenSpec.ofChange s) false w args) (s.post enc C.prog fn false true false false) := by
  refine returnsInHanded_of_calls own started noInit witness ?_
  intro w tape i _ hsh _ hok hpre hholds
  obtain ⟨_, _, _, fn', hfn', _, _, _, _, hval⟩ := hok
  have e : fn' = fn := Option.some.inj (hfn'.symm.trans hfn)
  subst e
  obtain ⟨⟨⟨ds, gs, before, hw, hc⟩, hx⟩, hz⟩ := hpre
  have hw' := DataW.Whole.of_heap (w' := w.forCall tape i) (by rfl) hw
  have hx' := hX _ (w.forCall tape i) i.args (by rfl) hx
  have main : Calls C.prog f i.args (w.forCall tape i) fun e W' => ∃ v, e = .returned v ∧ s.post enc C.prog fn' false true false false (w.forCall tape i) i.args v W' := by
    have hW := hw'
    have hW' := hW
    obtain ⟨p, q, hA, hV, rfl, hfz, hnd⟩ := hW
    rw [hvars] at hV
    obtain ⟨rfl, rfl⟩ := trodVars_none hV
    obtain ⟨a, h1, h2⟩ := hargs H enc (w.forCall tape i) w.heap.size i.args.toList ds p (fun j t v ht hv => hval j t v (by simpa using ht) (by simpa using hv)) hA
    refine law_post hl htB hrt htb hW' hvars (hs ds (trodAll_len hA)) (henv _ i.args hx' hsh) (hlaw a) (by simpa using h1.symm) fun j hj => ?_
    have := h2 j (by rw [h1] at hj; exact hj)
    rwa [getD_toList] at this
  refine main.mono fun e W' ⟨v, he, hp⟩ => ?_
  subst he
  exact ChangeSpec.post_blind hp
end Go.Vs
