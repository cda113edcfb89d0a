/- Copies that are handed over, to be written; rows that are marked one by one. -/
import Derived.Test.YtimcedhcefcbbaaDoorVtP
import Derived.LaidMore
import Derived.Lib.LaidTab
import Derived.MakeChecks
import Derived.Stop.LaidErr
import Derived.Test.YtimcedhcefcbbaaDoorVtO
set_option linter.all false
set_option maxHeartbeats 8000000
namespace Go.Vs
section
variable [Envs]
open Go.ChangeShapes Go.WideShapes Go.ChangeAt Go.RowKit
theorem law_returns_and {C : Checked} {os : Os} {s : ChangeSpec} {f : FuncId} {fn : Func} {dom : List PathCond} {H : Type} {enc : TypeId × Value → H} {tb : TypeId} {A : Type} {e : A → List AV} {X : World → Array Value → Prop}
  (hX : ∀ (w w' : World) (args : Array Value), w.heap = w'.heap → X w args → X w' args) (henv : ∀ W args, X W args → Env (fun b => b < W.heap.size) W)
  (own : ownKnob C.prog.godebug = none) (started : os.Started) (noInit : C.prog.inits.idxOf? f = none) (hfn : C.prog.funcs[f]? = some fn)
  (witness : ∃ (w : World) (tape : Tape) (i : Input), w.os = os ∧ (w.forCall tape i).Shaped C.prog ∧ i.vars = [] ∧ Input.okWide C.prog (w.forCall tape i) .any w.heap.size f i ∧
    ((s.pre enc C.prog fn dom false (w.forCall tape i).memory i.args ∧ X (w.forCall tape i).memory i.args) ∧ sizedMet enc C.prog fn (OpenSpec.ofChange s) false (w.forCall tape i).memory i.args) ∧ Assume.holds {} C.prog (lone (Frame.enter C.prog f i.args .normal) [] (w.forCall tape i)))
  (hl : laidOutB C.prog = true) (htB : (fn.params.toList.all fun t => C.prog.readableRec t && decide (t < C.prog.types.size)) = true) (hrt : fn.resultTypes = #[tb]) (htb : C.prog.underlying tb = some .bool)
  (hvars : s.vars = []) (hs : ∀ ds : List (DataW H), ds.length = fn.params.toList.length → (s.fn H (ds ++ [])).results = [.lit (.bool true)] ∧ (s.fn H (ds ++ [])).args = ds ∧ (s.fn H (ds ++ [])).vars = [])
  (hargs : Args C.prog fn.params.toList e) (hlaw : ∀ a, Fn C.prog f [] (e a) (.v (.bool true)) []) :
  ReturnsInHanded {} C os f .any (fun w args => (s.pre enc C.prog fn dom false w args ∧ X w args) ∧ sizedMet enc C.prog fn (OpenSpec.ofChange s) false w args) (s.post enc C.prog fn false true false false) := by
 refine returnsInHanded_of_change_and hX own started noInit hfn witness ?_
 intro W base args ds gs before hval hW _ _ hx _
 have hW' := hW
 obtain ⟨p, q, hA, hV, rfl, hfz, hnd⟩ := hW
 rw [hvars] at hV
 obtain ⟨rfl, rfl⟩ := trodVars_none hV
 obtain ⟨a, h1, h2⟩ := hargs H enc W base args.toList ds p (fun j t v ht hv => hval j t v (by simpa using ht) (by simpa using hv)) hA
 refine law_post hl htB hrt htb hW' hvars (hs ds (trodAll_len hA)) (henv W args hx) (hlaw a) (by simpa using h1.symm) fun j hj => ?_
 have := h2 j (by rw [h1] at hj; exact hj)
 rwa [getD_toList] at this
end
section
variable [Envs]
variable {P : Program} {α : Type} {c : α → List AV}
theorem CallK.own {f : FuncId} {ys : List AV} {d : Option Nat} {σ : St} {K : St → Prop} {t : Tag K} {r : AV} {hout : List (Option Blk)} (hfn : Fn P f [] ys r hout) (hfr : freshAll (d.getD 0) 0 hout.length σ = true)
  (hK : K ⟨put d (rn (phi [] (d.getD 0) hout.length) r) σ.s, aftL σ.h [] (d.getD 0) hout true []⟩) : CallK P f [] ys [] d σ [] K t :=
 ⟨r, hout, true, hfn, fun h => (by cases h), hfr, hK⟩
theorem CallK.bor {f : FuncId} {b : Blk} {ys : List AV} {d : Option Nat} {σ : St} {n : Name} {K : St → Prop} {t : Tag K} {r : AV} {hout : List (Option Blk)} (hfn : Fn P f [b] ys r hout) (hfr : freshAll (d.getD 0) 1 hout.length σ = true)
  (hK : K ⟨put d (rn (phi [n] (d.getD 0) hout.length) r) σ.s, aftL σ.h [n] (d.getD 0) hout true []⟩) : CallK P f [b] ys [] d σ [n] K t :=
 ⟨r, hout, true, hfn, fun h => (by cases h), hfr, hK⟩
attribute [local go_sem] reduceIte reduceCtorEq Nat.reduceEqDiff in
theorem toI_own (hm : P.follows .mixedOrders = true) {f : FuncId} {fn : Func} {nt : Nat} (h : CodeIsR P f fn toI_code) (hnt : fn.ntmps = nt) (hrs : fn.results.toList = [.tmp 2]) (hna : Nat.ble 1 nt = true)
  {l : List Int} (hl : l.length ≤ 1048576) : Fn P f [] [.sl 1 (E cI l)] (.loc (.b 0) 0 l.length) [some (.arr 1 (E cI l) false)] := by
 refine h.fn hm (hin := []) nt _ [.t 7 0] [.arr 1 (E cI l) false] hnt hrs rfl (by simpa using Nat.le_of_ble_eq_true hna) rfl (by simp) fun X => ?_
 unfold toI_code
 simp -dsimp only [go_sem]
 refine ⟨⟨by omega, by omega, by omega⟩, ?_⟩
 refine LoopK.intro (drawn_ok hm) (fun i : { i : Nat // i ≤ l.length } => ⟨[(0, .sl 1 (E cI l)), (3, .loc (.t 7 0) 0 l.length), (4, .v (.int .i64 i.1))],
   [(.t 7 0, .arr 1 (E cI (l.take i.1) ++ List.replicate (l.length - i.1) [.v (.int .i64 0)]) false)]⟩) (fun i => l.length - i.1) ⟨0, by omega⟩ ?_ ?_
 ·simp [LeL, look, hlook, E]
 ·rintro ⟨i, hi⟩
  simp -dsimp only [go_sem]
  refine Br.mk (fun h1 => ?_) fun h1 => ?_
  ·have hlt : i < l.length := by simpa using h1
   have hw := wrap_succ hlt hl
   simp -dsimp only [go_sem, cI_get hlt, E_rget hlt, hw]
   have e := E_set (c := cI) hlt (x := [.v (.int .i64 l[i])]) rfl [.v (.int .i64 0)]
   rw [e]
   exact ⟨⟨by omega, by omega⟩, ⟨by omega, by omega⟩, by omega, ⟨i + 1, by omega⟩, by simp [LeL, look, hlook], by simp only; omega⟩
  ·have hge : i = l.length := by
    have : ¬ i < l.length := by simpa using h1
    omega
   subst hge
   simp -dsimp only [go_sem, E_all]
   exact ⟨⟨_, _, rfl, rfl⟩, by simp⟩
def mkR (m : Nat → α) (l : List α) (i : Nat) : List α := (List.range i).map m ++ l.drop i
theorem mkR_zero (m : Nat → α) (l : List α) : mkR m l 0 = l := by simp [mkR]
theorem mkR_all (m : Nat → α) (l : List α) : mkR m l l.length = (List.range l.length).map m := by simp [mkR]
theorem mkR_length (m : Nat → α) (l : List α) {i : Nat} (h : i ≤ l.length) : (mkR m l i).length = l.length := by simp [mkR]; omega
theorem mkR_get (m : Nat → α) (l : List α) {i : Nat} (h : i < l.length) : (E c (mkR m l i)).getD i [] = c l[i] := by
 rw [E_get (by rw [mkR_length m l (by omega)]; exact h)]
 simp [mkR]
theorem mkR_set (m : Nat → α) (l : List α) {i : Nat} (h : i < l.length) : (E c (mkR m l i)).set i (c (m i)) = E c (mkR m l (i + 1)) := by
 have e : (mkR m l i).set i (m i) = mkR m l (i + 1) := by
  apply List.ext_getElem
  ·rw [List.length_set, mkR_length m l (by omega), mkR_length m l (by omega)]
  ·intro j h1 h2
   rw [List.length_set, mkR_length m l (by omega)] at h1
   rw [List.getElem_set]
   split
   ·rename_i e; subst e
    simp [mkR, List.getElem_append]
   ·simp only [mkR, List.getElem_append, List.length_map, List.length_range, List.getElem_map, List.getElem_range, List.getElem_drop]
    split <;> split
    ·rfl
    ·omega
    ·omega
    ·congr 1; omega
 rw [← e]
 simp [E, List.map_set]
theorem vc_mono {K K' : St → Prop} (hK : ∀ σ, K σ → K' σ) : ∀ (ops : List AOper) (σ : St), vc P K ops σ → vc P K' ops σ
 | [], σ, hv => hK σ hv
 | _ :: r, _, hv => vc_cons.2 (vc1_mono (fun σ' h => vc_mono hK r σ' h) (vc_cons.1 hv))
end
end Go.Vs
