/- Copies that are handed over, to be written; rows that are marked one by one. -/
import Derived.Test.YtidbcoagjbbjdaaGreatDoorVtN
import Derived.Sort.Grow
import Derived.Deep.Draws
import Derived.LaidMore
import Derived.Lib.LaidTab
import Derived.MakeChecks
import Derived.Stop.LaidErr
set_option linter.all false
set_option maxHeartbeats 8000000
namespace Go.Vs
section
variable [Envs]
variable {P : Program}
theorem Fn.of_ext {f : FuncId} {args : List AV} {x : AV} (hb : HasBody P f)
  (h : ∀ (S : Nat → Prop) (w : World) (vs : Array Value), Env S w → vs.size = args.length → (∀ j, j < args.length → RV S w (fun _ => none) (fun _ => 0) (Hn []) (args.getD j .junk) (vs.getD j undef)) →
    Calls P f vs w fun e w' => ∃ v, e = .returned v ∧ RC S w' x v ∧ Ext w w') : Fn P f [] args x [] := by
 refine ⟨hb, fun S w ρ κ vs hok _ hvs hargs => ?_⟩
 have hH : Hn (([] : List Blk).map some) = Hn [] := rfl
 refine (h S w vs hok.env hvs fun j hj => ?_).mono ?_
 ·refine (hargs j hj).mono (fun _ h => h) (fun _ _ => rfl) fun n _ b hb => ?_
  cases n <;> simp [Hn] at hb
 ·rintro e w' ⟨v, rfl, hv, hx⟩
  refine ⟨v, S, ρ, κ, rfl, ⟨⟨fun n b hb => ?_, fun n m y h1 => ?_, fun b hb => Nat.lt_of_lt_of_le (hok.dom b hb) hx.1, hok.env.mono (fun _ h => h) fun b hb => hx.2.1 b (hok.dom b hb)⟩, hx.1, fun b hb _ => hx.2.1 b hb, fun _ h => h, fun b hb => .inl hb, fun j z hj => ?_, hx.2.2, fun j b hj => ?_⟩, .clo hv⟩
  ·cases n <;> simp [Hn] at hb
  ·cases n <;> simp [Hn] at h1
  ·simp at hj
  ·simp at hj
theorem ext_grow (w : World) (k : Nat) (os : Array Obj) : Ext w (Go.Sort.grow (w.drewN k) os) := by
 refine ⟨by simp [Go.Sort.grow, World.drewN], fun b hb => ?_, rfl, rfl⟩
 simp [Go.Sort.grow, World.drewN, Array.getElem?_append, hb]
end
section
variable [Envs]
end
section
variable [Envs]
open Go.ChangeShapes Go.WideShapes Go.ChangeAt Go.RowKit
theorem law_returns_and {C : Checked} {os : Os} {s : ChangeSpec} {f : FuncId} {fn : Func} {dom : List PathCond} {H : Type} {enc : TypeId × Value → H} {tb : TypeId} {A : Type} {e : A → List AV} {X : World → Array Value → Prop}
  (hX : ∀ (w w' : World) (args : Array Value), w.heap = w'.heap → X w args → X w' args) (henv : ∀ W args, X W args → Env (fun b => b < W.heap.size) W)
  (own : ownKnob C.prog.godebug = none) (started : os.Started) (noInit : C.prog.inits.idxOf? f = none) (hfn : C.prog.funcs[f]? = some fn)
  (witness : ∃ (w : World) (tape : Tape) (i : Input), w.os = os ∧ (w.forCall tape i).Shaped C.prog ∧ i.vars = [] ∧ Input.okWide C.prog (w.forCall tape i) .any w.heap.size f i ∧
    ((s.pre enc C.prog fn dom false (w.forCall tape i).memory i.args ∧ X (w.forCall tape i).memory i.args) ∧ sizedMet enc C.prog fn (OpenSpec.ofChange s) false (w.forCall tape i).memory i.args) ∧ Assume.holds {} C.prog (lone (Frame.enter C.prog f i.args .normal) [] (w.forCall tape i)))
  (hl : laidOutB C.prog = true) (htB : (fn.params.toList.all fun t => C.prog.readableRec t && decide (t < C.prog.types.size)) = true) (hrt : fn.resultTypes = #[tb]) (htb : C.prog.underlying tb = some .bool)
  (hvars : s.vars = []) (hs : ∀ ds : List (DataW H), ds.length = fn.params.toList.length → (s.fn H (ds ++ [])).results = [.lit (.bool true)] ∧ (s.fn H (ds ++ [])).args = ds ∧ (s.fn H (ds ++ [])).vars = [])
  (hargs : Args C.prog fn.params.toList e) (hlaw : ∀ a, Fn C.prog f [] (e a) (.v (.bool true)) []) :
  ReturnsInHanded {} C os f .any (fun w args => (s.pre enc C.prog fn dom false w args ∧ X w args) ∧ sizedMet enc C.prog fn (OpenSpec.ofChange s) false w args) (s.post enc C.prog fn false true false false) := by
 refine returnsInHanded_of_change_and hX own started noInit hfn witness ?_
 intro W base args ds gs before hval hW _ _ hx _
 have hW' := hW
 obtain ⟨p, q, hA, hV, rfl, hfz, hnd⟩ := hW
 rw [hvars] at hV
 obtain ⟨rfl, rfl⟩ := trodVars_none hV
 obtain ⟨a, h1, h2⟩ := hargs H enc W base args.toList ds p (fun j t v ht hv => hval j t v (by simpa using ht) (by simpa using hv)) hA
 refine law_post hl htB hrt htb hW' hvars (hs ds (trodAll_len hA)) (henv W args hx) (hlaw a) (by simpa using h1.symm) fun j hj => ?_
 have := h2 j (by rw [h1] at hj; exact hj)
 rwa [getD_toList] at this
end
section
variable [Envs]
variable {P : Program} {α : Type} {c : α → List AV}
theorem CallK.own {f : FuncId} {ys : List AV} {d : Option Nat} {σ : St} {K : St → Prop} {t : Tag K} {r : AV} {hout : List (Option Blk)} (hfn : Fn P f [] ys r hout) (hfr : freshAll (d.getD 0) 0 hout.length σ = true)
  (hK : K ⟨put d (rn (phi [] (d.getD 0) hout.length) r) σ.s, aftL σ.h [] (d.getD 0) hout true []⟩) : CallK P f [] ys [] d σ [] K t :=
 ⟨r, hout, true, hfn, fun h => (by cases h), hfr, hK⟩
theorem CallK.lend {f : FuncId} {ys : List AV} {L : List Name} {d : Option Nat} {σ : St} {K : St → Prop} {t : Tag K} {r : AV} {hout : List (Option Blk)} (hfn : Fn P f [] ys r hout) (hL : Vs.flat r = true) (hb : ∀ b, some b ∈ hout → Vs.flatB b) (hfr : freshAll (d.getD 0) 0 hout.length σ = true)
  (hK : K ⟨put d (rn (phi [] (d.getD 0) hout.length) r) σ.s, aftL σ.h [] (d.getD 0) hout false L⟩) : CallK P f [] ys L d σ [] K t :=
 ⟨r, hout, false, hfn, fun _ => .inr ⟨hL, hb⟩, hfr, hK⟩
theorem CallK.bor {f : FuncId} {b : Blk} {ys : List AV} {d : Option Nat} {σ : St} {n : Name} {K : St → Prop} {t : Tag K} {r : AV} {hout : List (Option Blk)} (hfn : Fn P f [b] ys r hout) (hfr : freshAll (d.getD 0) 1 hout.length σ = true)
  (hK : K ⟨put d (rn (phi [n] (d.getD 0) hout.length) r) σ.s, aftL σ.h [n] (d.getD 0) hout true []⟩) : CallK P f [b] ys [] d σ [n] K t :=
 ⟨r, hout, true, hfn, fun h => (by cases h), hfr, hK⟩
theorem flatB_E {k : Nat} {l : List α} {z : Bool} (h : ∀ x, flatL (c x) = true) : flatB (.arr k (E c l) z) := by
 intro r hr
 obtain ⟨x, _, rfl⟩ := List.mem_map.1 hr
 exact h x
end
end Go.Vs
