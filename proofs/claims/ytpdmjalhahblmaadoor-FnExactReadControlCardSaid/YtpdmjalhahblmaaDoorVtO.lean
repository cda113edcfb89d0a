/- A contract of the library's, as this framework has contracts. -/
import Derived.Test.YtpdmjalhahblmaaDoorVtK
import Derived.Sort.Grow
import Derived.Deep.Draws
namespace Go.Vs
set_option linter.unusedSectionVars false
variable [Envs]
variable {P : Program} {α : Type} {d : α → AV}
set_option linter.unusedSimpArgs false
attribute [local irreducible] Fn
end Go.Vs

namespace Go.Vs
set_option linter.unusedSectionVars false
variable [Envs]
variable {P : Program}
set_option linter.unusedSimpArgs false
attribute [local irreducible] Fn
end Go.Vs

namespace Go.Vs
set_option linter.unusedSectionVars false
variable [Envs]
end Go.Vs

namespace Go.Vs
set_option linter.unusedSectionVars false
variable [Envs]
variable {P : Program}
theorem Fn.of_ext {f : FuncId} {args : List AV} {x : AV} (hb : HasBody P f)
    (h : ∀ (S : Nat → Prop) (w : World) (vs : Array Value), Env S w → vs.size = args.length → (∀ j, j < args.length → RV S w (fun _ => none) (fun _ => 0) (Hn []) (args.getD j .junk) (vs.getD j undef)) →
      Calls P f vs w fun e w' => ∃ v, e = .returned v ∧ RC S w' x v ∧ Ext w w') : Fn P f [] args x [] := by
  refine ⟨hb, fun S w ρ κ vs hok _ hvs hargs => ?_⟩
  have hH : Hn (([] : List Blk).map some) = Hn [] := rfl
  refine (h S w vs hok.env hvs fun j hj => ?_).mono ?_
  · refine (hargs j hj).mono (fun _ h => h) (fun _ _ => rfl) fun n _ b hb => ?_
    cases n <;> simp [Hn] at hb
  · rintro e w' ⟨v, rfl, hv, hx⟩
    refine ⟨v, S, ρ, κ, rfl, ⟨⟨fun n b hb => ?_, fun n m y h1 => ?_, fun b hb => Nat.lt_of_lt_of_le (hok.dom b hb) hx.1, hok.env.mono (fun _ h => h) fun b hb => hx.2.1 b (hok.dom b hb)⟩, hx.1, fun b hb _ => hx.2.1 b hb, fun _ h => h, fun b hb => .inl hb, fun j z hj => ?_, hx.2.2, fun j b hj => ?_⟩, .clo hv⟩
    · cases n <;> simp [Hn] at hb
    · cases n <;> simp [Hn] at h1
    · simp at hj
    · simp at hj
theorem ext_grow (w : World) (k : Nat) (os : Array Obj) : Ext w (Go.Sort.grow (w.drewN k) os) := by
  refine ⟨by simp [Go.Sort.grow, World.drewN], fun b hb => ?_, rfl, rfl⟩
  simp [Go.Sort.grow, World.drewN, Array.getElem?_append, hb]
end Go.Vs
