/- A contract of the library's, as this framework has contracts. -/
import Derived.Test.YtimcedhcefcbbaaDoorVtK
import Derived.Sort.Grow
import Derived.Deep.Draws
set_option linter.all false
set_option maxHeartbeats 8000000
namespace Go.Vs
section
variable [Envs]
variable {P : Program} {α : Type} {d : α → AV}
attribute [local irreducible] Fn
end
section
variable [Envs]
variable {P : Program}
attribute [local irreducible] Fn
end
section
variable [Envs]
theorem szGo_mem {α : Type} {f : α → Int → Int} : ∀ {l : List α} {n : Int}, (∀ x, x ∈ l → ∀ n, 0 ≤ n → n ≤ 1048576 → 0 ≤ f x n → f x n ≤ n) → 0 ≤ n → n ≤ 1048576 → 0 ≤ szGo f l n → ∀ x, x ∈ l → ∃ m, 0 ≤ m ∧ m ≤ 1048576 ∧ 0 ≤ f x m
 | [], n, _, _, _, _, x, hx => by cases hx
 | y :: r, n, hf, h0, hn, h, x, hx => by
  simp only [szGo] at h
  split at h
  ·omega
  ·rename_i h1
   rcases List.mem_cons.1 hx with rfl | hx
   ·exact ⟨n, h0, hn, by omega⟩
   ·have h2 := hf y (by simp) n h0 hn (by omega)
    exact szGo_mem (fun z hz => hf z (by simp [hz])) (by omega) (by omega) h x hx
theorem szL_in {α : Type} {f : α → Int → Int} {l : List α} {n : Int} (hf : ∀ x, x ∈ l → ∀ n, 0 ≤ n → n ≤ 1048576 → 0 ≤ f x n → f x n ≤ n) (hl : l.length < 2 ^ 63) (h0 : 0 ≤ n) (hn : n ≤ 1048576) (h : 0 ≤ szL f l n) : ∀ x, x ∈ l → ∃ m, 0 ≤ m ∧ m ≤ 1048576 ∧ 0 ≤ f x m := by
 unfold szL at h
 split at h
 ·omega
 ·rename_i h1
  rw [wrap_in (by omega) (by omega)] at h h1
  exact szGo_mem (n := n - l.length) hf (by omega) (by omega) (by omega)
theorem szL_mono {α : Type} {f : α → Int → Int} {l : List α} {n : Int} (hf : ∀ x, x ∈ l → ∀ n, 0 ≤ n → n ≤ 1048576 → 0 ≤ f x n → f x n ≤ n) (hl : l.length < 2 ^ 63) (h0 : 0 ≤ n) (hn : n ≤ 1048576) (h : 0 ≤ szL f l n) : szL f l n ≤ n ∧ (l.length : Int) ≤ n := by
 refine ⟨?_, szL_len (f := f) hl ⟨h0, hn⟩ (by omega)⟩
 have h2 := h
 unfold szL at h ⊢
 split
 ·rename_i h1; rw [if_pos h1] at h; omega
 ·rename_i h1
  rw [if_neg h1] at h
  rw [wrap_in (by omega) (by omega)] at h h1 ⊢
  have := szGo_le hf (by omega) (by omega) h
  omega
end
section
variable [Envs]
variable {P : Program}
theorem Fn.of_ext {f : FuncId} {args : List AV} {x : AV} (hb : HasBody P f)
  (h : ∀ (S : Nat → Prop) (w : World) (vs : Array Value), Env S w → vs.size = args.length → (∀ j, j < args.length → RV S w (fun _ => none) (fun _ => 0) (Hn []) (args.getD j .junk) (vs.getD j undef)) →
    Calls P f vs w fun e w' => ∃ v, e = .returned v ∧ RC S w' x v ∧ Ext w w') : Fn P f [] args x [] := by
 refine ⟨hb, fun S w ρ κ vs hok _ hvs hargs => ?_⟩
 have hH : Hn (([] : List Blk).map some) = Hn [] := rfl
 refine (h S w vs hok.env hvs fun j hj => ?_).mono ?_
 ·refine (hargs j hj).mono (fun _ h => h) (fun _ _ => rfl) fun n _ b hb => ?_
  cases n <;> simp [Hn] at hb
 ·rintro e w' ⟨v, rfl, hv, hx⟩
  refine ⟨v, S, ρ, κ, rfl, ⟨⟨fun n b hb => ?_, fun n m y h1 => ?_, fun b hb => Nat.lt_of_lt_of_le (hok.dom b hb) hx.1, hok.env.mono (fun _ h => h) fun b hb => hx.2.1 b (hok.dom b hb)⟩, hx.1, fun b hb _ => hx.2.1 b hb, fun _ h => h, fun b hb => .inl hb, fun j z hj => ?_, hx.2.2, fun j b hj => ?_⟩, .clo hv⟩
  ·cases n <;> simp [Hn] at hb
  ·cases n <;> simp [Hn] at h1
  ·simp at hj
  ·simp at hj
theorem ext_grow (w : World) (k : Nat) (os : Array Obj) : Ext w (Go.Sort.grow (w.drewN k) os) := by
 refine ⟨by simp [Go.Sort.grow, World.drewN], fun b hb => ?_, rfl, rfl⟩
 simp [Go.Sort.grow, World.drewN, Array.getElem?_append, hb]
end
end Go.Vs
