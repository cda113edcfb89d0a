/- Copies that are handed over, to be written; rows that are marked one by one. -/
import Derived.Test.YtmfjbgjeljhcaaaGreatVtK
import Derived.Sort.Grow
import Derived.Deep.Draws
import Derived.LaidMore
import Derived.Lib.LaidTab
import Derived.MakeChecks
import Derived.Stop.LaidErr
set_option linter.unusedSimpArgs false
set_option linter.unusedVariables false
set_option maxHeartbeats 8000000
namespace Go.Vs
section
variable {P : Program} {α : Type} {d : α → AV}
attribute [local irreducible] Fn
end
section
variable {P : Program}
attribute [local irreducible] Fn
end
section
theorem szGo_mem {α : Type} {f : α → Int → Int} : ∀ {l : List α} {n : Int}, (∀ x, x ∈ l → ∀ n, 0 ≤ n → n ≤ 1048576 → 0 ≤ f x n → f x n ≤ n) → 0 ≤ n → n ≤ 1048576 → 0 ≤ szGo f l n → ∀ x, x ∈ l → ∃ m, 0 ≤ m ∧ m ≤ 1048576 ∧ 0 ≤ f x m
 | [], n, _, _, _, _, x, hx => by cases hx
 | y :: r, n, hf, h0, hn, h, x, hx => by
  simp only [szGo] at h
  split at h
  ·omega
  ·rename_i h1
   rcases List.mem_cons.1 hx with rfl | hx
   ·exact ⟨n, h0, hn, by omega⟩
   ·have h2 := hf y (by simp) n h0 hn (by omega)
    exact szGo_mem (fun z hz => hf z (by simp [hz])) (by omega) (by omega) h x hx
theorem szL_in {α : Type} {f : α → Int → Int} {l : List α} {n : Int} (hf : ∀ x, x ∈ l → ∀ n, 0 ≤ n → n ≤ 1048576 → 0 ≤ f x n → f x n ≤ n) (hl : l.length < 2 ^ 63) (h0 : 0 ≤ n) (hn : n ≤ 1048576) (h : 0 ≤ szL f l n) : ∀ x, x ∈ l → ∃ m, 0 ≤ m ∧ m ≤ 1048576 ∧ 0 ≤ f x m := by
 unfold szL at h
 split at h
 ·omega
 ·rename_i h1
  rw [wrap_in (by omega) (by omega)] at h h1
  exact szGo_mem (n := n - l.length) hf (by omega) (by omega) (by omega)
theorem szL_mono {α : Type} {f : α → Int → Int} {l : List α} {n : Int} (hf : ∀ x, x ∈ l → ∀ n, 0 ≤ n → n ≤ 1048576 → 0 ≤ f x n → f x n ≤ n) (hl : l.length < 2 ^ 63) (h0 : 0 ≤ n) (hn : n ≤ 1048576) (h : 0 ≤ szL f l n) : szL f l n ≤ n ∧ (l.length : Int) ≤ n := by
 refine ⟨?_, szL_len (f := f) hl ⟨h0, hn⟩ (by omega)⟩
 have h2 := h
 unfold szL at h ⊢
 split
 ·rename_i h1; rw [if_pos h1] at h; omega
 ·rename_i h1
  rw [if_neg h1] at h
  rw [wrap_in (by omega) (by omega)] at h h1 ⊢
  have := szGo_le hf (by omega) (by omega) h
  omega
end
section
variable {P : Program}
end
section

end
section
open Go.ChangeShapes Go.WideShapes Go.ChangeAt Go.RowKit
end
section
variable {P : Program} {α : Type} {c : α → List AV}
theorem CallK.own {f : FuncId} {ys : List AV} {d : Option Nat} {σ : St} {K : St → Prop} {t : Tag K} {r : AV} {hout : List (Option Blk)} (hfn : Fn P f [] ys r hout) (hfr : freshAll (d.getD 0) 0 hout.length σ = true)
  (hK : K ⟨put d (rn (phi [] (d.getD 0) hout.length) r) σ.s, aftL σ.h [] (d.getD 0) hout true []⟩) : CallK P f [] ys [] d σ [] K t :=
 ⟨r, hout, true, hfn, fun h => (by cases h), hfr, hK⟩
theorem CallK.lend {f : FuncId} {ys : List AV} {L : List Name} {d : Option Nat} {σ : St} {K : St → Prop} {t : Tag K} {r : AV} {hout : List (Option Blk)} (hfn : Fn P f [] ys r hout) (hL : Vs.flat r = true) (hb : ∀ b, some b ∈ hout → Vs.flatB b) (hfr : freshAll (d.getD 0) 0 hout.length σ = true)
  (hK : K ⟨put d (rn (phi [] (d.getD 0) hout.length) r) σ.s, aftL σ.h [] (d.getD 0) hout false L⟩) : CallK P f [] ys L d σ [] K t :=
 ⟨r, hout, false, hfn, fun _ => .inr ⟨hL, hb⟩, hfr, hK⟩
theorem CallK.bor {f : FuncId} {b : Blk} {ys : List AV} {d : Option Nat} {σ : St} {n : Name} {K : St → Prop} {t : Tag K} {r : AV} {hout : List (Option Blk)} (hfn : Fn P f [b] ys r hout) (hfr : freshAll (d.getD 0) 1 hout.length σ = true)
  (hK : K ⟨put d (rn (phi [n] (d.getD 0) hout.length) r) σ.s, aftL σ.h [n] (d.getD 0) hout true []⟩) : CallK P f [b] ys [] d σ [n] K t :=
 ⟨r, hout, true, hfn, fun h => (by cases h), hfr, hK⟩
theorem flatB_E {k : Nat} {l : List α} {z : Bool} (h : ∀ x, flatL (c x) = true) : flatB (.arr k (E c l) z) := by
 intro r hr
 obtain ⟨x, _, rfl⟩ := List.mem_map.1 hr
 exact h x
end
end Go.Vs
