/- Symmetric merging of two sorted lists gives the one sorted list; the stable sort of at most forty. -/

namespace Go.Proofs.Ytokfhfdnmnblfaa
set_option linter.unusedSimpArgs false
set_option linter.unusedVariables false

/-! ## insertion -/
section
variable {lt : Int → Int → Bool} {r : Int → Int → Prop} (htr : ∀ x y z, r x y → r y z → r x z)
include htr

end

/-! ## searching -/
def bs (p : Nat → Bool) (i j : Nat) : Nat := if h : i < j then (if p ((i + j) / 2) = true then bs p ((i + j) / 2 + 1) j else bs p i ((i + j) / 2)) else i
termination_by j - i
/-! ## moving -/
/-! ## merging -/
section
variable {lt : Int → Int → Bool} {r : Int → Int → Prop} (htr : ∀ x y z, r x y → r y z → r x z) (has : ∀ x y, r x y → ¬ r y x)
include has
include htr
end
end Go.Proofs.Ytokfhfdnmnblfaa

namespace Go.Proofs.Ytokfhfdnmnblfaa
set_option linter.unusedSimpArgs false
set_option linter.unusedVariables false

section
variable {lt : Int → Int → Bool} {r : Int → Int → Prop} (htr : ∀ x y z, r x y → r y z → r x z) (has : ∀ x y, r x y → ¬ r y x)
include htr has

end

end Go.Proofs.Ytokfhfdnmnblfaa
