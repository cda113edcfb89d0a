/- The law FnExactCardsFor returns true for every input, and its arguments read behind the call as they read before. Conditions: none beyond the given statement. -/
import Derived.Test.YtokfhfdnmnblfaaYwMh
namespace Go.Proofs.Ytokfhfdnmnblfaa
open Go.Vs
set_option linter.unusedSectionVars false
local instance : Vs.Envs := ⟨[]⟩
set_option linter.unusedSimpArgs false
set_option linter.unusedVariables false
attribute [local irreducible] Vs.Fn chOK areCh chTo chAt l03 chB rk cd3 chI stp stpTo
def gSpcA (p : (I64 × I64) × S63 × (I64 × I64) × (I64 × I64)) : Spc := ⟨p.1.1.1, p.1.2.1, p.2.1.1, p.2.2.1.1.1, p.2.2.1.2.1, p.2.2.2.1.1, p.2.2.2.2.1⟩

set_option maxRecDepth 100000 in
theorem cardsfor_lifted (os : Os) (started : os.Started) (H : Type) (enc : TypeId × Value → H) :
    ReturnsInHanded {} Try.checked os F.laws_FnExactCardsFor .any (Rows.fnExactCardsForSpec.pre6 enc Try.prog Try.f5 Rows.fnExactCardsForRow.domain false) (Rows.fnExactCardsForSpec.post enc Try.prog Try.f5 false true false false) :=
  law_returns (C := Try.checked) rfl Try.own started (by kernel_rfl) Try.func5
    (ChangeSpec.witness6 (enc := enc) (C := Try.checked) false ⟨#[], #[.agg #[.int .i64 0, .int .i64 0, .string ⟨#[]⟩, .int .i64 0, .int .i64 0, .int .i64 0, .int .i64 0], .slice none 0 0], []⟩ 8 (by kernel_rfl) (by kernel_rfl) (by kernel_rfl) (by kernel_rfl))
    Try.laidOut (by kernel_rfl) rfl Try.underlying4 rfl (fun ds h => by match ds, h with | [_, _], _ => exact ⟨rfl, rfl, rfl⟩)
    (Args.cons (Arg.struct Try.underlying43 oSpec) (Args.cons (Arg.slice Try.underlying22 oCards) Args.nil)) (fun a => by
      have h := law_lwCf (gSpcA a.1) (gCards a.2.1) a.1.2.1.2 (gCards_big a.2.1)
      rw [gCards_enc] at h
      exact h)

theorem cardsfor_holds : Rows.FnExactCardsForSaid :=
  OpenClaim.holds_of_wide 5 Try.f5 rfl rfl rfl rfl rfl rfl rfl ⟨rfl, rfl, rfl, rfl, rfl⟩ rfl rfl rfl rfl rfl (by kernel_rfl) Try.func5 (by kernel_rfl)
    (of_decide_eq_true (by kernel_rfl)) (by unfold Func.isWrapper; first | (rw [if_pos (by decide +kernel)]; kernel_rfl) | (rw [if_neg (by decide +kernel)]; exact ⟨rfl, rfl⟩))
    (fun os started H enc _ => cardsfor_lifted os started H enc)
#print axioms cardsfor_holds
end Go.Proofs.Ytokfhfdnmnblfaa
