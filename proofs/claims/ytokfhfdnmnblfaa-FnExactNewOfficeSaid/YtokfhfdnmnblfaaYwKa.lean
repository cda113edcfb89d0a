/- The law FnExactNewOffice returns true for every input, and its arguments read behind the call as they read before. Conditions: none beyond the given statement. -/
import Derived.Test.YtokfhfdnmnblfaaYwMz
namespace Go.Proofs.Ytokfhfdnmnblfaa
open Go.Vs
set_option linter.unusedSectionVars false
local instance : Vs.Envs := ⟨[]⟩
set_option linter.unusedSimpArgs false
set_option linter.unusedVariables false
attribute [local irreducible] Vs.Fn

set_option maxRecDepth 100000 in
theorem newoffice_lifted (os : Os) (started : os.Started) (H : Type) (enc : TypeId × Value → H) :
    ReturnsInHanded {} Try.checked os F.laws_FnExactNewOffice .any (Rows.fnExactNewOfficeSpec.pre6 enc Try.prog Try.f4 Rows.fnExactNewOfficeRow.domain false) (Rows.fnExactNewOfficeSpec.post enc Try.prog Try.f4 false true false false) :=
  law_returns (C := Try.checked) rfl Try.own started (by kernel_rfl) Try.func4
    (ChangeSpec.witness6 (enc := enc) (C := Try.checked) false ⟨#[], #[.slice none 0 0], []⟩ 8 (by kernel_rfl) (by kernel_rfl) (by kernel_rfl) (by kernel_rfl))
    Try.laidOut (by kernel_rfl) rfl Try.underlying4 rfl (fun ds h => by match ds, h with | [_], _ => exact ⟨rfl, rfl, rfl⟩)
    (Args.cons (Arg.slice Try.underlying22 oCards) Args.nil) (fun a => by
      have h := law_NewOffice (gCards a.1) (gCards_big a.1)
      rw [gCards_enc] at h
      exact h)

theorem newoffice_holds : Rows.FnExactNewOfficeSaid :=
  OpenClaim.holds_of_wide 4 Try.f4 rfl rfl rfl rfl rfl rfl rfl ⟨rfl, rfl, rfl, rfl, rfl⟩ rfl rfl rfl rfl rfl (by kernel_rfl) Try.func4 (by kernel_rfl)
    (of_decide_eq_true (by kernel_rfl)) (by unfold Func.isWrapper; first | (rw [if_pos (by decide +kernel)]; kernel_rfl) | (rw [if_neg (by decide +kernel)]; exact ⟨rfl, rfl⟩))
    (fun os started H enc _ => newoffice_lifted os started H enc)
#print axioms newoffice_holds
end Go.Proofs.Ytokfhfdnmnblfaa
