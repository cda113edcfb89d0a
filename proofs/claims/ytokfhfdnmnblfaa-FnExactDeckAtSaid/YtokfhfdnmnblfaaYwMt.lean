/- The law FnExactDeckAt returns true for every input, and its arguments read behind the call as they read before. Conditions: none beyond the given statement. -/
import Derived.Test.YtokfhfdnmnblfaaYwMs
namespace Go.Proofs.Ytokfhfdnmnblfaa
open Go.Vs
set_option linter.unusedSectionVars false
local instance : Vs.Envs := ⟨[]⟩
set_option linter.unusedSimpArgs false
set_option linter.unusedVariables false
attribute [local irreducible] Vs.Fn

set_option maxRecDepth 100000 in
theorem deckat_lifted (os : Os) (started : os.Started) (H : Type) (enc : TypeId × Value → H) :
    ReturnsInHanded {} Try.checked os F.laws_FnExactDeckAt .any (Rows.fnExactDeckAtSpec.pre6 enc Try.prog Try.f3 Rows.fnExactDeckAtRow.domain false) (Rows.fnExactDeckAtSpec.post enc Try.prog Try.f3 false true false false) :=
  law_returns (C := Try.checked) rfl Try.own started (by kernel_rfl) Try.func3
    (ChangeSpec.witness6 (enc := enc) (C := Try.checked) false ⟨#[], #[.slice none 0 0, .int .i64 0, .int .i64 0], []⟩ 8 (by kernel_rfl) (by kernel_rfl) (by kernel_rfl) (by kernel_rfl))
    Try.laidOut (by kernel_rfl) rfl Try.underlying4 rfl (fun ds h => by match ds, h with | [_, _, _], _ => exact ⟨rfl, rfl, rfl⟩)
    (Args.cons (Arg.slice Try.underlying22 oCards) (Args.cons (Arg.int Try.underlying2 (by kernel_rfl)) (Args.cons (Arg.int Try.underlying2 (by kernel_rfl)) Args.nil))) (fun a => by
      have h := law_lwDa (gCards a.1) a.2.1.1 a.2.2.1.1 (gCards_big a.1)
      rw [gCards_enc] at h
      exact h)

theorem deckat_holds : Rows.FnExactDeckAtSaid :=
  OpenClaim.holds_of_wide 3 Try.f3 rfl rfl rfl rfl rfl rfl rfl ⟨rfl, rfl, rfl, rfl, rfl⟩ rfl rfl rfl rfl rfl (by kernel_rfl) Try.func3 (by kernel_rfl)
    (of_decide_eq_true (by kernel_rfl)) (by unfold Func.isWrapper; first | (rw [if_pos (by decide +kernel)]; kernel_rfl) | (rw [if_neg (by decide +kernel)]; exact ⟨rfl, rfl⟩))
    (fun os started H enc _ => deckat_lifted os started H enc)
#print axioms deckat_holds
end Go.Proofs.Ytokfhfdnmnblfaa
