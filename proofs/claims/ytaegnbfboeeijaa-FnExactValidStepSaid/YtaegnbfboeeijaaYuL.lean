/- The law FnExactValidStep returns true for every input, and its arguments read behind the call as they read before. Conditions: none beyond the given statement. -/
import Derived.Test.YtaegnbfboeeijaaYuJ
import Derived.Test.YtaegnbfboeeijaaYuP
namespace Go.Proofs.Ytaegnbfboeeijaa
open Go.Vs
set_option linter.unusedSimpArgs false
set_option linter.unusedVariables false
attribute [local irreducible] Vs.Fn chOK areCh chTo chAt l03

set_option maxRecDepth 100000 in
theorem validstep_lifted (os : Os) (started : os.Started) (H : Type) (enc : TypeId × Value → H) :
    ReturnsInHanded {} Try.checked os F.laws_FnExactValidStep .any (Rows.fnExactValidStepSpec.pre6 enc Try.prog Try.f8 Rows.fnExactValidStepRow.domain false) (Rows.fnExactValidStepSpec.post enc Try.prog Try.f8 false true false false) :=
  law_returns (C := Try.checked) Try.own started (by kernel_rfl) Try.func8
    (ChangeSpec.witness6 (enc := enc) (C := Try.checked) false ⟨#[], #[.agg #[.int .i64 0, .int .i64 0, .int .i64 0, .int .i64 0, .int .i64 0, .int .i64 0, .int .i64 0, .int .i64 0, .string ⟨#[]⟩], .int .i64 0], []⟩ 8 (by kernel_rfl) (by kernel_rfl) (by kernel_rfl) (by kernel_rfl))
    Try.laidOut (by kernel_rfl) rfl Try.underlying4 rfl (fun ds h => by match ds, h with | [_, _], _ => exact ⟨rfl, rfl, rfl⟩)
    (Args.cons (Arg.struct Try.underlying54 oStep) (Args.cons (Arg.int Try.underlying2 (by kernel_rfl)) Args.nil)) (fun a => law_ValidStep (gStp a.1) a.2.1.1 a.1.2.2.2.2.2.2.2)

theorem validstep_holds : Rows.FnExactValidStepSaid :=
  OpenClaim.holds_of_wide 8 Try.f8 rfl rfl rfl rfl rfl rfl rfl ⟨rfl, rfl, rfl, rfl, rfl⟩ rfl rfl rfl rfl rfl (by kernel_rfl) Try.func8 (by kernel_rfl)
    (of_decide_eq_true (by kernel_rfl)) (by unfold Func.isWrapper; first | (rw [if_pos (by decide +kernel)]; kernel_rfl) | (rw [if_neg (by decide +kernel)]; exact ⟨rfl, rfl⟩))
    (fun os started H enc _ => validstep_lifted os started H enc)
#print axioms validstep_holds
end Go.Proofs.Ytaegnbfboeeijaa
