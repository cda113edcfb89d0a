/- The law FnExactValidSpec returns true for every input, and its arguments read behind the call as they read before. Conditions: none beyond the given statement. -/
import Derived.Test.YtaegnbfboeeijaaYuG
import Derived.Test.YtaegnbfboeeijaaYuO
namespace Go.Proofs.Ytaegnbfboeeijaa
open Go.Vs
set_option linter.unusedSimpArgs false
set_option linter.unusedVariables false
attribute [local irreducible] Vs.Fn chOK areCh chTo chAt l03
def gSpc (p : (I64 × I64) × S63 × (I64 × I64) × (I64 × I64)) : Spc := ⟨p.1.1.1, p.1.2.1, p.2.1.1, p.2.2.1.1.1, p.2.2.1.2.1, p.2.2.2.1.1, p.2.2.2.2.1⟩

set_option maxRecDepth 100000 in
theorem validspec_lifted (os : Os) (started : os.Started) (H : Type) (enc : TypeId × Value → H) :
    ReturnsInHanded {} Try.checked os F.laws_FnExactValidSpec .any (Rows.fnExactValidSpecSpec.pre6 enc Try.prog Try.f6 Rows.fnExactValidSpecRow.domain false) (Rows.fnExactValidSpecSpec.post enc Try.prog Try.f6 false true false false) :=
  law_returns (C := Try.checked) Try.own started (by kernel_rfl) Try.func6
    (ChangeSpec.witness6 (enc := enc) (C := Try.checked) false ⟨#[], #[.agg #[.int .i64 0, .int .i64 0, .string ⟨#[]⟩, .int .i64 0, .int .i64 0, .int .i64 0, .int .i64 0], .int .i64 0], []⟩ 8 (by kernel_rfl) (by kernel_rfl) (by kernel_rfl) (by kernel_rfl))
    Try.laidOut (by kernel_rfl) rfl Try.underlying4 rfl (fun ds h => by match ds, h with | [_, _], _ => exact ⟨rfl, rfl, rfl⟩)
    (Args.cons (Arg.struct Try.underlying39 oSpec) (Args.cons (Arg.int Try.underlying2 (by kernel_rfl)) Args.nil)) (fun a => law_ValidSpec (gSpc a.1) a.2.1.1 a.1.2.1.2)

theorem validspec_holds : Rows.FnExactValidSpecSaid :=
  OpenClaim.holds_of_wide 6 Try.f6 rfl rfl rfl rfl rfl rfl rfl ⟨rfl, rfl, rfl, rfl, rfl⟩ rfl rfl rfl rfl rfl (by kernel_rfl) Try.func6 (by kernel_rfl)
    (of_decide_eq_true (by kernel_rfl)) (by unfold Func.isWrapper; first | (rw [if_pos (by decide +kernel)]; kernel_rfl) | (rw [if_neg (by decide +kernel)]; exact ⟨rfl, rfl⟩))
    (fun os started H enc _ => validspec_lifted os started H enc)
#print axioms validspec_holds
end Go.Proofs.Ytaegnbfboeeijaa
