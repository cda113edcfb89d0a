/- The law FnExactEvalSpec returns true for every input, and its arguments read behind the call as they read before. Conditions: none beyond the given statement. -/
import Derived.Test.YtmgnfpmdlgcnjaaGreatZwRf
set_option linter.unusedSimpArgs false
set_option linter.unusedVariables false
set_option linter.unusedSectionVars false
set_option maxHeartbeats 8000000
namespace Go.Proofs.YtmgnfpmdlgcnjaaGreat
open Go.Vs
local instance : Vs.Envs := ⟨[]⟩
attribute [local irreducible] Vs.Fn chOK areCh chTo chAt l03 chB rk cd3 chI stp stpTo
def gSpcA (p : (I64 × I64) × S63 × (I64 × I64) × (I64 × I64)) : Spc := ⟨p.1.1.1, p.1.2.1, p.2.1.1, p.2.2.1.1.1, p.2.2.1.2.1, p.2.2.2.1.1, p.2.2.2.2.1⟩
set_option maxRecDepth 100000 in
theorem evalspec_lifted (os : Os) (started : os.Started) (H : Type) (enc : TypeId × Value → H) :
  ReturnsInHanded {} Tryz.checked os F.lawEvalSpec .any (Rows.fnExactEvalSpecSpec.pre6 enc Tryz.prog Tryz.f3 Rows.fnExactEvalSpecRow.domain false) (Rows.fnExactEvalSpecSpec.post enc Tryz.prog Tryz.f3 false true false false) :=
 law_returns (C := Tryz.checked) rfl Tryz.own started (by kernel_rfl) Tryz.func3
  (ChangeSpec.witness6 (enc := enc) (C := Tryz.checked) false ⟨#[], #[.agg #[.int .i64 0, .int .i64 0, .string ⟨#[]⟩, .int .i64 0, .int .i64 0, .int .i64 0, .int .i64 0], .slice none 0 0], []⟩ 8 (by kernel_rfl) (by kernel_rfl) (by kernel_rfl) (by kernel_rfl))
  Tryz.laidOut (by kernel_rfl) rfl Tryz.underlying4 rfl (fun ds h => by match ds, h with | [_, _], _ => exact ⟨rfl, rfl, rfl⟩)
  (Args.cons (Arg.struct Tryz.underlying25 oSpec) (Args.cons (Arg.slice Tryz.underlying26 oCards) Args.nil)) (fun a => by
    have h := law_EvalSpec (gSpcA a.1) (gCards a.2.1) a.1.2.1.2 (gCards_big a.2.1)
    rw [gCards_enc] at h
    exact h)
theorem evalspec_holds : Rows.FnExactEvalSpecSaid :=
 OpenClaim.holds_of_wide 3 Tryz.f3 rfl rfl rfl rfl rfl rfl rfl ⟨rfl, rfl, rfl, rfl, rfl⟩ rfl rfl rfl rfl rfl (by kernel_rfl) Tryz.func3 (by kernel_rfl)
  (of_decide_eq_true (by kernel_rfl)) (by unfold Func.isWrapper; first | (rw [if_pos (by decide +kernel)]; kernel_rfl) | (rw [if_neg (by decide +kernel)]; exact ⟨rfl, rfl⟩))
  (fun os started H enc _ => evalspec_lifted os started H enc)
#print axioms evalspec_holds
end Go.Proofs.YtmgnfpmdlgcnjaaGreat
