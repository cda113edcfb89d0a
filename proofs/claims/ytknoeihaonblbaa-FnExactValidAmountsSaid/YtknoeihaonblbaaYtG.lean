/-
  The law FnExactValidAmounts returns true for every input, and its argument reads behind the call as it read before. Conditions: none beyond the given statement (Rows.FnExactValidAmountsSaid).
-/
import Derived.Test.YtknoeihaonblbaaYtF
namespace Go.Proofs.Ytknoeihaonblbaa
open Go.Vs Go.ChangeShapes Go.WideShapes Go.ChangeAt Go.RowKit

set_option maxRecDepth 100000 in
theorem amounts_lifted (os : Os) (started : os.Started) (H : Type) (enc : TypeId × Value → H) :
    ReturnsInHanded {} Try.checked os F.laws_FnExactValidAmounts .any (Rows.fnExactValidAmountsSpec.pre6 enc Try.prog Try.f4 Rows.fnExactValidAmountsRow.domain false) (Rows.fnExactValidAmountsSpec.post enc Try.prog Try.f4 false true false false) := by
  refine returnsInHanded_of_change (C := Try.checked) Try.own started (by kernel_rfl) Try.func4
    (ChangeSpec.witness6 (enc := enc) (C := Try.checked) false ⟨#[], #[.slice none 0 0], []⟩ 8 (by kernel_rfl) (by kernel_rfl) (by kernel_rfl) (by kernel_rfl)) ?_
  intro W base args ds gs before hval0 hW _ _
  have hW' := hW
  obtain ⟨p, q, hA0, hV, rfl, hfz, hnd⟩ := hW
  have hA : DataW.TrodAll enc Try.prog W 0 (fun _ => true) true Try.f4.params.toList args.toList ds p := hA0
  have hval : ∀ (j : Nat) t v, Try.f4.params[j]? = some t → args[j]? = some v → Value.okWide Try.prog W .any base t v := hval0
  rw [Try.params4] at hA hval
  obtain ⟨v0, d0, rfl, rfl, h0⟩ := trodAll_one hA
  have hu : Try.prog.underlying _ = some (.slice 2) := Try.underlying23
  obtain ⟨a0, len0, cap0, rfl⟩ := okWide_slice hu (hval 0 _ v0 rfl rfl)
  obtain ⟨rfl, rfl⟩ := trodVars_none hV
  have hop := Opens.slice (P := Try.prog) hu (by kernel_rfl) (by decide) (Opens.int (P := Try.prog) Try.underlying2 (by kernel_rfl))
  obtain ⟨l, hl⟩ := arg_one hop rfl h0
  have hl' : RC (fun b => b < W.heap.size) W (.sl 1 (eI (l.1.map (·.1)))) (.slice a0 len0 cap0) := by
    have e : l.1.map (fun n => [AV.v (.int .i64 n.1)]) = eI (l.1.map (·.1)) := by simp [eI]
    rw [← e]
    exact hl
  exact law_post Try.laidOut (by kernel_rfl) rfl Try.underlying4 hW' rfl ⟨rfl, rfl, rfl⟩ (laws_ValidAmounts (l.1.map (·.1))) rfl (fun j hj => by
    have : j = 0 := by simpa using hj
    subst this
    exact hl')

theorem amounts_holds : Rows.FnExactValidAmountsSaid :=
  OpenClaim.holds_of_wide 4 Try.f4 rfl rfl rfl rfl rfl rfl rfl ⟨rfl, rfl, rfl, rfl, rfl⟩ rfl rfl rfl rfl rfl (by kernel_rfl) Try.func4 (by kernel_rfl)
    (of_decide_eq_true (by kernel_rfl)) (by unfold Func.isWrapper; first | (rw [if_pos (by decide +kernel)]; kernel_rfl) | (rw [if_neg (by decide +kernel)]; exact ⟨rfl, rfl⟩))
    (fun os started H enc _ => amounts_lifted os started H enc)
#print axioms amounts_holds
end Go.Proofs.Ytknoeihaonblbaa
