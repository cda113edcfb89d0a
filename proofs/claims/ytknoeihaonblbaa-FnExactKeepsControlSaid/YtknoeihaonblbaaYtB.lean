/-
  The law FnExactKeepsControl returns true for every input, and its argument reads behind the call as it read before. Conditions: none beyond the given statement (Rows.FnExactKeepsControlSaid).
-/
import Derived.Test.YtknoeihaonblbaaYtA
namespace Go.Proofs.Ytknoeihaonblbaa
open Go.Vs Go.ChangeShapes Go.WideShapes Go.ChangeAt Go.RowKit
theorem Try.own : ownKnob Try.prog.godebug = none := by kernel_rfl
theorem Try.laidOut : laidOutB Try.prog = true := by kernel_rfl
set_option linter.unusedSimpArgs false
def keepsB (n : Int) : Bool := n == 1 || n == 2
theorem spec_KeepsControl (n : Int) : Vs.Fn Try.prog F.spec_KeepsControl [] [.v (.int .i64 n)] (.v (.bool (keepsB n))) [] := by
  refine Cd.spec_KeepsControl_ok.fn 9 [.tmp 2] [] [] rfl rfl rfl (by simp) rfl (by simp) fun X => ?_
  simp only [Cd.spec_KeepsControl, Vs.wpc, Vs.vc, Vs.stepA, Vs.rd, Vs.al, Vs.look, Vs.put, Vs.keepL, Vs.evO, Vs.AV.ofValue, Vs.AV.mk, reduceIte, Nat.reduceEqDiff, Vs.retK, Vs.resL, Vs.resV, Vs.oneOr, Vs.ini, Vs.iniH, Vs.binI, true_and, Vs.conv, Vs.blksO, Vs.hlook]
  cases h : (n == 1) <;> simp [h, keepsB]
theorem impl_KeepsControl (n : Int) : Vs.Fn Try.prog F.impl_KeepsControl [] [.v (.int .i64 n)] (.v (.bool (keepsB n))) [] := by
  refine Cd.impl_KeepsControl_ok.fn 9 [.tmp 2] [] [] rfl rfl rfl (by simp) rfl (by simp) fun X => ?_
  simp only [Cd.impl_KeepsControl, Vs.wpc, Vs.vc, Vs.stepA, Vs.rd, Vs.al, Vs.look, Vs.put, Vs.keepL, Vs.evO, Vs.AV.ofValue, Vs.AV.mk, reduceIte, Nat.reduceEqDiff, Vs.retK, Vs.resL, Vs.resV, Vs.oneOr, Vs.ini, Vs.iniH, Vs.binI, true_and, Vs.conv, Vs.blksO, Vs.hlook]
  cases h : (n == 1) <;> simp [h, keepsB]
theorem laws_KeepsControl (n : Int) : Vs.Fn Try.prog F.laws_FnExactKeepsControl [] [.v (.int .i64 n)] (.v (.bool true)) [] := by
  refine Cd.laws_FnExactKeepsControl_ok.fn 12 [.tmp 2] [] [] rfl rfl rfl (by simp) rfl (by simp) fun X => ?_
  unfold Cd.laws_FnExactKeepsControl
  simp only [Vs.wpc, Vs.vc, Vs.stepA, Vs.rd, Vs.al, Vs.look, Vs.put, Vs.keepL, Vs.evO, Vs.AV.ofValue, Vs.AV.mk, reduceIte, Nat.reduceEqDiff, Vs.retK, Vs.resL, Vs.resV, Vs.oneOr, Vs.ini, Vs.iniH, Vs.binI, Vs.binBool, true_and, Vs.conv, Vs.blksO, Vs.hlook, Vs.callL, Vs.borN, Vs.mapO, List.map, List.flatMap_nil, List.append_nil, List.nil_append, Vs.rn, Vs.aftL, Vs.newsL, Vs.oldsL, Option.getD_some, Option.getD_none, Vs.nodupB]
  refine ⟨_, _, true, spec_KeepsControl n, by simp, rfl, ?_⟩
  simp only [Vs.wpc, Vs.vc, Vs.stepA, Vs.rd, Vs.al, Vs.look, Vs.put, Vs.keepL, Vs.evO, Vs.AV.ofValue, Vs.AV.mk, reduceIte, Nat.reduceEqDiff, Vs.retK, Vs.resL, Vs.resV, Vs.oneOr, Vs.ini, Vs.iniH, Vs.binI, Vs.binBool, true_and, Vs.conv, Vs.blksO, Vs.hlook, Vs.callL, Vs.borN, Vs.mapO, List.map, List.flatMap_nil, List.append_nil, List.nil_append, Vs.rn, Vs.aftL, Vs.newsL, Vs.oldsL, Option.getD_some, Option.getD_none, Vs.nodupB]
  refine ⟨_, _, true, impl_KeepsControl n, by simp, rfl, ?_⟩
  simp only [Vs.wpc, Vs.vc, Vs.stepA, Vs.rd, Vs.al, Vs.look, Vs.put, Vs.keepL, Vs.evO, Vs.AV.ofValue, Vs.AV.mk, reduceIte, Nat.reduceEqDiff, Vs.retK, Vs.resL, Vs.resV, Vs.oneOr, Vs.ini, Vs.iniH, Vs.binI, Vs.binBool, true_and, Vs.conv, Vs.blksO, Vs.hlook, Vs.callL, Vs.borN, Vs.mapO, List.map, List.flatMap_nil, List.append_nil, List.nil_append, Vs.rn, Vs.aftL, Vs.newsL, Vs.oldsL, Option.getD_some, Option.getD_none, Vs.nodupB]
  simp

set_option maxRecDepth 100000 in
theorem keeps_lifted (os : Os) (started : os.Started) (H : Type) (enc : TypeId × Value → H) :
    ReturnsInHanded {} Try.checked os F.laws_FnExactKeepsControl .any (Rows.fnExactKeepsControlSpec.pre6 enc Try.prog Try.f3 Rows.fnExactKeepsControlRow.domain false) (Rows.fnExactKeepsControlSpec.post enc Try.prog Try.f3 false true false false) := by
  refine returnsInHanded_of_change (C := Try.checked) Try.own started (by kernel_rfl) Try.func3
    (ChangeSpec.witness6 (enc := enc) (C := Try.checked) false ⟨#[], #[.int .i64 0], []⟩ 8 (by kernel_rfl) (by kernel_rfl) (by kernel_rfl) (by kernel_rfl)) ?_
  intro W base args ds gs before hval0 hW _ _
  have hW' := hW
  obtain ⟨p, q, hA0, hV, rfl, hfz, hnd⟩ := hW
  have hA : DataW.TrodAll enc Try.prog W 0 (fun _ => true) true Try.f3.params.toList args.toList ds p := hA0
  have hval : ∀ (j : Nat) t v, Try.f3.params[j]? = some t → args[j]? = some v → Value.okWide Try.prog W .any base t v := hval0
  rw [Try.params3] at hA hval
  obtain ⟨v0, d0, rfl, rfl, h0⟩ := trodAll_one hA
  obtain ⟨n0, rfl⟩ := okWide_int Try.underlying2 (hval 0 2 v0 rfl rfl)
  obtain ⟨rfl, rfl⟩ := trodVars_none hV
  exact law_post Try.laidOut (by kernel_rfl) rfl Try.underlying4 hW' rfl ⟨rfl, rfl, rfl⟩ (laws_KeepsControl n0) rfl (fun j hj => by
    have : j = 0 := by simpa using hj
    subst this
    exact .v _)

theorem keeps_holds : Rows.FnExactKeepsControlSaid :=
  OpenClaim.holds_of_wide 3 Try.f3 rfl rfl rfl rfl rfl rfl rfl ⟨rfl, rfl, rfl, rfl, rfl⟩ rfl rfl rfl rfl rfl (by kernel_rfl) Try.func3 (by kernel_rfl)
    (of_decide_eq_true (by kernel_rfl)) (by unfold Func.isWrapper; first | (rw [if_pos (by decide +kernel)]; kernel_rfl) | (rw [if_neg (by decide +kernel)]; exact ⟨rfl, rfl⟩))
    (fun os started H enc _ => keeps_lifted os started H enc)
#print axioms keeps_holds
end Go.Proofs.Ytknoeihaonblbaa
