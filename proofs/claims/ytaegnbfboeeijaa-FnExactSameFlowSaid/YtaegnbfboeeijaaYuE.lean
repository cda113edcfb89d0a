/-
  The laws FnExactSameTotals and FnExactSameFlow return true for every input, and their arguments read behind the call as they read before. Conditions: none beyond the given statements.
-/
import Derived.Test.YtaegnbfboeeijaaYuD
import Derived.Test.YtaegnbfboeeijaaYuO
namespace Go.Proofs.Ytaegnbfboeeijaa
open Go.Vs
def gTot (p : S63 × I64) : Tot := (p.1.1, p.2.1)
def gStp (p : I64 × I64 × I64 × I64 × (I64 × I64) × (I64 × I64) × S63) : Stp := ⟨p.1.1, p.2.1.1, p.2.2.1.1, p.2.2.2.1.1, p.2.2.2.2.1.1.1, p.2.2.2.2.1.2.1, p.2.2.2.2.2.1.1.1, p.2.2.2.2.2.1.2.1, p.2.2.2.2.2.2.1⟩

set_option maxRecDepth 100000 in
theorem sametotals_lifted (os : Os) (started : os.Started) (H : Type) (enc : TypeId × Value → H) :
    ReturnsInHanded {} Try.checked os F.laws_FnExactSameTotals .any (Rows.fnExactSameTotalsSpec.pre6 enc Try.prog Try.f5 Rows.fnExactSameTotalsRow.domain false) (Rows.fnExactSameTotalsSpec.post enc Try.prog Try.f5 false true false false) :=
  law_returns (C := Try.checked) Try.own started (by kernel_rfl) Try.func5
    (ChangeSpec.witness6 (enc := enc) (C := Try.checked) false ⟨#[], #[.slice none 0 0, .slice none 0 0], []⟩ 8 (by kernel_rfl) (by kernel_rfl) (by kernel_rfl) (by kernel_rfl))
    Try.laidOut (by kernel_rfl) rfl Try.underlying4 rfl (fun ds h => by match ds, h with | [_, _], _ => exact ⟨rfl, rfl, rfl⟩)
    (Args.cons (Arg.slice Try.underlying30 oTotals) (Args.cons (Arg.slice Try.underlying30 oTotals) Args.nil)) (fun a => by
      have h := law_SameTotals (a.1.1.map gTot) (a.2.1.1.map gTot) (fun x hx => by obtain ⟨p, _, rfl⟩ := List.mem_map.1 hx; exact p.1.2) (fun x hx => by obtain ⟨p, _, rfl⟩ := List.mem_map.1 hx; exact p.1.2) (by simpa using a.1.2) (by simpa using a.2.1.2)
      rw [E_map, E_map] at h
      exact h)

theorem sametotals_holds : Rows.FnExactSameTotalsSaid :=
  OpenClaim.holds_of_wide 5 Try.f5 rfl rfl rfl rfl rfl rfl rfl ⟨rfl, rfl, rfl, rfl, rfl⟩ rfl rfl rfl rfl rfl (by kernel_rfl) Try.func5 (by kernel_rfl)
    (of_decide_eq_true (by kernel_rfl)) (by unfold Func.isWrapper; first | (rw [if_pos (by decide +kernel)]; kernel_rfl) | (rw [if_neg (by decide +kernel)]; exact ⟨rfl, rfl⟩))
    (fun os started H enc _ => sametotals_lifted os started H enc)
#print axioms sametotals_holds

set_option maxRecDepth 100000 in
theorem sameflow_lifted (os : Os) (started : os.Started) (H : Type) (enc : TypeId × Value → H) :
    ReturnsInHanded {} Try.checked os F.laws_FnExactSameFlow .any (Rows.fnExactSameFlowSpec.pre6 enc Try.prog Try.f7 Rows.fnExactSameFlowRow.domain false) (Rows.fnExactSameFlowSpec.post enc Try.prog Try.f7 false true false false) :=
  law_returns (C := Try.checked) Try.own started (by kernel_rfl) Try.func7
    (ChangeSpec.witness6 (enc := enc) (C := Try.checked) false ⟨#[], #[.slice none 0 0, .slice none 0 0], []⟩ 8 (by kernel_rfl) (by kernel_rfl) (by kernel_rfl) (by kernel_rfl))
    Try.laidOut (by kernel_rfl) rfl Try.underlying4 rfl (fun ds h => by match ds, h with | [_, _], _ => exact ⟨rfl, rfl, rfl⟩)
    (Args.cons (Arg.slice Try.underlying47 oSteps) (Args.cons (Arg.slice Try.underlying47 oSteps) Args.nil)) (fun a => by
      have h := law_SameFlow (a.1.1.map gStp) (a.2.1.1.map gStp) (fun x hx => by obtain ⟨p, _, rfl⟩ := List.mem_map.1 hx; exact p.2.2.2.2.2.2.2) (fun x hx => by obtain ⟨p, _, rfl⟩ := List.mem_map.1 hx; exact p.2.2.2.2.2.2.2) (by simpa using a.1.2) (by simpa using a.2.1.2)
      rw [E_map, E_map] at h
      exact h)

theorem sameflow_holds : Rows.FnExactSameFlowSaid :=
  OpenClaim.holds_of_wide 7 Try.f7 rfl rfl rfl rfl rfl rfl rfl ⟨rfl, rfl, rfl, rfl, rfl⟩ rfl rfl rfl rfl rfl (by kernel_rfl) Try.func7 (by kernel_rfl)
    (of_decide_eq_true (by kernel_rfl)) (by unfold Func.isWrapper; first | (rw [if_pos (by decide +kernel)]; kernel_rfl) | (rw [if_neg (by decide +kernel)]; exact ⟨rfl, rfl⟩))
    (fun os started H enc _ => sameflow_lifted os started H enc)
#print axioms sameflow_holds
end Go.Proofs.Ytaegnbfboeeijaa
