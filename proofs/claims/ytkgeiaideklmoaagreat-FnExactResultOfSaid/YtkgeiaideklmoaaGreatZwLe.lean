/- The law FnExactResultOf returns true for every input, and its arguments read behind the call as they read before. Conditions: none beyond the given statement. -/
import Derived.Test.YtkgeiaideklmoaaGreatZwLd
import Derived.Test.YtkgeiaideklmoaaGreatZuO
import Derived.Test.YtkgeiaideklmoaaGreatRows
set_option linter.all false
set_option maxHeartbeats 8000000
namespace Go.Proofs.YtkgeiaideklmoaaGreat
open Go.Vs Go.ChangeShapes Go.WideShapes Go.ChangeAt Go.RowKit
local instance : Vs.Envs := ⟨[]⟩
attribute [local irreducible] Vs.Fn chOK areCh chTo chAt l03 chB rk cd3 chI stp stpTo
set_option maxRecDepth 100000 in
theorem resultof_lifted (I:Os) (G:I.Started) (H:Type) (enc:TypeId×Value→H) :
  ReturnsInHanded {} Tryz.checked I F.lawResultOf .any (Rows.fnExactResultOfSpec.pre6 enc Tryz.prog Tryz.f3 Rows.fnExactResultOfRow.domain false) (Rows.fnExactResultOfSpec.post enc Tryz.prog Tryz.f3 false true false false):=
 law_returns (C:=Tryz.checked) rfl Tryz.own G (by kernel_rfl) Tryz.func3
  (ChangeSpec.witness6 (enc:=enc) (C:=Tryz.checked) false ⟨#[],#[.slice none 0 0,.slice none 0 0],[]⟩ 8 (by kernel_rfl) (by kernel_rfl) (by kernel_rfl) (by kernel_rfl))
  Tryz.laidOut (by kernel_rfl) rfl Tryz.underlying4 rfl (fun J h=>by match J,h with | [_,_],_=>exact⟨rfl,rfl,rfl⟩)
  (Args.cons (Arg.slice Tryz.underlying22 oSteps) (Args.cons (Arg.slice Tryz.underlying23 oCards) Args.nil)) (fun a=>by
    have h:=law_ResultOf (a.1.1.map gStp) (gCards a.2.1) (fun x L=>by obtain⟨p,_,rfl⟩:=List.mem_map.1 L;exact p.2.2.2.2.2.2.2) (by simpa using a.1.2) (gCards_big a.2.1);rw[E_map,gCards_enc] at h;exact h)
theorem resultof_holds:Rows.FnExactResultOfSaid:=
 OpenClaim.holds_of_wide 3 Tryz.f3 rfl rfl rfl rfl rfl rfl rfl ⟨rfl,rfl,rfl,rfl,rfl⟩ rfl rfl rfl rfl rfl (by kernel_rfl) Tryz.func3 (by kernel_rfl)
  (of_decide_eq_true (by kernel_rfl)) (by unfold Func.isWrapper;first|(rw[if_pos (by decide +kernel)];kernel_rfl)|(rw[if_neg (by decide +kernel)];exact⟨rfl,rfl⟩))
  (fun G F H enc _=>resultof_lifted G F H enc)
#print axioms resultof_holds
end Go.Proofs.YtkgeiaideklmoaaGreat
