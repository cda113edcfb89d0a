/- The law FnExactNeedlessSteps returns true for every input, and its arguments read behind the call as they read before. Conditions: none beyond the given statement. -/
import Derived.Test.YthfnpdhpefialaaGreatYwNr
import Derived.Test.YthfnpdhpefialaaGreatYuO
import Derived.Test.YthfnpdhpefialaaGreatRows
set_option linter.all false
set_option maxHeartbeats 8000000
namespace Go.Proofs.YthfnpdhpefialaaGreat
open Go.Vs Go.ChangeShapes Go.WideShapes Go.ChangeAt Go.RowKit
local instance : Vs.Envs := ⟨[]⟩
attribute [local irreducible] Vs.Fn chOK areCh chTo chAt l03 chB rk cd3 chI stp stpTo
set_option maxRecDepth 100000 in
theorem needlesssteps_lifted (os:Os) (started:os.Started) (H:Type) (enc:TypeId×Value→H) :
  ReturnsInHanded {} Tryz.checked os F.lawNeedlessSteps .any (Rows.fnExactNeedlessStepsSpec.pre6 enc Tryz.prog Tryz.f3 Rows.fnExactNeedlessStepsRow.domain false) (Rows.fnExactNeedlessStepsSpec.post enc Tryz.prog Tryz.f3 false true false false):=
 law_returns (C:=Tryz.checked) rfl Tryz.own started (by kernel_rfl) Tryz.func3
  (ChangeSpec.witness6 (enc:=enc) (C:=Tryz.checked) false ⟨#[],#[.slice none 0 0,.slice none 0 0,.int .i64 0],[]⟩ 8 (by kernel_rfl) (by kernel_rfl) (by kernel_rfl) (by kernel_rfl))
  Tryz.laidOut (by kernel_rfl) rfl Tryz.underlying4 rfl (fun ds h=>by match ds,h with | [_,_,_],_=>exact⟨rfl,rfl,rfl⟩)
  (Args.cons (Arg.slice Tryz.underlying22 oSteps) (Args.cons (Arg.slice Tryz.underlying23 oCards) (Args.cons (Arg.int Tryz.underlying2 (by kernel_rfl)) Args.nil))) (fun a=>by
    have h:=law_NeedlessSteps (a.1.1.map gStp) (gCards a.2.1) a.2.2.1.1 (fun x hx=>by obtain⟨p,_,rfl⟩:=List.mem_map.1 hx;exact p.2.2.2.2.2.2.2) (by simpa using a.1.2) (gCards_big a.2.1)
    rw[E_map,gCards_enc] at h
    exact h)
theorem needlesssteps_holds:Rows.FnExactNeedlessStepsSaid:=
 OpenClaim.holds_of_wide 3 Tryz.f3 rfl rfl rfl rfl rfl rfl rfl ⟨rfl,rfl,rfl,rfl,rfl⟩ rfl rfl rfl rfl rfl (by kernel_rfl) Tryz.func3 (by kernel_rfl)
  (of_decide_eq_true (by kernel_rfl)) (by unfold Func.isWrapper;first|(rw[if_pos (by decide +kernel)];kernel_rfl)|(rw[if_neg (by decide +kernel)];exact⟨rfl,rfl⟩))
  (fun os started H enc _=>needlesssteps_lifted os started H enc)
#print axioms needlesssteps_holds
end Go.Proofs.YthfnpdhpefialaaGreat
