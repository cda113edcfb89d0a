/- The law FnExactRunFlow returns true for every input, and its arguments read behind the call as they read before. Conditions: none beyond the given statement. -/
import Derived.Test.YtkgeiaideklmoaaGreatZwEf
set_option linter.all false
set_option maxHeartbeats 8000000
namespace Go.Proofs.YtkgeiaideklmoaaGreat
open Go.Vs
local instance : Vs.Envs := ⟨[]⟩
attribute [local irreducible] Vs.Fn
def gStpX (p:I64×I64×I64×I64×(I64×I64)×(I64×I64)×S63):Stp:=⟨p.1.1,p.2.1.1,p.2.2.1.1,p.2.2.2.1.1,p.2.2.2.2.1.1.1,p.2.2.2.2.1.2.1,p.2.2.2.2.2.1.1.1,p.2.2.2.2.2.1.2.1,p.2.2.2.2.2.2.1⟩
set_option maxRecDepth 100000 in
theorem runflow_lifted (J:Os) (I:J.Started) (H:Type) (enc:TypeId×Value->H) :
  ReturnsInHanded {} Tryz.checked J F.lawRunFlow .any (Rows.fnExactRunFlowSpec.pre6 enc Tryz.prog Tryz.f5 Rows.fnExactRunFlowRow.domain false) (Rows.fnExactRunFlowSpec.post enc Tryz.prog Tryz.f5 false true false false):=
 law_returns (C:=Tryz.checked) rfl Tryz.own I (by kernel_rfl) Tryz.func5
  (ChangeSpec.witness6 (enc:=enc) (C:=Tryz.checked) false ⟨#[],#[.agg #[.slice none 0 0,.slice none 0 0],.slice none 0 0],[]⟩ 8 (by kernel_rfl) (by kernel_rfl) (by kernel_rfl) (by kernel_rfl))
  Tryz.laidOut (by kernel_rfl) rfl Tryz.underlying4 rfl (λL h=>by match L,h with | [_,_],_=>exact⟨rfl,rfl,rfl⟩)
  (Args.cons (Arg.struct Tryz.underlying43 oOffice) (Args.cons (Arg.slice Tryz.underlying22 oSteps) Args.nil)) (λa=>by
    have h:=law_RunFlow (gOff a.1) (a.2.1.1.map gStpX) (gOff_big a.1) (λx O=>by obtain⟨p,_,rfl⟩:=Bq.1 O;exact p.2.2.2.2.2.2.2) (by simpa using a.2.1.2);rw[E_map,gOff_enc] at h;exact h)
theorem runflow_holds:Rows.FnExactRunFlowSaid:=
 OpenClaim.holds_of_wide 5 Tryz.f5 rfl rfl rfl rfl rfl rfl rfl ⟨rfl,rfl,rfl,rfl,rfl⟩ rfl rfl rfl rfl rfl (by kernel_rfl) Tryz.func5 (by kernel_rfl)
  (BJ (by kernel_rfl)) (by unfold Func.isWrapper;first|(rw[AP (by decide +kernel)];kernel_rfl)|(rw[AB (by decide +kernel)];exact⟨rfl,rfl⟩))
  (λI F H enc _=>runflow_lifted I F H enc)
#print axioms runflow_holds
end Go.Proofs.YtkgeiaideklmoaaGreat
