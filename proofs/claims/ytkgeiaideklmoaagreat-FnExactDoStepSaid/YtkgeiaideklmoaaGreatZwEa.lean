/- The law FnExactDoStep returns true for every input, and its arguments read behind the call as they read before. Conditions: none beyond the given statement. -/
import Derived.Test.YtkgeiaideklmoaaGreatZwDz
set_option linter.all false
set_option maxHeartbeats 8000000
namespace Go.Proofs.YtkgeiaideklmoaaGreat
open Go.Vs
local instance : Vs.Envs := ⟨[]⟩
attribute [local irreducible] Vs.Fn
def gStpX (p:I64×I64×I64×I64×(I64×I64)×(I64×I64)×S63):Stp:=⟨p.1.1,p.2.1.1,p.2.2.1.1,p.2.2.2.1.1,p.2.2.2.2.1.1.1,p.2.2.2.2.1.2.1,p.2.2.2.2.2.1.1.1,p.2.2.2.2.2.1.2.1,p.2.2.2.2.2.2.1⟩
set_option maxRecDepth 100000 in
theorem dostep_lifted (J:Os) (I:J.Started) (H:Type) (enc:TypeId×Value->H) :
  ReturnsInHanded {} Tryz.checked J F.lawDoStep .any (Rows.fnExactDoStepSpec.pre6 enc Tryz.prog Tryz.f4 Rows.fnExactDoStepRow.domain false) (Rows.fnExactDoStepSpec.post enc Tryz.prog Tryz.f4 false true false false):=
 law_returns (C:=Tryz.checked) rfl Tryz.own I (by kernel_rfl) Tryz.func4
  (ChangeSpec.witness6 (enc:=enc) (C:=Tryz.checked) false ⟨#[],#[.agg #[.slice none 0 0,.slice none 0 0],.agg #[.int .i64 0,.int .i64 0,.int .i64 0,.int .i64 0,.int .i64 0,.int .i64 0,.int .i64 0,.int .i64 0,.string ⟨#[]⟩]],[]⟩ 8 (by kernel_rfl) (by kernel_rfl) (by kernel_rfl) (by kernel_rfl))
  Tryz.laidOut (by kernel_rfl) rfl Tryz.underlying4 rfl (λL h=>by match L,h with | [_,_],_=>exact⟨rfl,rfl,rfl⟩)
  (Args.cons (Arg.struct Tryz.underlying43 oOffice) (Args.cons (Arg.struct Tryz.underlying47 oStep) Args.nil)) (λa=>by
    have h:=law_DoStep (gOff a.1) (gStpX a.2.1) (gOff_big a.1) a.2.1.2.2.2.2.2.2.2;rw[gOff_enc] at h;exact h)
theorem dostep_holds:Rows.FnExactDoStepSaid:=
 OpenClaim.holds_of_wide 4 Tryz.f4 rfl rfl rfl rfl rfl rfl rfl ⟨rfl,rfl,rfl,rfl,rfl⟩ rfl rfl rfl rfl rfl (by kernel_rfl) Tryz.func4 (by kernel_rfl)
  (BK (by kernel_rfl)) (by unfold Func.isWrapper;first|(rw[AP (by decide +kernel)];kernel_rfl)|(rw[AC (by decide +kernel)];exact⟨rfl,rfl⟩))
  (λI F H enc _=>dostep_lifted I F H enc)
#print axioms dostep_holds
end Go.Proofs.YtkgeiaideklmoaaGreat
