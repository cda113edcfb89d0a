/- The law FnFlowChecks returns true for every input, and its arguments read behind the call as they read before. Conditions: none beyond the given statement. -/
import Derived.Test.YthbnjmgjhonfbaaGreatTwFb
import Derived.Test.YthbnjmgjhonfbaaGreatTuO
import Derived.Test.YthbnjmgjhonfbaaGreatVtR
import Derived.Test.YthbnjmgjhonfbaaGreatRows
set_option linter.all false
set_option maxHeartbeats 8000000
namespace Go.Proofs.YthbnjmgjhonfbaaGreat
open Go.Vs Go.ChangeShapes Go.WideShapes Go.ChangeAt Go.RowKit
local instance : Vs.Envs := ⟨[]⟩
attribute [local irreducible] Vs.Fn
abbrev U8:={n:Int // (Lit.int .u8 n).wf=true}
theorem U8_in (n:U8):0≤n.1∧n.1≤255:=by
 have h:=n.2;simp only[Lit.wf,Bool.and_eq_true,decide_eq_true_eq] at h;have e1:IntKind.u8.min=0:=by decide
 have e2:IntKind.u8.max=255:=by decide
 omega
theorem oU8:Opens Tryz.prog 5 1 (fun n:U8=>[.v (.int .u8 n.1)]):=Opens.int Tryz.underlying5 (by kernel_rfl)
theorem oBytes:Opens Tryz.prog 22 1 (fun l:{l:List U8 // l.length<2 ^ 63}=>[.sl 1 (l.1.map (fun n:U8=>[.v (.int .u8 n.1)]))]):=Opens.slice Tryz.underlying22 (by kernel_rfl) (by decide) oU8
set_option maxRecDepth 100000 in
theorem flowchecks_lifted (os:Os) (started:os.Started) (H:Type) (enc:TypeId×Value→H) :
  ReturnsInHanded {} Tryz.checked os F.l_FnFlowChecks .any (Rows.fnFlowChecksSpec.pre6 enc Tryz.prog Tryz.f3 Rows.fnFlowChecksRow.domain false) (Rows.fnFlowChecksSpec.post enc Tryz.prog Tryz.f3 false true false false):=
 law_returns (C:=Tryz.checked) rfl Tryz.own started (by kernel_rfl) Tryz.func3
  (ChangeSpec.witness6 (enc:=enc) (C:=Tryz.checked) false ⟨#[],#[.slice none 0 0],[]⟩ 8 (by kernel_rfl) (by kernel_rfl) (by kernel_rfl) (by kernel_rfl))
  Tryz.laidOut (by kernel_rfl) rfl Tryz.underlying4 rfl (fun ds h=>by match ds,h with | [_],_=>exact⟨rfl,rfl,rfl⟩)
  (Args.cons (Arg.slice Tryz.underlying22 oBytes) Args.nil) (fun a=>by
    have h:=law_FnFlowChecks (a.1.1.map fun n=>n.1) (fun x hx=>by obtain⟨n,_,rfl⟩:=List.mem_map.1 hx;exact U8_in n);rw[E_map] at h;exact h)
theorem flowchecks_holds:Rows.FnFlowChecksSaid:=
 OpenClaim.holds_of_wide 3 Tryz.f3 rfl rfl rfl rfl rfl rfl rfl ⟨rfl,rfl,rfl,rfl,rfl⟩ rfl rfl rfl rfl rfl (by kernel_rfl) Tryz.func3 (by kernel_rfl)
  (of_decide_eq_true (by kernel_rfl)) (by unfold Func.isWrapper;first|(rw[if_pos (by decide +kernel)];kernel_rfl)|(rw[if_neg (by decide +kernel)];exact⟨rfl,rfl⟩))
  (fun os started H enc _=>flowchecks_lifted os started H enc)
#print axioms flowchecks_holds
end Go.Proofs.YthbnjmgjhonfbaaGreat
