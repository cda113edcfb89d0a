/-
  No cell of these rows narrows 'for every input' (looked for: loops, veiled, ifaces, maps, wideKeys, modest, calm, conditions, laid).
  DERIVED. THE GIVEN ROWS OF THIS SEAT. 3 by the template 'for every input the law returns true; each argument reads behind the call as it read before'; 0 by the template 'total and deterministic' (their statements: YtkgeiaideklmoaaGreatTotals.lean).
  GIVEN WITH THE SEED: the statements are not yours to turn. If you find one false, say at which input.
  Laid BY PROGRAM, IN A SANDBOX (cutbox-rows.mjs): the forced cells as the released guide's own fill.sh prints them over the translation 7bb88055d6e6c3d8… (all of the seat's roots in one cut). By AI agents, Wed Nov 11 2026. No macro, syntax, notation, axiom, sorry.
-/
import Derived.Test.YtkgeiaideklmoaaGreatChecked
import GoSem.Claim
import GoSem.ClaimJoined
import GoSem.ClaimMapViews
import Derived.JoinedTies
import Derived.KernelRfl
namespace Go.Proofs.YtkgeiaideklmoaaGreat
/- THE CELL 'sum', in the pinned program and in every row, IS THE sha256 OF THE DUMP (.gsa) THAT YtkgeiaideklmoaaGreatProg.lean LOADS. Nothing in Lean hashes anything: it is a label: what it is worth is what the hold of that sum in a sandbox is worth. -/
noncomputable def Tryz.pinned : Pinned := { name := "ytkgeiaideklmoaagreat", sum := "7bb88055d6e6c3d8ff85cc3c66e6a8924538203240f11f1503dd5a31f5f543ce", checked := Tryz.checked }
namespace Rows
def none {H : Type} : Left H := { results := [], args := [] }

/-- 'laws.FnExactResultOf': WHATEVER THE INPUT: true; the input reads as it did. -/
def fnExactResultOfSpec : ChangeSpec := { name := "fnExactResultOf", fn := fun _ => fun
  | [d1, d2] => { results := [.lit (.bool true)], args := [d1, d2] }
  | _ => none }
def fnExactResultOfRow : OpenClaim := { program := "ytkgeiaideklmoaagreat", sum := "7bb88055d6e6c3d8ff85cc3c66e6a8924538203240f11f1503dd5a31f5f543ce", func := "loop.example/g01012/laws.FnExactResultOf", spec := "fnExactResultOf", inPlace := ["internal/bytealg.IndexByteString"], unfollowed := true, recurses := true, apart := false }
def FnExactResultOfSaid : Prop := fnExactResultOfRow.holds Tryz.pinned (OpenSpec.ofChange fnExactResultOfSpec)

/-- ITS FALSE NEIGHBOUR: 'it returns false'. Refute it at one input. -/
def fnExactResultOfWrong : ChangeSpec := { name := "fnExactResultOf", fn := fun _ => fun
  | [d1, d2] => { results := [.lit (.bool false)], args := [d1, d2] }
  | _ => none }
def FnExactResultOfWrongFalsely : Prop := fnExactResultOfRow.holds Tryz.pinned (OpenSpec.ofChange fnExactResultOfWrong)

/-- 'laws.FnExactDoStep': WHATEVER THE INPUT: true; the input reads as it did. -/
def fnExactDoStepSpec : ChangeSpec := { name := "fnExactDoStep", fn := fun _ => fun
  | [d1, d2] => { results := [.lit (.bool true)], args := [d1, d2] }
  | _ => none }
def fnExactDoStepRow : OpenClaim := { program := "ytkgeiaideklmoaagreat", sum := "7bb88055d6e6c3d8ff85cc3c66e6a8924538203240f11f1503dd5a31f5f543ce", func := "loop.example/g01012/laws.FnExactDoStep", spec := "fnExactDoStep", inPlace := ["internal/bytealg.IndexByteString"], unfollowed := true, recurses := true, apart := false }
def FnExactDoStepSaid : Prop := fnExactDoStepRow.holds Tryz.pinned (OpenSpec.ofChange fnExactDoStepSpec)

/-- ITS FALSE NEIGHBOUR: 'it returns false'. Refute it at one input. -/
def fnExactDoStepWrong : ChangeSpec := { name := "fnExactDoStep", fn := fun _ => fun
  | [d1, d2] => { results := [.lit (.bool false)], args := [d1, d2] }
  | _ => none }
def FnExactDoStepWrongFalsely : Prop := fnExactDoStepRow.holds Tryz.pinned (OpenSpec.ofChange fnExactDoStepWrong)

/-- 'laws.FnExactRunFlow': WHATEVER THE INPUT: true; the input reads as it did. -/
def fnExactRunFlowSpec : ChangeSpec := { name := "fnExactRunFlow", fn := fun _ => fun
  | [d1, d2] => { results := [.lit (.bool true)], args := [d1, d2] }
  | _ => none }
def fnExactRunFlowRow : OpenClaim := { program := "ytkgeiaideklmoaagreat", sum := "7bb88055d6e6c3d8ff85cc3c66e6a8924538203240f11f1503dd5a31f5f543ce", func := "loop.example/g01012/laws.FnExactRunFlow", spec := "fnExactRunFlow", inPlace := ["internal/bytealg.IndexByteString"], unfollowed := true, recurses := true, apart := false }
def FnExactRunFlowSaid : Prop := fnExactRunFlowRow.holds Tryz.pinned (OpenSpec.ofChange fnExactRunFlowSpec)

/-- ITS FALSE NEIGHBOUR: 'it returns false'. Refute it at one input. -/
def fnExactRunFlowWrong : ChangeSpec := { name := "fnExactRunFlow", fn := fun _ => fun
  | [d1, d2] => { results := [.lit (.bool false)], args := [d1, d2] }
  | _ => none }
def FnExactRunFlowWrongFalsely : Prop := fnExactRunFlowRow.holds Tryz.pinned (OpenSpec.ofChange fnExactRunFlowWrong)

/- THE SECOND FORM. 'bulk': how many values and letters a reading holds, each counted each time it is reached (what is shared counts as often as it is met; a slice's spare places count too). A statement '..UptoSaid' is the law's where the arguments, and the package variables that the reading takes, are together of bulk at most 1048576: NARROWER than '..Said'. Prove '..Said' where nothing that the law and all that it calls make is longer than what came in: it says more and counts as full. Else prove '..UptoSaid'. A law counts once. -/
mutual
def uptoBulk {H : Type} : DataW H → Nat
  | .lit (.string bytes) => bytes.length + 1
  | .lit _ => 1
  | .nil => 1
  | .ptr d => uptoBulk d + 1
  | .slice elems spare => uptoBulkAll elems + uptoBulkAll spare + 1
  | .agg parts => uptoBulkAll parts + 1
  | .iface _ d => uptoBulk d + 1
  | .map entries => uptoBulkEntries entries + 1
  | .held _ => 1
def uptoBulkAll {H : Type} : List (DataW H) → Nat
  | [] => 0
  | d :: r => uptoBulk d + uptoBulkAll r
def uptoBulkEntries {H : Type} : List (Lit × DataW H) → Nat
  | [] => 0
  | x :: r => uptoBulkEntry x + uptoBulkEntries r
def uptoBulkEntry {H : Type} : Lit × DataW H → Nat
  | (.string bytes, d) => bytes.length + uptoBulk d + 1
  | (_, d) => uptoBulk d + 1
 end
def uptoSmall : (H : Type) → List (DataW H) → Bool := fun _ ds => decide (uptoBulkAll ds ≤ 1048576)
def OpenSpec.upto (s : _root_.Go.ChangeSpec) : _root_.Go.OpenSpec := { _root_.Go.OpenSpec.ofChange s with cond := some uptoSmall }

/-- 'laws.FnExactResultOf', WHERE WHAT IT READS IS OF BULK AT MOST 1048576: true; the input reads as it did. -/
def fnExactResultOfUptoRow : OpenClaim := { program := "ytkgeiaideklmoaagreat", sum := "7bb88055d6e6c3d8ff85cc3c66e6a8924538203240f11f1503dd5a31f5f543ce", func := "loop.example/g01012/laws.FnExactResultOf", spec := "fnExactResultOf", inPlace := ["internal/bytealg.IndexByteString"], unfollowed := true, recurses := true, apart := false, narrowed := true }
def FnExactResultOfUptoSaid : Prop := fnExactResultOfUptoRow.holds Tryz.pinned (OpenSpec.upto fnExactResultOfSpec)

/-- 'laws.FnExactDoStep', WHERE WHAT IT READS IS OF BULK AT MOST 1048576: true; the input reads as it did. -/
def fnExactDoStepUptoRow : OpenClaim := { program := "ytkgeiaideklmoaagreat", sum := "7bb88055d6e6c3d8ff85cc3c66e6a8924538203240f11f1503dd5a31f5f543ce", func := "loop.example/g01012/laws.FnExactDoStep", spec := "fnExactDoStep", inPlace := ["internal/bytealg.IndexByteString"], unfollowed := true, recurses := true, apart := false, narrowed := true }
def FnExactDoStepUptoSaid : Prop := fnExactDoStepUptoRow.holds Tryz.pinned (OpenSpec.upto fnExactDoStepSpec)

/-- 'laws.FnExactRunFlow', WHERE WHAT IT READS IS OF BULK AT MOST 1048576: true; the input reads as it did. -/
def fnExactRunFlowUptoRow : OpenClaim := { program := "ytkgeiaideklmoaagreat", sum := "7bb88055d6e6c3d8ff85cc3c66e6a8924538203240f11f1503dd5a31f5f543ce", func := "loop.example/g01012/laws.FnExactRunFlow", spec := "fnExactRunFlow", inPlace := ["internal/bytealg.IndexByteString"], unfollowed := true, recurses := true, apart := false, narrowed := true }
def FnExactRunFlowUptoSaid : Prop := fnExactRunFlowUptoRow.holds Tryz.pinned (OpenSpec.upto fnExactRunFlowSpec)

end Rows
end Go.Proofs.YtkgeiaideklmoaaGreat
