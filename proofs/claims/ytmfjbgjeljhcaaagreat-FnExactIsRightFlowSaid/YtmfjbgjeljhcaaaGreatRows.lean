/-
  No cell of these rows narrows 'for every input' (looked for: loops, veiled, ifaces, maps, wideKeys, modest, calm, conditions, laid).
  DERIVED. THE GIVEN ROWS OF THIS SEAT. 8 by the template 'for every input the law returns true; each argument reads behind the call as it read before'; 0 by the template 'total and deterministic' (their statements: YtmfjbgjeljhcaaaGreatTotals.lean).
  GIVEN WITH THE SEED: the statements are not yours to turn. If you find one false, say at which input.
  Laid BY PROGRAM, IN A SANDBOX (cutbox-rows.mjs): the forced cells as the released guide's own fill.sh prints them over the translation fad7d829a5e36e16… (all of the seat's roots in one cut). By AI agents, Wed Nov 11 2026. No macro, syntax, notation, axiom, sorry.
-/
import Derived.Test.YtmfjbgjeljhcaaaGreatChecked
import GoSem.Claim
import GoSem.ClaimJoined
import GoSem.ClaimMapViews
import Derived.JoinedTies
import Derived.KernelRfl
namespace Go.Proofs.YtmfjbgjeljhcaaaGreat
/- THE CELL 'sum', in the pinned program and in every row, IS THE sha256 OF THE DUMP (.gsa) THAT YtmfjbgjeljhcaaaGreatProg.lean LOADS. Nothing in Lean hashes anything: it is a label: what it is worth is what the hold of that sum in a sandbox is worth. -/
noncomputable def Tryz.pinned : Pinned := { name := "ytmfjbgjeljhcaaagreat", sum := "fad7d829a5e36e166cfe470b42b3751b1b4eb6707e9051fb8e93958231ded905", checked := Tryz.checked }
namespace Rows
def none {H : Type} : Left H := { results := [], args := [] }

/-- 'laws.FnExactEvalSpec': WHATEVER THE INPUT: true; the input reads as it did. -/
def fnExactEvalSpecSpec : ChangeSpec := { name := "fnExactEvalSpec", fn := fun _ => fun
  | [d1, d2] => { results := [.lit (.bool true)], args := [d1, d2] }
  | _ => none }
def fnExactEvalSpecRow : OpenClaim := { program := "ytmfjbgjeljhcaaagreat", sum := "fad7d829a5e36e166cfe470b42b3751b1b4eb6707e9051fb8e93958231ded905", func := "loop.example/g01012/laws.FnExactEvalSpec", spec := "fnExactEvalSpec", inPlace := ["internal/bytealg.IndexByteString"], unfollowed := true, recurses := true, apart := false }
def FnExactEvalSpecSaid : Prop := fnExactEvalSpecRow.holds Tryz.pinned (OpenSpec.ofChange fnExactEvalSpecSpec)

/-- ITS FALSE NEIGHBOUR: 'it returns false'. Refute it at one input. -/
def fnExactEvalSpecWrong : ChangeSpec := { name := "fnExactEvalSpec", fn := fun _ => fun
  | [d1, d2] => { results := [.lit (.bool false)], args := [d1, d2] }
  | _ => none }
def FnExactEvalSpecWrongFalsely : Prop := fnExactEvalSpecRow.holds Tryz.pinned (OpenSpec.ofChange fnExactEvalSpecWrong)

/-- 'laws.FnExactResultOf': WHATEVER THE INPUT: true; the input reads as it did. -/
def fnExactResultOfSpec : ChangeSpec := { name := "fnExactResultOf", fn := fun _ => fun
  | [d1, d2] => { results := [.lit (.bool true)], args := [d1, d2] }
  | _ => none }
def fnExactResultOfRow : OpenClaim := { program := "ytmfjbgjeljhcaaagreat", sum := "fad7d829a5e36e166cfe470b42b3751b1b4eb6707e9051fb8e93958231ded905", func := "loop.example/g01012/laws.FnExactResultOf", spec := "fnExactResultOf", inPlace := ["internal/bytealg.IndexByteString"], unfollowed := true, recurses := true, apart := false }
def FnExactResultOfSaid : Prop := fnExactResultOfRow.holds Tryz.pinned (OpenSpec.ofChange fnExactResultOfSpec)

/-- ITS FALSE NEIGHBOUR: 'it returns false'. Refute it at one input. -/
def fnExactResultOfWrong : ChangeSpec := { name := "fnExactResultOf", fn := fun _ => fun
  | [d1, d2] => { results := [.lit (.bool false)], args := [d1, d2] }
  | _ => none }
def FnExactResultOfWrongFalsely : Prop := fnExactResultOfRow.holds Tryz.pinned (OpenSpec.ofChange fnExactResultOfWrong)

/-- 'laws.FnExactAgreesOn': WHATEVER THE INPUT: true; the input reads as it did. -/
def fnExactAgreesOnSpec : ChangeSpec := { name := "fnExactAgreesOn", fn := fun _ => fun
  | [d1, d2, d3] => { results := [.lit (.bool true)], args := [d1, d2, d3] }
  | _ => none }
def fnExactAgreesOnRow : OpenClaim := { program := "ytmfjbgjeljhcaaagreat", sum := "fad7d829a5e36e166cfe470b42b3751b1b4eb6707e9051fb8e93958231ded905", func := "loop.example/g01012/laws.FnExactAgreesOn", spec := "fnExactAgreesOn", inPlace := ["internal/bytealg.IndexByteString"], unfollowed := true, recurses := true, apart := false }
def FnExactAgreesOnSaid : Prop := fnExactAgreesOnRow.holds Tryz.pinned (OpenSpec.ofChange fnExactAgreesOnSpec)

/-- ITS FALSE NEIGHBOUR: 'it returns false'. Refute it at one input. -/
def fnExactAgreesOnWrong : ChangeSpec := { name := "fnExactAgreesOn", fn := fun _ => fun
  | [d1, d2, d3] => { results := [.lit (.bool false)], args := [d1, d2, d3] }
  | _ => none }
def FnExactAgreesOnWrongFalsely : Prop := fnExactAgreesOnRow.holds Tryz.pinned (OpenSpec.ofChange fnExactAgreesOnWrong)

/-- 'laws.FnExactDoStep': WHATEVER THE INPUT: true; the input reads as it did. -/
def fnExactDoStepSpec : ChangeSpec := { name := "fnExactDoStep", fn := fun _ => fun
  | [d1, d2] => { results := [.lit (.bool true)], args := [d1, d2] }
  | _ => none }
def fnExactDoStepRow : OpenClaim := { program := "ytmfjbgjeljhcaaagreat", sum := "fad7d829a5e36e166cfe470b42b3751b1b4eb6707e9051fb8e93958231ded905", func := "loop.example/g01012/laws.FnExactDoStep", spec := "fnExactDoStep", inPlace := ["internal/bytealg.IndexByteString"], unfollowed := true, recurses := true, apart := false }
def FnExactDoStepSaid : Prop := fnExactDoStepRow.holds Tryz.pinned (OpenSpec.ofChange fnExactDoStepSpec)

/-- ITS FALSE NEIGHBOUR: 'it returns false'. Refute it at one input. -/
def fnExactDoStepWrong : ChangeSpec := { name := "fnExactDoStep", fn := fun _ => fun
  | [d1, d2] => { results := [.lit (.bool false)], args := [d1, d2] }
  | _ => none }
def FnExactDoStepWrongFalsely : Prop := fnExactDoStepRow.holds Tryz.pinned (OpenSpec.ofChange fnExactDoStepWrong)

/-- 'laws.FnExactCountDifferences': WHATEVER THE INPUT: true; the input reads as it did. -/
def fnExactCountDifferencesSpec : ChangeSpec := { name := "fnExactCountDifferences", fn := fun _ => fun
  | [d1, d2, d3, d4] => { results := [.lit (.bool true)], args := [d1, d2, d3, d4] }
  | _ => none }
def fnExactCountDifferencesRow : OpenClaim := { program := "ytmfjbgjeljhcaaagreat", sum := "fad7d829a5e36e166cfe470b42b3751b1b4eb6707e9051fb8e93958231ded905", func := "loop.example/g01012/laws.FnExactCountDifferences", spec := "fnExactCountDifferences", inPlace := ["internal/bytealg.IndexByteString"], unfollowed := true, recurses := true, apart := false }
def FnExactCountDifferencesSaid : Prop := fnExactCountDifferencesRow.holds Tryz.pinned (OpenSpec.ofChange fnExactCountDifferencesSpec)

/-- ITS FALSE NEIGHBOUR: 'it returns false'. Refute it at one input. -/
def fnExactCountDifferencesWrong : ChangeSpec := { name := "fnExactCountDifferences", fn := fun _ => fun
  | [d1, d2, d3, d4] => { results := [.lit (.bool false)], args := [d1, d2, d3, d4] }
  | _ => none }
def FnExactCountDifferencesWrongFalsely : Prop := fnExactCountDifferencesRow.holds Tryz.pinned (OpenSpec.ofChange fnExactCountDifferencesWrong)

/-- 'laws.FnExactIsRightFlow': WHATEVER THE INPUT: true; the input reads as it did. -/
def fnExactIsRightFlowSpec : ChangeSpec := { name := "fnExactIsRightFlow", fn := fun _ => fun
  | [d1, d2, d3, d4] => { results := [.lit (.bool true)], args := [d1, d2, d3, d4] }
  | _ => none }
def fnExactIsRightFlowRow : OpenClaim := { program := "ytmfjbgjeljhcaaagreat", sum := "fad7d829a5e36e166cfe470b42b3751b1b4eb6707e9051fb8e93958231ded905", func := "loop.example/g01012/laws.FnExactIsRightFlow", spec := "fnExactIsRightFlow", inPlace := ["internal/bytealg.IndexByteString"], unfollowed := true, recurses := true, apart := false }
def FnExactIsRightFlowSaid : Prop := fnExactIsRightFlowRow.holds Tryz.pinned (OpenSpec.ofChange fnExactIsRightFlowSpec)

/-- ITS FALSE NEIGHBOUR: 'it returns false'. Refute it at one input. -/
def fnExactIsRightFlowWrong : ChangeSpec := { name := "fnExactIsRightFlow", fn := fun _ => fun
  | [d1, d2, d3, d4] => { results := [.lit (.bool false)], args := [d1, d2, d3, d4] }
  | _ => none }
def FnExactIsRightFlowWrongFalsely : Prop := fnExactIsRightFlowRow.holds Tryz.pinned (OpenSpec.ofChange fnExactIsRightFlowWrong)

/-- 'laws.FnExactFirstDifference': WHATEVER THE INPUT: true; the input reads as it did. -/
def fnExactFirstDifferenceSpec : ChangeSpec := { name := "fnExactFirstDifference", fn := fun _ => fun
  | [d1, d2, d3, d4] => { results := [.lit (.bool true)], args := [d1, d2, d3, d4] }
  | _ => none }
def fnExactFirstDifferenceRow : OpenClaim := { program := "ytmfjbgjeljhcaaagreat", sum := "fad7d829a5e36e166cfe470b42b3751b1b4eb6707e9051fb8e93958231ded905", func := "loop.example/g01012/laws.FnExactFirstDifference", spec := "fnExactFirstDifference", inPlace := ["internal/bytealg.IndexByteString"], unfollowed := true, recurses := true, apart := false }
def FnExactFirstDifferenceSaid : Prop := fnExactFirstDifferenceRow.holds Tryz.pinned (OpenSpec.ofChange fnExactFirstDifferenceSpec)

/-- ITS FALSE NEIGHBOUR: 'it returns false'. Refute it at one input. -/
def fnExactFirstDifferenceWrong : ChangeSpec := { name := "fnExactFirstDifference", fn := fun _ => fun
  | [d1, d2, d3, d4] => { results := [.lit (.bool false)], args := [d1, d2, d3, d4] }
  | _ => none }
def FnExactFirstDifferenceWrongFalsely : Prop := fnExactFirstDifferenceRow.holds Tryz.pinned (OpenSpec.ofChange fnExactFirstDifferenceWrong)

/-- 'laws.FnExactRunFlow': WHATEVER THE INPUT: true; the input reads as it did. -/
def fnExactRunFlowSpec : ChangeSpec := { name := "fnExactRunFlow", fn := fun _ => fun
  | [d1, d2] => { results := [.lit (.bool true)], args := [d1, d2] }
  | _ => none }
def fnExactRunFlowRow : OpenClaim := { program := "ytmfjbgjeljhcaaagreat", sum := "fad7d829a5e36e166cfe470b42b3751b1b4eb6707e9051fb8e93958231ded905", func := "loop.example/g01012/laws.FnExactRunFlow", spec := "fnExactRunFlow", inPlace := ["internal/bytealg.IndexByteString"], unfollowed := true, recurses := true, apart := false }
def FnExactRunFlowSaid : Prop := fnExactRunFlowRow.holds Tryz.pinned (OpenSpec.ofChange fnExactRunFlowSpec)

/-- ITS FALSE NEIGHBOUR: 'it returns false'. Refute it at one input. -/
def fnExactRunFlowWrong : ChangeSpec := { name := "fnExactRunFlow", fn := fun _ => fun
  | [d1, d2] => { results := [.lit (.bool false)], args := [d1, d2] }
  | _ => none }
def FnExactRunFlowWrongFalsely : Prop := fnExactRunFlowRow.holds Tryz.pinned (OpenSpec.ofChange fnExactRunFlowWrong)

/- THE SECOND FORM. 'bulk': how many values and letters a reading holds, each counted each time it is reached (what is shared counts as often as it is met; a slice's spare places count too). A statement '..UptoSaid' is the law's where the arguments, and the package variables that the reading takes, are together of bulk at most 1048576: NARROWER than '..Said'. Prove '..Said' where nothing that the law and all that it calls make is longer than what came in: it says more and counts as full. Else prove '..UptoSaid'. A law counts once. -/
mutual
def uptoBulk {H : Type} : DataW H → Nat
  | .lit (.string bytes) => bytes.length + 1
  | .lit _ => 1
  | .nil => 1
  | .ptr d => uptoBulk d + 1
  | .slice elems spare => uptoBulkAll elems + uptoBulkAll spare + 1
  | .agg parts => uptoBulkAll parts + 1
  | .iface _ d => uptoBulk d + 1
  | .map entries => uptoBulkEntries entries + 1
  | .held _ => 1
def uptoBulkAll {H : Type} : List (DataW H) → Nat
  | [] => 0
  | d :: r => uptoBulk d + uptoBulkAll r
def uptoBulkEntries {H : Type} : List (Lit × DataW H) → Nat
  | [] => 0
  | x :: r => uptoBulkEntry x + uptoBulkEntries r
def uptoBulkEntry {H : Type} : Lit × DataW H → Nat
  | (.string bytes, d) => bytes.length + uptoBulk d + 1
  | (_, d) => uptoBulk d + 1
 end
def uptoSmall : (H : Type) → List (DataW H) → Bool := fun _ ds => decide (uptoBulkAll ds ≤ 1048576)
def OpenSpec.upto (s : _root_.Go.ChangeSpec) : _root_.Go.OpenSpec := { _root_.Go.OpenSpec.ofChange s with cond := some uptoSmall }

/-- 'laws.FnExactEvalSpec', WHERE WHAT IT READS IS OF BULK AT MOST 1048576: true; the input reads as it did. -/
def fnExactEvalSpecUptoRow : OpenClaim := { program := "ytmfjbgjeljhcaaagreat", sum := "fad7d829a5e36e166cfe470b42b3751b1b4eb6707e9051fb8e93958231ded905", func := "loop.example/g01012/laws.FnExactEvalSpec", spec := "fnExactEvalSpec", inPlace := ["internal/bytealg.IndexByteString"], unfollowed := true, recurses := true, apart := false, narrowed := true }
def FnExactEvalSpecUptoSaid : Prop := fnExactEvalSpecUptoRow.holds Tryz.pinned (OpenSpec.upto fnExactEvalSpecSpec)

/-- 'laws.FnExactResultOf', WHERE WHAT IT READS IS OF BULK AT MOST 1048576: true; the input reads as it did. -/
def fnExactResultOfUptoRow : OpenClaim := { program := "ytmfjbgjeljhcaaagreat", sum := "fad7d829a5e36e166cfe470b42b3751b1b4eb6707e9051fb8e93958231ded905", func := "loop.example/g01012/laws.FnExactResultOf", spec := "fnExactResultOf", inPlace := ["internal/bytealg.IndexByteString"], unfollowed := true, recurses := true, apart := false, narrowed := true }
def FnExactResultOfUptoSaid : Prop := fnExactResultOfUptoRow.holds Tryz.pinned (OpenSpec.upto fnExactResultOfSpec)

/-- 'laws.FnExactAgreesOn', WHERE WHAT IT READS IS OF BULK AT MOST 1048576: true; the input reads as it did. -/
def fnExactAgreesOnUptoRow : OpenClaim := { program := "ytmfjbgjeljhcaaagreat", sum := "fad7d829a5e36e166cfe470b42b3751b1b4eb6707e9051fb8e93958231ded905", func := "loop.example/g01012/laws.FnExactAgreesOn", spec := "fnExactAgreesOn", inPlace := ["internal/bytealg.IndexByteString"], unfollowed := true, recurses := true, apart := false, narrowed := true }
def FnExactAgreesOnUptoSaid : Prop := fnExactAgreesOnUptoRow.holds Tryz.pinned (OpenSpec.upto fnExactAgreesOnSpec)

/-- 'laws.FnExactDoStep', WHERE WHAT IT READS IS OF BULK AT MOST 1048576: true; the input reads as it did. -/
def fnExactDoStepUptoRow : OpenClaim := { program := "ytmfjbgjeljhcaaagreat", sum := "fad7d829a5e36e166cfe470b42b3751b1b4eb6707e9051fb8e93958231ded905", func := "loop.example/g01012/laws.FnExactDoStep", spec := "fnExactDoStep", inPlace := ["internal/bytealg.IndexByteString"], unfollowed := true, recurses := true, apart := false, narrowed := true }
def FnExactDoStepUptoSaid : Prop := fnExactDoStepUptoRow.holds Tryz.pinned (OpenSpec.upto fnExactDoStepSpec)

/-- 'laws.FnExactCountDifferences', WHERE WHAT IT READS IS OF BULK AT MOST 1048576: true; the input reads as it did. -/
def fnExactCountDifferencesUptoRow : OpenClaim := { program := "ytmfjbgjeljhcaaagreat", sum := "fad7d829a5e36e166cfe470b42b3751b1b4eb6707e9051fb8e93958231ded905", func := "loop.example/g01012/laws.FnExactCountDifferences", spec := "fnExactCountDifferences", inPlace := ["internal/bytealg.IndexByteString"], unfollowed := true, recurses := true, apart := false, narrowed := true }
def FnExactCountDifferencesUptoSaid : Prop := fnExactCountDifferencesUptoRow.holds Tryz.pinned (OpenSpec.upto fnExactCountDifferencesSpec)

/-- 'laws.FnExactIsRightFlow', WHERE WHAT IT READS IS OF BULK AT MOST 1048576: true; the input reads as it did. -/
def fnExactIsRightFlowUptoRow : OpenClaim := { program := "ytmfjbgjeljhcaaagreat", sum := "fad7d829a5e36e166cfe470b42b3751b1b4eb6707e9051fb8e93958231ded905", func := "loop.example/g01012/laws.FnExactIsRightFlow", spec := "fnExactIsRightFlow", inPlace := ["internal/bytealg.IndexByteString"], unfollowed := true, recurses := true, apart := false, narrowed := true }
def FnExactIsRightFlowUptoSaid : Prop := fnExactIsRightFlowUptoRow.holds Tryz.pinned (OpenSpec.upto fnExactIsRightFlowSpec)

/-- 'laws.FnExactFirstDifference', WHERE WHAT IT READS IS OF BULK AT MOST 1048576: true; the input reads as it did. -/
def fnExactFirstDifferenceUptoRow : OpenClaim := { program := "ytmfjbgjeljhcaaagreat", sum := "fad7d829a5e36e166cfe470b42b3751b1b4eb6707e9051fb8e93958231ded905", func := "loop.example/g01012/laws.FnExactFirstDifference", spec := "fnExactFirstDifference", inPlace := ["internal/bytealg.IndexByteString"], unfollowed := true, recurses := true, apart := false, narrowed := true }
def FnExactFirstDifferenceUptoSaid : Prop := fnExactFirstDifferenceUptoRow.holds Tryz.pinned (OpenSpec.upto fnExactFirstDifferenceSpec)

/-- 'laws.FnExactRunFlow', WHERE WHAT IT READS IS OF BULK AT MOST 1048576: true; the input reads as it did. -/
def fnExactRunFlowUptoRow : OpenClaim := { program := "ytmfjbgjeljhcaaagreat", sum := "fad7d829a5e36e166cfe470b42b3751b1b4eb6707e9051fb8e93958231ded905", func := "loop.example/g01012/laws.FnExactRunFlow", spec := "fnExactRunFlow", inPlace := ["internal/bytealg.IndexByteString"], unfollowed := true, recurses := true, apart := false, narrowed := true }
def FnExactRunFlowUptoSaid : Prop := fnExactRunFlowUptoRow.holds Tryz.pinned (OpenSpec.upto fnExactRunFlowSpec)

end Rows
end Go.Proofs.YtmfjbgjeljhcaaaGreat
