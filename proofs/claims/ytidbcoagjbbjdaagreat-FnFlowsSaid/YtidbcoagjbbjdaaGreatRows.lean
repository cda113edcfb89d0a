/-
  No cell of these rows narrows 'for every input' (looked for: loops, veiled, ifaces, maps, wideKeys, modest, calm, conditions, laid).
  DERIVED. THE GIVEN ROWS OF THIS SEAT. 3 by the template 'for every input the law returns true; each argument reads behind the call as it read before'; 0 by the template 'total and deterministic' (their statements: YtidbcoagjbbjdaaGreatTotals.lean).
  GIVEN WITH THE SEED: the statements are not yours to turn. If you find one false, say at which input.
  Laid BY PROGRAM, IN A SANDBOX (cutbox-rows.mjs): the forced cells as the released guide's own fill.sh prints them over the translation 43309e2810a74279… (all of the seat's roots in one cut). By AI agents, Wed Nov 11 2026. No macro, syntax, notation, axiom, sorry.
-/
import Derived.Test.YtidbcoagjbbjdaaGreatChecked
import GoSem.Claim
import GoSem.ClaimJoined
import GoSem.ClaimMapViews
import Derived.JoinedTies
import Derived.KernelRfl
namespace Go.Proofs.YtidbcoagjbbjdaaGreat
/- THE CELL 'sum', in the pinned program and in every row, IS THE sha256 OF THE DUMP (.gsa) THAT YtidbcoagjbbjdaaGreatProg.lean LOADS. Nothing in Lean hashes anything: it is a label: what it is worth is what the hold of that sum in a sandbox is worth. -/
noncomputable def Tryz.pinned : Pinned := { name := "ytidbcoagjbbjdaagreat", sum := "43309e2810a74279ed158a2813346f871fd1b198ec4f3fa82f2624c37bbefd48", checked := Tryz.checked }
namespace Rows
def none {H : Type} : Left H := { results := [], args := [] }

/-- 'laws.FnUses': WHATEVER THE INPUT: true; the input reads as it did. -/
def fnUsesSpec : ChangeSpec := { name := "fnUses", fn := fun _ => fun
  | [d1, d2] => { results := [.lit (.bool true)], args := [d1, d2] }
  | _ => none }
def fnUsesRow : OpenClaim := { program := "ytidbcoagjbbjdaagreat", sum := "43309e2810a74279ed158a2813346f871fd1b198ec4f3fa82f2624c37bbefd48", func := "loop.example/g01012/laws.FnUses", spec := "fnUses", inPlace := ["internal/bytealg.IndexByteString"], unfollowed := true, recurses := true, apart := false }
def FnUsesSaid : Prop := fnUsesRow.holds Tryz.pinned (OpenSpec.ofChange fnUsesSpec)

/-- ITS FALSE NEIGHBOUR: 'it returns false'. Refute it at one input. -/
def fnUsesWrong : ChangeSpec := { name := "fnUses", fn := fun _ => fun
  | [d1, d2] => { results := [.lit (.bool false)], args := [d1, d2] }
  | _ => none }
def FnUsesWrongFalsely : Prop := fnUsesRow.holds Tryz.pinned (OpenSpec.ofChange fnUsesWrong)

/-- 'laws.FnFlows': WHATEVER THE INPUT: true; the input reads as it did. -/
def fnFlowsSpec : ChangeSpec := { name := "fnFlows", fn := fun _ => fun
  | [d1, d2] => { results := [.lit (.bool true)], args := [d1, d2] }
  | _ => none }
def fnFlowsRow : OpenClaim := { program := "ytidbcoagjbbjdaagreat", sum := "43309e2810a74279ed158a2813346f871fd1b198ec4f3fa82f2624c37bbefd48", func := "loop.example/g01012/laws.FnFlows", spec := "fnFlows", inPlace := ["internal/bytealg.IndexByteString"], unfollowed := true, recurses := true, apart := false }
def FnFlowsSaid : Prop := fnFlowsRow.holds Tryz.pinned (OpenSpec.ofChange fnFlowsSpec)

/-- ITS FALSE NEIGHBOUR: 'it returns false'. Refute it at one input. -/
def fnFlowsWrong : ChangeSpec := { name := "fnFlows", fn := fun _ => fun
  | [d1, d2] => { results := [.lit (.bool false)], args := [d1, d2] }
  | _ => none }
def FnFlowsWrongFalsely : Prop := fnFlowsRow.holds Tryz.pinned (OpenSpec.ofChange fnFlowsWrong)

/-- 'laws.FnFlowChecks': WHATEVER THE INPUT: true; the input reads as it did. -/
def fnFlowChecksSpec : ChangeSpec := { name := "fnFlowChecks", fn := fun _ => fun
  | [d] => { results := [.lit (.bool true)], args := [d] }
  | _ => none }
def fnFlowChecksRow : OpenClaim := { program := "ytidbcoagjbbjdaagreat", sum := "43309e2810a74279ed158a2813346f871fd1b198ec4f3fa82f2624c37bbefd48", func := "loop.example/g01012/laws.FnFlowChecks", spec := "fnFlowChecks", inPlace := ["internal/bytealg.IndexByteString"], unfollowed := true, recurses := true, apart := false }
def FnFlowChecksSaid : Prop := fnFlowChecksRow.holds Tryz.pinned (OpenSpec.ofChange fnFlowChecksSpec)

/-- ITS FALSE NEIGHBOUR: 'it returns false'. Refute it at one input. -/
def fnFlowChecksWrong : ChangeSpec := { name := "fnFlowChecks", fn := fun _ => fun
  | [d] => { results := [.lit (.bool false)], args := [d] }
  | _ => none }
def FnFlowChecksWrongFalsely : Prop := fnFlowChecksRow.holds Tryz.pinned (OpenSpec.ofChange fnFlowChecksWrong)

/- THE SECOND FORM. 'bulk': how many values and letters a reading holds, each counted each time it is reached (what is shared counts as often as it is met; a slice's spare places count too). A statement '..UptoSaid' is the law's where the arguments, and the package variables that the reading takes, are together of bulk at most 1048576: NARROWER than '..Said'. Prove '..Said' where nothing that the law and all that it calls make is longer than what came in: it says more and counts as full. Else prove '..UptoSaid'. A law counts once. -/
mutual
def uptoBulk {H : Type} : DataW H → Nat
  | .lit (.string bytes) => bytes.length + 1
  | .lit _ => 1
  | .nil => 1
  | .ptr d => uptoBulk d + 1
  | .slice elems spare => uptoBulkAll elems + uptoBulkAll spare + 1
  | .agg parts => uptoBulkAll parts + 1
  | .iface _ d => uptoBulk d + 1
  | .map entries => uptoBulkEntries entries + 1
  | .held _ => 1
def uptoBulkAll {H : Type} : List (DataW H) → Nat
  | [] => 0
  | d :: r => uptoBulk d + uptoBulkAll r
def uptoBulkEntries {H : Type} : List (Lit × DataW H) → Nat
  | [] => 0
  | x :: r => uptoBulkEntry x + uptoBulkEntries r
def uptoBulkEntry {H : Type} : Lit × DataW H → Nat
  | (.string bytes, d) => bytes.length + uptoBulk d + 1
  | (_, d) => uptoBulk d + 1
 end
def uptoSmall : (H : Type) → List (DataW H) → Bool := fun _ ds => decide (uptoBulkAll ds ≤ 1048576)
def OpenSpec.upto (s : _root_.Go.ChangeSpec) : _root_.Go.OpenSpec := { _root_.Go.OpenSpec.ofChange s with cond := some uptoSmall }

/-- 'laws.FnUses', WHERE WHAT IT READS IS OF BULK AT MOST 1048576: true; the input reads as it did. -/
def fnUsesUptoRow : OpenClaim := { program := "ytidbcoagjbbjdaagreat", sum := "43309e2810a74279ed158a2813346f871fd1b198ec4f3fa82f2624c37bbefd48", func := "loop.example/g01012/laws.FnUses", spec := "fnUses", inPlace := ["internal/bytealg.IndexByteString"], unfollowed := true, recurses := true, apart := false, narrowed := true }
def FnUsesUptoSaid : Prop := fnUsesUptoRow.holds Tryz.pinned (OpenSpec.upto fnUsesSpec)

/-- 'laws.FnFlows', WHERE WHAT IT READS IS OF BULK AT MOST 1048576: true; the input reads as it did. -/
def fnFlowsUptoRow : OpenClaim := { program := "ytidbcoagjbbjdaagreat", sum := "43309e2810a74279ed158a2813346f871fd1b198ec4f3fa82f2624c37bbefd48", func := "loop.example/g01012/laws.FnFlows", spec := "fnFlows", inPlace := ["internal/bytealg.IndexByteString"], unfollowed := true, recurses := true, apart := false, narrowed := true }
def FnFlowsUptoSaid : Prop := fnFlowsUptoRow.holds Tryz.pinned (OpenSpec.upto fnFlowsSpec)

/-- 'laws.FnFlowChecks', WHERE WHAT IT READS IS OF BULK AT MOST 1048576: true; the input reads as it did. -/
def fnFlowChecksUptoRow : OpenClaim := { program := "ytidbcoagjbbjdaagreat", sum := "43309e2810a74279ed158a2813346f871fd1b198ec4f3fa82f2624c37bbefd48", func := "loop.example/g01012/laws.FnFlowChecks", spec := "fnFlowChecks", inPlace := ["internal/bytealg.IndexByteString"], unfollowed := true, recurses := true, apart := false, narrowed := true }
def FnFlowChecksUptoSaid : Prop := fnFlowChecksUptoRow.holds Tryz.pinned (OpenSpec.upto fnFlowChecksSpec)

end Rows
end Go.Proofs.YtidbcoagjbbjdaaGreat
