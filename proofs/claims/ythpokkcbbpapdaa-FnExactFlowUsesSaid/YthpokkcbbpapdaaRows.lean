/-
  No cell of these rows narrows 'for every input' (looked for: loops, veiled, ifaces, maps, wideKeys, modest, calm, conditions, laid).
  DERIVED. THE GIVEN ROWS OF THIS SEAT. 3 by the template 'for every input the law returns true; each argument reads behind the call as it read before'; 0 by the template 'total and deterministic' (their statements: YthpokkcbbpapdaaTotals.lean).
  GIVEN WITH THE SEED: the statements are not yours to turn. If you find one false, say at which input.
  Laid BY PROGRAM, IN A SANDBOX (cutbox-rows.mjs): the forced cells as the released guide's own fill.sh prints them over the translation b8d2d783507badc4… (all of the seat's roots in one cut). By AI agents, Wed Nov 11 2026. No macro, syntax, notation, axiom, sorry.
-/
import Derived.Test.YthpokkcbbpapdaaChecked
import GoSem.Claim
import GoSem.ClaimJoined
import GoSem.ClaimMapViews
import Derived.JoinedTies
import Derived.KernelRfl
namespace Go.Proofs.Ythpokkcbbpapdaa
/- THE CELL 'sum', in the pinned program and in every row, IS THE sha256 OF THE DUMP (.gsa) THAT YthpokkcbbpapdaaProg.lean LOADS. Nothing in Lean hashes anything: it is a label: what it is worth is what the hold of that sum in a sandbox is worth. -/
noncomputable def Try.pinned : Pinned := { name := "ythpokkcbbpapdaa", sum := "b8d2d783507badc41d4df1d07ba714bc7bae6e6c7a8fff9cb12f4a547c90fa05", checked := Try.checked }
namespace Rows
def none {H : Type} : Left H := { results := [], args := [] }

/-- 'laws.FnExactAmountsAfter': WHATEVER THE INPUT: true; the input reads as it did. -/
def fnExactAmountsAfterSpec : ChangeSpec := { name := "fnExactAmountsAfter", fn := fun _ => fun
  | [d1, d2] => { results := [.lit (.bool true)], args := [d1, d2] }
  | _ => none }
def fnExactAmountsAfterRow : OpenClaim := { program := "ythpokkcbbpapdaa", sum := "b8d2d783507badc41d4df1d07ba714bc7bae6e6c7a8fff9cb12f4a547c90fa05", func := "loop.example/g01012/laws.FnExactAmountsAfter", spec := "fnExactAmountsAfter", unfollowed := true, recurses := true, apart := false }
def FnExactAmountsAfterSaid : Prop := fnExactAmountsAfterRow.holds Try.pinned (OpenSpec.ofChange fnExactAmountsAfterSpec)

/-- ITS FALSE NEIGHBOUR: 'it returns false'. Refute it at one input. -/
def fnExactAmountsAfterWrong : ChangeSpec := { name := "fnExactAmountsAfter", fn := fun _ => fun
  | [d1, d2] => { results := [.lit (.bool false)], args := [d1, d2] }
  | _ => none }
def FnExactAmountsAfterWrongFalsely : Prop := fnExactAmountsAfterRow.holds Try.pinned (OpenSpec.ofChange fnExactAmountsAfterWrong)

/-- 'laws.FnExactFlowFor': WHATEVER THE INPUT: true; the input reads as it did. -/
def fnExactFlowForSpec : ChangeSpec := { name := "fnExactFlowFor", fn := fun _ => fun
  | [d] => { results := [.lit (.bool true)], args := [d] }
  | _ => none }
def fnExactFlowForRow : OpenClaim := { program := "ythpokkcbbpapdaa", sum := "b8d2d783507badc41d4df1d07ba714bc7bae6e6c7a8fff9cb12f4a547c90fa05", func := "loop.example/g01012/laws.FnExactFlowFor", spec := "fnExactFlowFor", inPlace := ["internal/bytealg.IndexByteString"], apart := false }
def FnExactFlowForSaid : Prop := fnExactFlowForRow.holds Try.pinned (OpenSpec.ofChange fnExactFlowForSpec)

/-- ITS FALSE NEIGHBOUR: 'it returns false'. Refute it at one input. -/
def fnExactFlowForWrong : ChangeSpec := { name := "fnExactFlowFor", fn := fun _ => fun
  | [d] => { results := [.lit (.bool false)], args := [d] }
  | _ => none }
def FnExactFlowForWrongFalsely : Prop := fnExactFlowForRow.holds Try.pinned (OpenSpec.ofChange fnExactFlowForWrong)

/-- 'laws.FnExactFlowUses': WHATEVER THE INPUT: true; the input reads as it did. -/
def fnExactFlowUsesSpec : ChangeSpec := { name := "fnExactFlowUses", fn := fun _ => fun
  | [d] => { results := [.lit (.bool true)], args := [d] }
  | _ => none }
def fnExactFlowUsesRow : OpenClaim := { program := "ythpokkcbbpapdaa", sum := "b8d2d783507badc41d4df1d07ba714bc7bae6e6c7a8fff9cb12f4a547c90fa05", func := "loop.example/g01012/laws.FnExactFlowUses", spec := "fnExactFlowUses", inPlace := ["internal/bytealg.IndexByteString"], unfollowed := true, recurses := true, apart := false }
def FnExactFlowUsesSaid : Prop := fnExactFlowUsesRow.holds Try.pinned (OpenSpec.ofChange fnExactFlowUsesSpec)

/-- ITS FALSE NEIGHBOUR: 'it returns false'. Refute it at one input. -/
def fnExactFlowUsesWrong : ChangeSpec := { name := "fnExactFlowUses", fn := fun _ => fun
  | [d] => { results := [.lit (.bool false)], args := [d] }
  | _ => none }
def FnExactFlowUsesWrongFalsely : Prop := fnExactFlowUsesRow.holds Try.pinned (OpenSpec.ofChange fnExactFlowUsesWrong)

/- THE SECOND FORM. 'bulk': how many values and letters a reading holds, each counted each time it is reached (what is shared counts as often as it is met; a slice's spare places count too). A statement '..UptoSaid' is the law's where the arguments, and the package variables that the reading takes, are together of bulk at most 1048576: NARROWER than '..Said'. Prove '..Said' where nothing that the law and all that it calls make is longer than what came in: it says more and counts as full. Else prove '..UptoSaid'. A law counts once. -/
mutual
def uptoBulk {H : Type} : DataW H → Nat
  | .lit (.string bytes) => bytes.length + 1
  | .lit _ => 1
  | .nil => 1
  | .ptr d => uptoBulk d + 1
  | .slice elems spare => uptoBulkAll elems + uptoBulkAll spare + 1
  | .agg parts => uptoBulkAll parts + 1
  | .iface _ d => uptoBulk d + 1
  | .map entries => uptoBulkEntries entries + 1
  | .held _ => 1
def uptoBulkAll {H : Type} : List (DataW H) → Nat
  | [] => 0
  | d :: r => uptoBulk d + uptoBulkAll r
def uptoBulkEntries {H : Type} : List (Lit × DataW H) → Nat
  | [] => 0
  | x :: r => uptoBulkEntry x + uptoBulkEntries r
def uptoBulkEntry {H : Type} : Lit × DataW H → Nat
  | (.string bytes, d) => bytes.length + uptoBulk d + 1
  | (_, d) => uptoBulk d + 1
 end
def uptoSmall : (H : Type) → List (DataW H) → Bool := fun _ ds => decide (uptoBulkAll ds ≤ 1048576)
def OpenSpec.upto (s : _root_.Go.ChangeSpec) : _root_.Go.OpenSpec := { _root_.Go.OpenSpec.ofChange s with cond := some uptoSmall }

/-- 'laws.FnExactAmountsAfter', WHERE WHAT IT READS IS OF BULK AT MOST 1048576: true; the input reads as it did. -/
def fnExactAmountsAfterUptoRow : OpenClaim := { program := "ythpokkcbbpapdaa", sum := "b8d2d783507badc41d4df1d07ba714bc7bae6e6c7a8fff9cb12f4a547c90fa05", func := "loop.example/g01012/laws.FnExactAmountsAfter", spec := "fnExactAmountsAfter", unfollowed := true, recurses := true, apart := false, narrowed := true }
def FnExactAmountsAfterUptoSaid : Prop := fnExactAmountsAfterUptoRow.holds Try.pinned (OpenSpec.upto fnExactAmountsAfterSpec)

/-- 'laws.FnExactFlowFor', WHERE WHAT IT READS IS OF BULK AT MOST 1048576: true; the input reads as it did. -/
def fnExactFlowForUptoRow : OpenClaim := { program := "ythpokkcbbpapdaa", sum := "b8d2d783507badc41d4df1d07ba714bc7bae6e6c7a8fff9cb12f4a547c90fa05", func := "loop.example/g01012/laws.FnExactFlowFor", spec := "fnExactFlowFor", inPlace := ["internal/bytealg.IndexByteString"], apart := false, narrowed := true }
def FnExactFlowForUptoSaid : Prop := fnExactFlowForUptoRow.holds Try.pinned (OpenSpec.upto fnExactFlowForSpec)

/-- 'laws.FnExactFlowUses', WHERE WHAT IT READS IS OF BULK AT MOST 1048576: true; the input reads as it did. -/
def fnExactFlowUsesUptoRow : OpenClaim := { program := "ythpokkcbbpapdaa", sum := "b8d2d783507badc41d4df1d07ba714bc7bae6e6c7a8fff9cb12f4a547c90fa05", func := "loop.example/g01012/laws.FnExactFlowUses", spec := "fnExactFlowUses", inPlace := ["internal/bytealg.IndexByteString"], unfollowed := true, recurses := true, apart := false, narrowed := true }
def FnExactFlowUsesUptoSaid : Prop := fnExactFlowUsesUptoRow.holds Try.pinned (OpenSpec.upto fnExactFlowUsesSpec)

end Rows
end Go.Proofs.Ythpokkcbbpapdaa
