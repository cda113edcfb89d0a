/-
  No cell of these rows narrows 'for every input' (looked for: loops, veiled, ifaces, maps, wideKeys, modest, calm, conditions, laid).
  DERIVED. THE GIVEN ROWS OF THIS SEAT. 6 by the template 'for every input the law returns true; each argument reads behind the call as it read before'; 0 by the template 'total and deterministic' (their statements: YtknoeihaonblbaaTotals.lean).
  GIVEN WITH THE SEED: the statements are not yours to turn. If you find one false, say at which input.
  Laid BY PROGRAM, IN A SANDBOX (cutbox-rows.mjs): the forced cells as the released guide's own fill.sh prints them over the translation faaed7f31f8d4260… (all of the seat's roots in one cut). By AI agents, Wed Nov 11 2026. No macro, syntax, notation, axiom, sorry.
-/
import Derived.Test.YtknoeihaonblbaaChecked
import GoSem.Claim
import GoSem.ClaimJoined
import GoSem.ClaimMapViews
import Derived.JoinedTies
import Derived.KernelRfl
namespace Go.Proofs.Ytknoeihaonblbaa
/- THE CELL 'sum', in the pinned program and in every row, IS THE sha256 OF THE DUMP (.gsa) THAT YtknoeihaonblbaaProg.lean LOADS. Nothing in Lean hashes anything: it is a label: what it is worth is what the hold of that sum in a sandbox is worth. -/
noncomputable def Try.pinned : Pinned := { name := "ytknoeihaonblbaa", sum := "faaed7f31f8d426023f648923e68867fb987f71ce9826fa1d40ebb8a3e89c3fd", checked := Try.checked }
namespace Rows
def none {H : Type} : Left H := { results := [], args := [] }

/-- 'laws.FnExactKeepsControl': WHATEVER THE INPUT: true; the input reads as it did. -/
def fnExactKeepsControlSpec : ChangeSpec := { name := "fnExactKeepsControl", fn := fun _ => fun
  | [d] => { results := [.lit (.bool true)], args := [d] }
  | _ => none }
def fnExactKeepsControlRow : OpenClaim := { program := "ytknoeihaonblbaa", sum := "faaed7f31f8d426023f648923e68867fb987f71ce9826fa1d40ebb8a3e89c3fd", func := "loop.example/g01012/laws.FnExactKeepsControl", spec := "fnExactKeepsControl", apart := false }
def FnExactKeepsControlSaid : Prop := fnExactKeepsControlRow.holds Try.pinned (OpenSpec.ofChange fnExactKeepsControlSpec)

/-- ITS FALSE NEIGHBOUR: 'it returns false'. Refute it at one input. -/
def fnExactKeepsControlWrong : ChangeSpec := { name := "fnExactKeepsControl", fn := fun _ => fun
  | [d] => { results := [.lit (.bool false)], args := [d] }
  | _ => none }
def FnExactKeepsControlWrongFalsely : Prop := fnExactKeepsControlRow.holds Try.pinned (OpenSpec.ofChange fnExactKeepsControlWrong)

/-- 'laws.FnExactValidAmounts': WHATEVER THE INPUT: true; the input reads as it did. -/
def fnExactValidAmountsSpec : ChangeSpec := { name := "fnExactValidAmounts", fn := fun _ => fun
  | [d] => { results := [.lit (.bool true)], args := [d] }
  | _ => none }
def fnExactValidAmountsRow : OpenClaim := { program := "ytknoeihaonblbaa", sum := "faaed7f31f8d426023f648923e68867fb987f71ce9826fa1d40ebb8a3e89c3fd", func := "loop.example/g01012/laws.FnExactValidAmounts", spec := "fnExactValidAmounts", unfollowed := true, recurses := true, apart := false }
def FnExactValidAmountsSaid : Prop := fnExactValidAmountsRow.holds Try.pinned (OpenSpec.ofChange fnExactValidAmountsSpec)

/-- ITS FALSE NEIGHBOUR: 'it returns false'. Refute it at one input. -/
def fnExactValidAmountsWrong : ChangeSpec := { name := "fnExactValidAmounts", fn := fun _ => fun
  | [d] => { results := [.lit (.bool false)], args := [d] }
  | _ => none }
def FnExactValidAmountsWrongFalsely : Prop := fnExactValidAmountsRow.holds Try.pinned (OpenSpec.ofChange fnExactValidAmountsWrong)

/-- 'laws.FnExactAddControls': WHATEVER THE INPUT: true; the input reads as it did. -/
def fnExactAddControlsSpec : ChangeSpec := { name := "fnExactAddControls", fn := fun _ => fun
  | [d1, d2] => { results := [.lit (.bool true)], args := [d1, d2] }
  | _ => none }
def fnExactAddControlsRow : OpenClaim := { program := "ytknoeihaonblbaa", sum := "faaed7f31f8d426023f648923e68867fb987f71ce9826fa1d40ebb8a3e89c3fd", func := "loop.example/g01012/laws.FnExactAddControls", spec := "fnExactAddControls", apart := false }
def FnExactAddControlsSaid : Prop := fnExactAddControlsRow.holds Try.pinned (OpenSpec.ofChange fnExactAddControlsSpec)

/-- ITS FALSE NEIGHBOUR: 'it returns false'. Refute it at one input. -/
def fnExactAddControlsWrong : ChangeSpec := { name := "fnExactAddControls", fn := fun _ => fun
  | [d1, d2] => { results := [.lit (.bool false)], args := [d1, d2] }
  | _ => none }
def FnExactAddControlsWrongFalsely : Prop := fnExactAddControlsRow.holds Try.pinned (OpenSpec.ofChange fnExactAddControlsWrong)

/-- 'laws.FnExactTakeControls': WHATEVER THE INPUT: true; the input reads as it did. -/
def fnExactTakeControlsSpec : ChangeSpec := { name := "fnExactTakeControls", fn := fun _ => fun
  | [d1, d2] => { results := [.lit (.bool true)], args := [d1, d2] }
  | _ => none }
def fnExactTakeControlsRow : OpenClaim := { program := "ytknoeihaonblbaa", sum := "faaed7f31f8d426023f648923e68867fb987f71ce9826fa1d40ebb8a3e89c3fd", func := "loop.example/g01012/laws.FnExactTakeControls", spec := "fnExactTakeControls", apart := false }
def FnExactTakeControlsSaid : Prop := fnExactTakeControlsRow.holds Try.pinned (OpenSpec.ofChange fnExactTakeControlsSpec)

/-- ITS FALSE NEIGHBOUR: 'it returns false'. Refute it at one input. -/
def fnExactTakeControlsWrong : ChangeSpec := { name := "fnExactTakeControls", fn := fun _ => fun
  | [d1, d2] => { results := [.lit (.bool false)], args := [d1, d2] }
  | _ => none }
def FnExactTakeControlsWrongFalsely : Prop := fnExactTakeControlsRow.holds Try.pinned (OpenSpec.ofChange fnExactTakeControlsWrong)

/-- 'laws.FnExactSumOfTotals': WHATEVER THE INPUT: true; the input reads as it did. -/
def fnExactSumOfTotalsSpec : ChangeSpec := { name := "fnExactSumOfTotals", fn := fun _ => fun
  | [d] => { results := [.lit (.bool true)], args := [d] }
  | _ => none }
def fnExactSumOfTotalsRow : OpenClaim := { program := "ytknoeihaonblbaa", sum := "faaed7f31f8d426023f648923e68867fb987f71ce9826fa1d40ebb8a3e89c3fd", func := "loop.example/g01012/laws.FnExactSumOfTotals", spec := "fnExactSumOfTotals", apart := false }
def FnExactSumOfTotalsSaid : Prop := fnExactSumOfTotalsRow.holds Try.pinned (OpenSpec.ofChange fnExactSumOfTotalsSpec)

/-- ITS FALSE NEIGHBOUR: 'it returns false'. Refute it at one input. -/
def fnExactSumOfTotalsWrong : ChangeSpec := { name := "fnExactSumOfTotals", fn := fun _ => fun
  | [d] => { results := [.lit (.bool false)], args := [d] }
  | _ => none }
def FnExactSumOfTotalsWrongFalsely : Prop := fnExactSumOfTotalsRow.holds Try.pinned (OpenSpec.ofChange fnExactSumOfTotalsWrong)

/-- 'laws.FnExactTotalNamed': WHATEVER THE INPUT: true; the input reads as it did. -/
def fnExactTotalNamedSpec : ChangeSpec := { name := "fnExactTotalNamed", fn := fun _ => fun
  | [d1, d2] => { results := [.lit (.bool true)], args := [d1, d2] }
  | _ => none }
def fnExactTotalNamedRow : OpenClaim := { program := "ytknoeihaonblbaa", sum := "faaed7f31f8d426023f648923e68867fb987f71ce9826fa1d40ebb8a3e89c3fd", func := "loop.example/g01012/laws.FnExactTotalNamed", spec := "fnExactTotalNamed", unfollowed := true, recurses := true, apart := false }
def FnExactTotalNamedSaid : Prop := fnExactTotalNamedRow.holds Try.pinned (OpenSpec.ofChange fnExactTotalNamedSpec)

/-- ITS FALSE NEIGHBOUR: 'it returns false'. Refute it at one input. -/
def fnExactTotalNamedWrong : ChangeSpec := { name := "fnExactTotalNamed", fn := fun _ => fun
  | [d1, d2] => { results := [.lit (.bool false)], args := [d1, d2] }
  | _ => none }
def FnExactTotalNamedWrongFalsely : Prop := fnExactTotalNamedRow.holds Try.pinned (OpenSpec.ofChange fnExactTotalNamedWrong)

/- THE SECOND FORM. 'bulk': how many values and letters a reading holds, each counted each time it is reached (what is shared counts as often as it is met; a slice's spare places count too). A statement '..UptoSaid' is the law's where the arguments, and the package variables that the reading takes, are together of bulk at most 1048576: NARROWER than '..Said'. Prove '..Said' where nothing that the law and all that it calls make is longer than what came in: it says more and counts as full. Else prove '..UptoSaid'. A law counts once. -/
mutual
def uptoBulk {H : Type} : DataW H → Nat
  | .lit (.string bytes) => bytes.length + 1
  | .lit _ => 1
  | .nil => 1
  | .ptr d => uptoBulk d + 1
  | .slice elems spare => uptoBulkAll elems + uptoBulkAll spare + 1
  | .agg parts => uptoBulkAll parts + 1
  | .iface _ d => uptoBulk d + 1
  | .map entries => uptoBulkEntries entries + 1
  | .held _ => 1
def uptoBulkAll {H : Type} : List (DataW H) → Nat
  | [] => 0
  | d :: r => uptoBulk d + uptoBulkAll r
def uptoBulkEntries {H : Type} : List (Lit × DataW H) → Nat
  | [] => 0
  | x :: r => uptoBulkEntry x + uptoBulkEntries r
def uptoBulkEntry {H : Type} : Lit × DataW H → Nat
  | (.string bytes, d) => bytes.length + uptoBulk d + 1
  | (_, d) => uptoBulk d + 1
 end
def uptoSmall : (H : Type) → List (DataW H) → Bool := fun _ ds => decide (uptoBulkAll ds ≤ 1048576)
def OpenSpec.upto (s : _root_.Go.ChangeSpec) : _root_.Go.OpenSpec := { _root_.Go.OpenSpec.ofChange s with cond := some uptoSmall }

/-- 'laws.FnExactKeepsControl', WHERE WHAT IT READS IS OF BULK AT MOST 1048576: true; the input reads as it did. -/
def fnExactKeepsControlUptoRow : OpenClaim := { program := "ytknoeihaonblbaa", sum := "faaed7f31f8d426023f648923e68867fb987f71ce9826fa1d40ebb8a3e89c3fd", func := "loop.example/g01012/laws.FnExactKeepsControl", spec := "fnExactKeepsControl", apart := false, narrowed := true }
def FnExactKeepsControlUptoSaid : Prop := fnExactKeepsControlUptoRow.holds Try.pinned (OpenSpec.upto fnExactKeepsControlSpec)

/-- 'laws.FnExactValidAmounts', WHERE WHAT IT READS IS OF BULK AT MOST 1048576: true; the input reads as it did. -/
def fnExactValidAmountsUptoRow : OpenClaim := { program := "ytknoeihaonblbaa", sum := "faaed7f31f8d426023f648923e68867fb987f71ce9826fa1d40ebb8a3e89c3fd", func := "loop.example/g01012/laws.FnExactValidAmounts", spec := "fnExactValidAmounts", unfollowed := true, recurses := true, apart := false, narrowed := true }
def FnExactValidAmountsUptoSaid : Prop := fnExactValidAmountsUptoRow.holds Try.pinned (OpenSpec.upto fnExactValidAmountsSpec)

/-- 'laws.FnExactAddControls', WHERE WHAT IT READS IS OF BULK AT MOST 1048576: true; the input reads as it did. -/
def fnExactAddControlsUptoRow : OpenClaim := { program := "ytknoeihaonblbaa", sum := "faaed7f31f8d426023f648923e68867fb987f71ce9826fa1d40ebb8a3e89c3fd", func := "loop.example/g01012/laws.FnExactAddControls", spec := "fnExactAddControls", apart := false, narrowed := true }
def FnExactAddControlsUptoSaid : Prop := fnExactAddControlsUptoRow.holds Try.pinned (OpenSpec.upto fnExactAddControlsSpec)

/-- 'laws.FnExactTakeControls', WHERE WHAT IT READS IS OF BULK AT MOST 1048576: true; the input reads as it did. -/
def fnExactTakeControlsUptoRow : OpenClaim := { program := "ytknoeihaonblbaa", sum := "faaed7f31f8d426023f648923e68867fb987f71ce9826fa1d40ebb8a3e89c3fd", func := "loop.example/g01012/laws.FnExactTakeControls", spec := "fnExactTakeControls", apart := false, narrowed := true }
def FnExactTakeControlsUptoSaid : Prop := fnExactTakeControlsUptoRow.holds Try.pinned (OpenSpec.upto fnExactTakeControlsSpec)

/-- 'laws.FnExactSumOfTotals', WHERE WHAT IT READS IS OF BULK AT MOST 1048576: true; the input reads as it did. -/
def fnExactSumOfTotalsUptoRow : OpenClaim := { program := "ytknoeihaonblbaa", sum := "faaed7f31f8d426023f648923e68867fb987f71ce9826fa1d40ebb8a3e89c3fd", func := "loop.example/g01012/laws.FnExactSumOfTotals", spec := "fnExactSumOfTotals", apart := false, narrowed := true }
def FnExactSumOfTotalsUptoSaid : Prop := fnExactSumOfTotalsUptoRow.holds Try.pinned (OpenSpec.upto fnExactSumOfTotalsSpec)

/-- 'laws.FnExactTotalNamed', WHERE WHAT IT READS IS OF BULK AT MOST 1048576: true; the input reads as it did. -/
def fnExactTotalNamedUptoRow : OpenClaim := { program := "ytknoeihaonblbaa", sum := "faaed7f31f8d426023f648923e68867fb987f71ce9826fa1d40ebb8a3e89c3fd", func := "loop.example/g01012/laws.FnExactTotalNamed", spec := "fnExactTotalNamed", unfollowed := true, recurses := true, apart := false, narrowed := true }
def FnExactTotalNamedUptoSaid : Prop := fnExactTotalNamedUptoRow.holds Try.pinned (OpenSpec.upto fnExactTotalNamedSpec)

end Rows
end Go.Proofs.Ytknoeihaonblbaa
