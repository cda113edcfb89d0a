/-
  No cell of these rows narrows 'for every input' (looked for: loops, veiled, ifaces, maps, wideKeys, modest, calm, conditions, laid).
  DERIVED. THE GIVEN ROWS OF THIS SEAT. 12 by the template 'for every input the law returns true; each argument reads behind the call as it read before'; 0 by the template 'total and deterministic' (their statements: YtaegnbfboeeijaaTotals.lean).
  GIVEN WITH THE SEED: the statements are not yours to turn. If you find one false, say at which input.
  Laid BY PROGRAM, IN A SANDBOX (cutbox-rows.mjs): the forced cells as the released guide's own fill.sh prints them over the translation 6a12575fbb3461e3… (all of the seat's roots in one cut). By AI agents, Wed Nov 11 2026. No macro, syntax, notation, axiom, sorry.
-/
import Derived.Test.YtaegnbfboeeijaaChecked
import GoSem.Claim
import GoSem.ClaimJoined
import GoSem.ClaimMapViews
import Derived.JoinedTies
import Derived.KernelRfl
namespace Go.Proofs.Ytaegnbfboeeijaa
/- THE CELL 'sum', in the pinned program and in every row, IS THE sha256 OF THE DUMP (.gsa) THAT YtaegnbfboeeijaaProg.lean LOADS. Nothing in Lean hashes anything: it is a label: what it is worth is what the hold of that sum in a sandbox is worth. -/
noncomputable def Try.pinned : Pinned := { name := "ytaegnbfboeeijaa", sum := "6a12575fbb3461e37f48d30b94b1d548c9517d7b5ea95162ae3fe22144bc3554", checked := Try.checked }
namespace Rows
def none {H : Type} : Left H := { results := [], args := [] }

/-- 'laws.FnExactAddControls': WHATEVER THE INPUT: true; the input reads as it did. -/
def fnExactAddControlsSpec : ChangeSpec := { name := "fnExactAddControls", fn := fun _ => fun
  | [d1, d2] => { results := [.lit (.bool true)], args := [d1, d2] }
  | _ => none }
def fnExactAddControlsRow : OpenClaim := { program := "ytaegnbfboeeijaa", sum := "6a12575fbb3461e37f48d30b94b1d548c9517d7b5ea95162ae3fe22144bc3554", func := "loop.example/g01012/laws.FnExactAddControls", spec := "fnExactAddControls", apart := false }
def FnExactAddControlsSaid : Prop := fnExactAddControlsRow.holds Try.pinned (OpenSpec.ofChange fnExactAddControlsSpec)

/-- ITS FALSE NEIGHBOUR: 'it returns false'. Refute it at one input. -/
def fnExactAddControlsWrong : ChangeSpec := { name := "fnExactAddControls", fn := fun _ => fun
  | [d1, d2] => { results := [.lit (.bool false)], args := [d1, d2] }
  | _ => none }
def FnExactAddControlsWrongFalsely : Prop := fnExactAddControlsRow.holds Try.pinned (OpenSpec.ofChange fnExactAddControlsWrong)

/-- 'laws.FnExactTakeControls': WHATEVER THE INPUT: true; the input reads as it did. -/
def fnExactTakeControlsSpec : ChangeSpec := { name := "fnExactTakeControls", fn := fun _ => fun
  | [d1, d2] => { results := [.lit (.bool true)], args := [d1, d2] }
  | _ => none }
def fnExactTakeControlsRow : OpenClaim := { program := "ytaegnbfboeeijaa", sum := "6a12575fbb3461e37f48d30b94b1d548c9517d7b5ea95162ae3fe22144bc3554", func := "loop.example/g01012/laws.FnExactTakeControls", spec := "fnExactTakeControls", apart := false }
def FnExactTakeControlsSaid : Prop := fnExactTakeControlsRow.holds Try.pinned (OpenSpec.ofChange fnExactTakeControlsSpec)

/-- ITS FALSE NEIGHBOUR: 'it returns false'. Refute it at one input. -/
def fnExactTakeControlsWrong : ChangeSpec := { name := "fnExactTakeControls", fn := fun _ => fun
  | [d1, d2] => { results := [.lit (.bool false)], args := [d1, d2] }
  | _ => none }
def FnExactTakeControlsWrongFalsely : Prop := fnExactTakeControlsRow.holds Try.pinned (OpenSpec.ofChange fnExactTakeControlsWrong)

/-- 'laws.FnExactSameTotals': WHATEVER THE INPUT: true; the input reads as it did. -/
def fnExactSameTotalsSpec : ChangeSpec := { name := "fnExactSameTotals", fn := fun _ => fun
  | [d1, d2] => { results := [.lit (.bool true)], args := [d1, d2] }
  | _ => none }
def fnExactSameTotalsRow : OpenClaim := { program := "ytaegnbfboeeijaa", sum := "6a12575fbb3461e37f48d30b94b1d548c9517d7b5ea95162ae3fe22144bc3554", func := "loop.example/g01012/laws.FnExactSameTotals", spec := "fnExactSameTotals", apart := false }
def FnExactSameTotalsSaid : Prop := fnExactSameTotalsRow.holds Try.pinned (OpenSpec.ofChange fnExactSameTotalsSpec)

/-- ITS FALSE NEIGHBOUR: 'it returns false'. Refute it at one input. -/
def fnExactSameTotalsWrong : ChangeSpec := { name := "fnExactSameTotals", fn := fun _ => fun
  | [d1, d2] => { results := [.lit (.bool false)], args := [d1, d2] }
  | _ => none }
def FnExactSameTotalsWrongFalsely : Prop := fnExactSameTotalsRow.holds Try.pinned (OpenSpec.ofChange fnExactSameTotalsWrong)

/-- 'laws.FnExactValidSpec': WHATEVER THE INPUT: true; the input reads as it did. -/
def fnExactValidSpecSpec : ChangeSpec := { name := "fnExactValidSpec", fn := fun _ => fun
  | [d1, d2] => { results := [.lit (.bool true)], args := [d1, d2] }
  | _ => none }
def fnExactValidSpecRow : OpenClaim := { program := "ytaegnbfboeeijaa", sum := "6a12575fbb3461e37f48d30b94b1d548c9517d7b5ea95162ae3fe22144bc3554", func := "loop.example/g01012/laws.FnExactValidSpec", spec := "fnExactValidSpec", inPlace := ["internal/bytealg.IndexByteString"], apart := false }
def FnExactValidSpecSaid : Prop := fnExactValidSpecRow.holds Try.pinned (OpenSpec.ofChange fnExactValidSpecSpec)

/-- ITS FALSE NEIGHBOUR: 'it returns false'. Refute it at one input. -/
def fnExactValidSpecWrong : ChangeSpec := { name := "fnExactValidSpec", fn := fun _ => fun
  | [d1, d2] => { results := [.lit (.bool false)], args := [d1, d2] }
  | _ => none }
def FnExactValidSpecWrongFalsely : Prop := fnExactValidSpecRow.holds Try.pinned (OpenSpec.ofChange fnExactValidSpecWrong)

/-- 'laws.FnExactSameFlow': WHATEVER THE INPUT: true; the input reads as it did. -/
def fnExactSameFlowSpec : ChangeSpec := { name := "fnExactSameFlow", fn := fun _ => fun
  | [d1, d2] => { results := [.lit (.bool true)], args := [d1, d2] }
  | _ => none }
def fnExactSameFlowRow : OpenClaim := { program := "ytaegnbfboeeijaa", sum := "6a12575fbb3461e37f48d30b94b1d548c9517d7b5ea95162ae3fe22144bc3554", func := "loop.example/g01012/laws.FnExactSameFlow", spec := "fnExactSameFlow", apart := false }
def FnExactSameFlowSaid : Prop := fnExactSameFlowRow.holds Try.pinned (OpenSpec.ofChange fnExactSameFlowSpec)

/-- ITS FALSE NEIGHBOUR: 'it returns false'. Refute it at one input. -/
def fnExactSameFlowWrong : ChangeSpec := { name := "fnExactSameFlow", fn := fun _ => fun
  | [d1, d2] => { results := [.lit (.bool false)], args := [d1, d2] }
  | _ => none }
def FnExactSameFlowWrongFalsely : Prop := fnExactSameFlowRow.holds Try.pinned (OpenSpec.ofChange fnExactSameFlowWrong)

/-- 'laws.FnExactValidStep': WHATEVER THE INPUT: true; the input reads as it did. -/
def fnExactValidStepSpec : ChangeSpec := { name := "fnExactValidStep", fn := fun _ => fun
  | [d1, d2] => { results := [.lit (.bool true)], args := [d1, d2] }
  | _ => none }
def fnExactValidStepRow : OpenClaim := { program := "ytaegnbfboeeijaa", sum := "6a12575fbb3461e37f48d30b94b1d548c9517d7b5ea95162ae3fe22144bc3554", func := "loop.example/g01012/laws.FnExactValidStep", spec := "fnExactValidStep", inPlace := ["internal/bytealg.IndexByteString"], apart := false }
def FnExactValidStepSaid : Prop := fnExactValidStepRow.holds Try.pinned (OpenSpec.ofChange fnExactValidStepSpec)

/-- ITS FALSE NEIGHBOUR: 'it returns false'. Refute it at one input. -/
def fnExactValidStepWrong : ChangeSpec := { name := "fnExactValidStep", fn := fun _ => fun
  | [d1, d2] => { results := [.lit (.bool false)], args := [d1, d2] }
  | _ => none }
def FnExactValidStepWrongFalsely : Prop := fnExactValidStepRow.holds Try.pinned (OpenSpec.ofChange fnExactValidStepWrong)

/-- 'laws.FnExactValidFaults': WHATEVER THE INPUT: true; the input reads as it did. -/
def fnExactValidFaultsSpec : ChangeSpec := { name := "fnExactValidFaults", fn := fun _ => fun
  | [d1, d2] => { results := [.lit (.bool true)], args := [d1, d2] }
  | _ => none }
def fnExactValidFaultsRow : OpenClaim := { program := "ytaegnbfboeeijaa", sum := "6a12575fbb3461e37f48d30b94b1d548c9517d7b5ea95162ae3fe22144bc3554", func := "loop.example/g01012/laws.FnExactValidFaults", spec := "fnExactValidFaults", unfollowed := true, recurses := true, apart := false }
def FnExactValidFaultsSaid : Prop := fnExactValidFaultsRow.holds Try.pinned (OpenSpec.ofChange fnExactValidFaultsSpec)

/-- ITS FALSE NEIGHBOUR: 'it returns false'. Refute it at one input. -/
def fnExactValidFaultsWrong : ChangeSpec := { name := "fnExactValidFaults", fn := fun _ => fun
  | [d1, d2] => { results := [.lit (.bool false)], args := [d1, d2] }
  | _ => none }
def FnExactValidFaultsWrongFalsely : Prop := fnExactValidFaultsRow.holds Try.pinned (OpenSpec.ofChange fnExactValidFaultsWrong)

/-- 'laws.FnExactCountDecks': WHATEVER THE INPUT: true; the input reads as it did. -/
def fnExactCountDecksSpec : ChangeSpec := { name := "fnExactCountDecks", fn := fun _ => fun
  | [d1, d2] => { results := [.lit (.bool true)], args := [d1, d2] }
  | _ => none }
def fnExactCountDecksRow : OpenClaim := { program := "ytaegnbfboeeijaa", sum := "6a12575fbb3461e37f48d30b94b1d548c9517d7b5ea95162ae3fe22144bc3554", func := "loop.example/g01012/laws.FnExactCountDecks", spec := "fnExactCountDecks", unfollowed := true, recurses := true, apart := false }
def FnExactCountDecksSaid : Prop := fnExactCountDecksRow.holds Try.pinned (OpenSpec.ofChange fnExactCountDecksSpec)

/-- ITS FALSE NEIGHBOUR: 'it returns false'. Refute it at one input. -/
def fnExactCountDecksWrong : ChangeSpec := { name := "fnExactCountDecks", fn := fun _ => fun
  | [d1, d2] => { results := [.lit (.bool false)], args := [d1, d2] }
  | _ => none }
def FnExactCountDecksWrongFalsely : Prop := fnExactCountDecksRow.holds Try.pinned (OpenSpec.ofChange fnExactCountDecksWrong)

/-- 'laws.FnExactValidFlow': WHATEVER THE INPUT: true; the input reads as it did. -/
def fnExactValidFlowSpec : ChangeSpec := { name := "fnExactValidFlow", fn := fun _ => fun
  | [d1, d2] => { results := [.lit (.bool true)], args := [d1, d2] }
  | _ => none }
def fnExactValidFlowRow : OpenClaim := { program := "ytaegnbfboeeijaa", sum := "6a12575fbb3461e37f48d30b94b1d548c9517d7b5ea95162ae3fe22144bc3554", func := "loop.example/g01012/laws.FnExactValidFlow", spec := "fnExactValidFlow", inPlace := ["internal/bytealg.IndexByteString"], unfollowed := true, recurses := true, apart := false }
def FnExactValidFlowSaid : Prop := fnExactValidFlowRow.holds Try.pinned (OpenSpec.ofChange fnExactValidFlowSpec)

/-- ITS FALSE NEIGHBOUR: 'it returns false'. Refute it at one input. -/
def fnExactValidFlowWrong : ChangeSpec := { name := "fnExactValidFlow", fn := fun _ => fun
  | [d1, d2] => { results := [.lit (.bool false)], args := [d1, d2] }
  | _ => none }
def FnExactValidFlowWrongFalsely : Prop := fnExactValidFlowRow.holds Try.pinned (OpenSpec.ofChange fnExactValidFlowWrong)

/-- 'laws.FnExactDeckAt': WHATEVER THE INPUT: true; the input reads as it did. -/
def fnExactDeckAtSpec : ChangeSpec := { name := "fnExactDeckAt", fn := fun _ => fun
  | [d1, d2, d3] => { results := [.lit (.bool true)], args := [d1, d2, d3] }
  | _ => none }
def fnExactDeckAtRow : OpenClaim := { program := "ytaegnbfboeeijaa", sum := "6a12575fbb3461e37f48d30b94b1d548c9517d7b5ea95162ae3fe22144bc3554", func := "loop.example/g01012/laws.FnExactDeckAt", spec := "fnExactDeckAt", unfollowed := true, recurses := true, apart := false }
def FnExactDeckAtSaid : Prop := fnExactDeckAtRow.holds Try.pinned (OpenSpec.ofChange fnExactDeckAtSpec)

/-- ITS FALSE NEIGHBOUR: 'it returns false'. Refute it at one input. -/
def fnExactDeckAtWrong : ChangeSpec := { name := "fnExactDeckAt", fn := fun _ => fun
  | [d1, d2, d3] => { results := [.lit (.bool false)], args := [d1, d2, d3] }
  | _ => none }
def FnExactDeckAtWrongFalsely : Prop := fnExactDeckAtRow.holds Try.pinned (OpenSpec.ofChange fnExactDeckAtWrong)

/-- 'laws.FnExactFlowFor': WHATEVER THE INPUT: true; the input reads as it did. -/
def fnExactFlowForSpec : ChangeSpec := { name := "fnExactFlowFor", fn := fun _ => fun
  | [d] => { results := [.lit (.bool true)], args := [d] }
  | _ => none }
def fnExactFlowForRow : OpenClaim := { program := "ytaegnbfboeeijaa", sum := "6a12575fbb3461e37f48d30b94b1d548c9517d7b5ea95162ae3fe22144bc3554", func := "loop.example/g01012/laws.FnExactFlowFor", spec := "fnExactFlowFor", inPlace := ["internal/bytealg.IndexByteString"], apart := false }
def FnExactFlowForSaid : Prop := fnExactFlowForRow.holds Try.pinned (OpenSpec.ofChange fnExactFlowForSpec)

/-- ITS FALSE NEIGHBOUR: 'it returns false'. Refute it at one input. -/
def fnExactFlowForWrong : ChangeSpec := { name := "fnExactFlowFor", fn := fun _ => fun
  | [d] => { results := [.lit (.bool false)], args := [d] }
  | _ => none }
def FnExactFlowForWrongFalsely : Prop := fnExactFlowForRow.holds Try.pinned (OpenSpec.ofChange fnExactFlowForWrong)

/-- 'laws.FnExactAmountsAfter': WHATEVER THE INPUT: true; the input reads as it did. -/
def fnExactAmountsAfterSpec : ChangeSpec := { name := "fnExactAmountsAfter", fn := fun _ => fun
  | [d1, d2] => { results := [.lit (.bool true)], args := [d1, d2] }
  | _ => none }
def fnExactAmountsAfterRow : OpenClaim := { program := "ytaegnbfboeeijaa", sum := "6a12575fbb3461e37f48d30b94b1d548c9517d7b5ea95162ae3fe22144bc3554", func := "loop.example/g01012/laws.FnExactAmountsAfter", spec := "fnExactAmountsAfter", unfollowed := true, recurses := true, apart := false }
def FnExactAmountsAfterSaid : Prop := fnExactAmountsAfterRow.holds Try.pinned (OpenSpec.ofChange fnExactAmountsAfterSpec)

/-- ITS FALSE NEIGHBOUR: 'it returns false'. Refute it at one input. -/
def fnExactAmountsAfterWrong : ChangeSpec := { name := "fnExactAmountsAfter", fn := fun _ => fun
  | [d1, d2] => { results := [.lit (.bool false)], args := [d1, d2] }
  | _ => none }
def FnExactAmountsAfterWrongFalsely : Prop := fnExactAmountsAfterRow.holds Try.pinned (OpenSpec.ofChange fnExactAmountsAfterWrong)

/- THE SECOND FORM. 'bulk': how many values and letters a reading holds, each counted each time it is reached (what is shared counts as often as it is met; a slice's spare places count too). A statement '..UptoSaid' is the law's where the arguments, and the package variables that the reading takes, are together of bulk at most 1048576: NARROWER than '..Said'. Prove '..Said' where nothing that the law and all that it calls make is longer than what came in: it says more and counts as full. Else prove '..UptoSaid'. A law counts once. -/
mutual
def uptoBulk {H : Type} : DataW H → Nat
  | .lit (.string bytes) => bytes.length + 1
  | .lit _ => 1
  | .nil => 1
  | .ptr d => uptoBulk d + 1
  | .slice elems spare => uptoBulkAll elems + uptoBulkAll spare + 1
  | .agg parts => uptoBulkAll parts + 1
  | .iface _ d => uptoBulk d + 1
  | .map entries => uptoBulkEntries entries + 1
  | .held _ => 1
def uptoBulkAll {H : Type} : List (DataW H) → Nat
  | [] => 0
  | d :: r => uptoBulk d + uptoBulkAll r
def uptoBulkEntries {H : Type} : List (Lit × DataW H) → Nat
  | [] => 0
  | x :: r => uptoBulkEntry x + uptoBulkEntries r
def uptoBulkEntry {H : Type} : Lit × DataW H → Nat
  | (.string bytes, d) => bytes.length + uptoBulk d + 1
  | (_, d) => uptoBulk d + 1
 end
def uptoSmall : (H : Type) → List (DataW H) → Bool := fun _ ds => decide (uptoBulkAll ds ≤ 1048576)
def OpenSpec.upto (s : _root_.Go.ChangeSpec) : _root_.Go.OpenSpec := { _root_.Go.OpenSpec.ofChange s with cond := some uptoSmall }

/-- 'laws.FnExactAddControls', WHERE WHAT IT READS IS OF BULK AT MOST 1048576: true; the input reads as it did. -/
def fnExactAddControlsUptoRow : OpenClaim := { program := "ytaegnbfboeeijaa", sum := "6a12575fbb3461e37f48d30b94b1d548c9517d7b5ea95162ae3fe22144bc3554", func := "loop.example/g01012/laws.FnExactAddControls", spec := "fnExactAddControls", apart := false, narrowed := true }
def FnExactAddControlsUptoSaid : Prop := fnExactAddControlsUptoRow.holds Try.pinned (OpenSpec.upto fnExactAddControlsSpec)

/-- 'laws.FnExactTakeControls', WHERE WHAT IT READS IS OF BULK AT MOST 1048576: true; the input reads as it did. -/
def fnExactTakeControlsUptoRow : OpenClaim := { program := "ytaegnbfboeeijaa", sum := "6a12575fbb3461e37f48d30b94b1d548c9517d7b5ea95162ae3fe22144bc3554", func := "loop.example/g01012/laws.FnExactTakeControls", spec := "fnExactTakeControls", apart := false, narrowed := true }
def FnExactTakeControlsUptoSaid : Prop := fnExactTakeControlsUptoRow.holds Try.pinned (OpenSpec.upto fnExactTakeControlsSpec)

/-- 'laws.FnExactSameTotals', WHERE WHAT IT READS IS OF BULK AT MOST 1048576: true; the input reads as it did. -/
def fnExactSameTotalsUptoRow : OpenClaim := { program := "ytaegnbfboeeijaa", sum := "6a12575fbb3461e37f48d30b94b1d548c9517d7b5ea95162ae3fe22144bc3554", func := "loop.example/g01012/laws.FnExactSameTotals", spec := "fnExactSameTotals", apart := false, narrowed := true }
def FnExactSameTotalsUptoSaid : Prop := fnExactSameTotalsUptoRow.holds Try.pinned (OpenSpec.upto fnExactSameTotalsSpec)

/-- 'laws.FnExactValidSpec', WHERE WHAT IT READS IS OF BULK AT MOST 1048576: true; the input reads as it did. -/
def fnExactValidSpecUptoRow : OpenClaim := { program := "ytaegnbfboeeijaa", sum := "6a12575fbb3461e37f48d30b94b1d548c9517d7b5ea95162ae3fe22144bc3554", func := "loop.example/g01012/laws.FnExactValidSpec", spec := "fnExactValidSpec", inPlace := ["internal/bytealg.IndexByteString"], apart := false, narrowed := true }
def FnExactValidSpecUptoSaid : Prop := fnExactValidSpecUptoRow.holds Try.pinned (OpenSpec.upto fnExactValidSpecSpec)

/-- 'laws.FnExactSameFlow', WHERE WHAT IT READS IS OF BULK AT MOST 1048576: true; the input reads as it did. -/
def fnExactSameFlowUptoRow : OpenClaim := { program := "ytaegnbfboeeijaa", sum := "6a12575fbb3461e37f48d30b94b1d548c9517d7b5ea95162ae3fe22144bc3554", func := "loop.example/g01012/laws.FnExactSameFlow", spec := "fnExactSameFlow", apart := false, narrowed := true }
def FnExactSameFlowUptoSaid : Prop := fnExactSameFlowUptoRow.holds Try.pinned (OpenSpec.upto fnExactSameFlowSpec)

/-- 'laws.FnExactValidStep', WHERE WHAT IT READS IS OF BULK AT MOST 1048576: true; the input reads as it did. -/
def fnExactValidStepUptoRow : OpenClaim := { program := "ytaegnbfboeeijaa", sum := "6a12575fbb3461e37f48d30b94b1d548c9517d7b5ea95162ae3fe22144bc3554", func := "loop.example/g01012/laws.FnExactValidStep", spec := "fnExactValidStep", inPlace := ["internal/bytealg.IndexByteString"], apart := false, narrowed := true }
def FnExactValidStepUptoSaid : Prop := fnExactValidStepUptoRow.holds Try.pinned (OpenSpec.upto fnExactValidStepSpec)

/-- 'laws.FnExactValidFaults', WHERE WHAT IT READS IS OF BULK AT MOST 1048576: true; the input reads as it did. -/
def fnExactValidFaultsUptoRow : OpenClaim := { program := "ytaegnbfboeeijaa", sum := "6a12575fbb3461e37f48d30b94b1d548c9517d7b5ea95162ae3fe22144bc3554", func := "loop.example/g01012/laws.FnExactValidFaults", spec := "fnExactValidFaults", unfollowed := true, recurses := true, apart := false, narrowed := true }
def FnExactValidFaultsUptoSaid : Prop := fnExactValidFaultsUptoRow.holds Try.pinned (OpenSpec.upto fnExactValidFaultsSpec)

/-- 'laws.FnExactCountDecks', WHERE WHAT IT READS IS OF BULK AT MOST 1048576: true; the input reads as it did. -/
def fnExactCountDecksUptoRow : OpenClaim := { program := "ytaegnbfboeeijaa", sum := "6a12575fbb3461e37f48d30b94b1d548c9517d7b5ea95162ae3fe22144bc3554", func := "loop.example/g01012/laws.FnExactCountDecks", spec := "fnExactCountDecks", unfollowed := true, recurses := true, apart := false, narrowed := true }
def FnExactCountDecksUptoSaid : Prop := fnExactCountDecksUptoRow.holds Try.pinned (OpenSpec.upto fnExactCountDecksSpec)

/-- 'laws.FnExactValidFlow', WHERE WHAT IT READS IS OF BULK AT MOST 1048576: true; the input reads as it did. -/
def fnExactValidFlowUptoRow : OpenClaim := { program := "ytaegnbfboeeijaa", sum := "6a12575fbb3461e37f48d30b94b1d548c9517d7b5ea95162ae3fe22144bc3554", func := "loop.example/g01012/laws.FnExactValidFlow", spec := "fnExactValidFlow", inPlace := ["internal/bytealg.IndexByteString"], unfollowed := true, recurses := true, apart := false, narrowed := true }
def FnExactValidFlowUptoSaid : Prop := fnExactValidFlowUptoRow.holds Try.pinned (OpenSpec.upto fnExactValidFlowSpec)

/-- 'laws.FnExactDeckAt', WHERE WHAT IT READS IS OF BULK AT MOST 1048576: true; the input reads as it did. -/
def fnExactDeckAtUptoRow : OpenClaim := { program := "ytaegnbfboeeijaa", sum := "6a12575fbb3461e37f48d30b94b1d548c9517d7b5ea95162ae3fe22144bc3554", func := "loop.example/g01012/laws.FnExactDeckAt", spec := "fnExactDeckAt", unfollowed := true, recurses := true, apart := false, narrowed := true }
def FnExactDeckAtUptoSaid : Prop := fnExactDeckAtUptoRow.holds Try.pinned (OpenSpec.upto fnExactDeckAtSpec)

/-- 'laws.FnExactFlowFor', WHERE WHAT IT READS IS OF BULK AT MOST 1048576: true; the input reads as it did. -/
def fnExactFlowForUptoRow : OpenClaim := { program := "ytaegnbfboeeijaa", sum := "6a12575fbb3461e37f48d30b94b1d548c9517d7b5ea95162ae3fe22144bc3554", func := "loop.example/g01012/laws.FnExactFlowFor", spec := "fnExactFlowFor", inPlace := ["internal/bytealg.IndexByteString"], apart := false, narrowed := true }
def FnExactFlowForUptoSaid : Prop := fnExactFlowForUptoRow.holds Try.pinned (OpenSpec.upto fnExactFlowForSpec)

/-- 'laws.FnExactAmountsAfter', WHERE WHAT IT READS IS OF BULK AT MOST 1048576: true; the input reads as it did. -/
def fnExactAmountsAfterUptoRow : OpenClaim := { program := "ytaegnbfboeeijaa", sum := "6a12575fbb3461e37f48d30b94b1d548c9517d7b5ea95162ae3fe22144bc3554", func := "loop.example/g01012/laws.FnExactAmountsAfter", spec := "fnExactAmountsAfter", unfollowed := true, recurses := true, apart := false, narrowed := true }
def FnExactAmountsAfterUptoSaid : Prop := fnExactAmountsAfterUptoRow.holds Try.pinned (OpenSpec.upto fnExactAmountsAfterSpec)

end Rows
end Go.Proofs.Ytaegnbfboeeijaa
