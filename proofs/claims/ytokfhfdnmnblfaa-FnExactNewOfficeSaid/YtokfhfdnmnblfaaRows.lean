/-
  No cell of these rows narrows 'for every input' (looked for: loops, veiled, ifaces, maps, wideKeys, modest, calm, conditions, laid).
  DERIVED. THE GIVEN ROWS OF THIS SEAT. 3 by the template 'for every input the law returns true; each argument reads behind the call as it read before'; 0 by the template 'total and deterministic' (their statements: YtokfhfdnmnblfaaTotals.lean).
  GIVEN WITH THE SEED: the statements are not yours to turn. If you find one false, say at which input.
  Laid BY PROGRAM, IN A SANDBOX (cutbox-rows.mjs): the forced cells as the released guide's own fill.sh prints them over the translation fe0879f4e2e83b1b… (all of the seat's roots in one cut). By AI agents, Wed Nov 11 2026. No macro, syntax, notation, axiom, sorry.
-/
import Derived.Test.YtokfhfdnmnblfaaChecked
import GoSem.Claim
import GoSem.ClaimJoined
import GoSem.ClaimMapViews
import Derived.JoinedTies
import Derived.KernelRfl
namespace Go.Proofs.Ytokfhfdnmnblfaa
/- THE CELL 'sum', in the pinned program and in every row, IS THE sha256 OF THE DUMP (.gsa) THAT YtokfhfdnmnblfaaProg.lean LOADS. Nothing in Lean hashes anything: it is a label: what it is worth is what the hold of that sum in a sandbox is worth. -/
noncomputable def Try.pinned : Pinned := { name := "ytokfhfdnmnblfaa", sum := "fe0879f4e2e83b1ba2f910d8d0ae424a3147b3aecd4f7cc4ff88f3e28ea4cc6e", checked := Try.checked }
namespace Rows
def none {H : Type} : Left H := { results := [], args := [] }

/-- 'laws.FnExactDeckAt': WHATEVER THE INPUT: true; the input reads as it did. -/
def fnExactDeckAtSpec : ChangeSpec := { name := "fnExactDeckAt", fn := fun _ => fun
  | [d1, d2, d3] => { results := [.lit (.bool true)], args := [d1, d2, d3] }
  | _ => none }
def fnExactDeckAtRow : OpenClaim := { program := "ytokfhfdnmnblfaa", sum := "fe0879f4e2e83b1ba2f910d8d0ae424a3147b3aecd4f7cc4ff88f3e28ea4cc6e", func := "loop.example/g01012/laws.FnExactDeckAt", spec := "fnExactDeckAt", unfollowed := true, recurses := true, apart := false }
def FnExactDeckAtSaid : Prop := fnExactDeckAtRow.holds Try.pinned (OpenSpec.ofChange fnExactDeckAtSpec)

/-- ITS FALSE NEIGHBOUR: 'it returns false'. Refute it at one input. -/
def fnExactDeckAtWrong : ChangeSpec := { name := "fnExactDeckAt", fn := fun _ => fun
  | [d1, d2, d3] => { results := [.lit (.bool false)], args := [d1, d2, d3] }
  | _ => none }
def FnExactDeckAtWrongFalsely : Prop := fnExactDeckAtRow.holds Try.pinned (OpenSpec.ofChange fnExactDeckAtWrong)

/-- 'laws.FnExactNewOffice': WHATEVER THE INPUT: true; the input reads as it did. -/
def fnExactNewOfficeSpec : ChangeSpec := { name := "fnExactNewOffice", fn := fun _ => fun
  | [d] => { results := [.lit (.bool true)], args := [d] }
  | _ => none }
def fnExactNewOfficeRow : OpenClaim := { program := "ytokfhfdnmnblfaa", sum := "fe0879f4e2e83b1ba2f910d8d0ae424a3147b3aecd4f7cc4ff88f3e28ea4cc6e", func := "loop.example/g01012/laws.FnExactNewOffice", spec := "fnExactNewOffice", unfollowed := true, recurses := true, apart := false }
def FnExactNewOfficeSaid : Prop := fnExactNewOfficeRow.holds Try.pinned (OpenSpec.ofChange fnExactNewOfficeSpec)

/-- ITS FALSE NEIGHBOUR: 'it returns false'. Refute it at one input. -/
def fnExactNewOfficeWrong : ChangeSpec := { name := "fnExactNewOffice", fn := fun _ => fun
  | [d] => { results := [.lit (.bool false)], args := [d] }
  | _ => none }
def FnExactNewOfficeWrongFalsely : Prop := fnExactNewOfficeRow.holds Try.pinned (OpenSpec.ofChange fnExactNewOfficeWrong)

/-- 'laws.FnExactCardsFor': WHATEVER THE INPUT: true; the input reads as it did. -/
def fnExactCardsForSpec : ChangeSpec := { name := "fnExactCardsFor", fn := fun _ => fun
  | [d1, d2] => { results := [.lit (.bool true)], args := [d1, d2] }
  | _ => none }
def fnExactCardsForRow : OpenClaim := { program := "ytokfhfdnmnblfaa", sum := "fe0879f4e2e83b1ba2f910d8d0ae424a3147b3aecd4f7cc4ff88f3e28ea4cc6e", func := "loop.example/g01012/laws.FnExactCardsFor", spec := "fnExactCardsFor", inPlace := ["internal/bytealg.IndexByteString"], unfollowed := true, recurses := true, apart := false }
def FnExactCardsForSaid : Prop := fnExactCardsForRow.holds Try.pinned (OpenSpec.ofChange fnExactCardsForSpec)

/-- ITS FALSE NEIGHBOUR: 'it returns false'. Refute it at one input. -/
def fnExactCardsForWrong : ChangeSpec := { name := "fnExactCardsFor", fn := fun _ => fun
  | [d1, d2] => { results := [.lit (.bool false)], args := [d1, d2] }
  | _ => none }
def FnExactCardsForWrongFalsely : Prop := fnExactCardsForRow.holds Try.pinned (OpenSpec.ofChange fnExactCardsForWrong)

/- THE SECOND FORM. 'bulk': how many values and letters a reading holds, each counted each time it is reached (what is shared counts as often as it is met; a slice's spare places count too). A statement '..UptoSaid' is the law's where the arguments, and the package variables that the reading takes, are together of bulk at most 1048576: NARROWER than '..Said'. Prove '..Said' where nothing that the law and all that it calls make is longer than what came in: it says more and counts as full. Else prove '..UptoSaid'. A law counts once. -/
mutual
def uptoBulk {H : Type} : DataW H → Nat
  | .lit (.string bytes) => bytes.length + 1
  | .lit _ => 1
  | .nil => 1
  | .ptr d => uptoBulk d + 1
  | .slice elems spare => uptoBulkAll elems + uptoBulkAll spare + 1
  | .agg parts => uptoBulkAll parts + 1
  | .iface _ d => uptoBulk d + 1
  | .map entries => uptoBulkEntries entries + 1
  | .held _ => 1
def uptoBulkAll {H : Type} : List (DataW H) → Nat
  | [] => 0
  | d :: r => uptoBulk d + uptoBulkAll r
def uptoBulkEntries {H : Type} : List (Lit × DataW H) → Nat
  | [] => 0
  | x :: r => uptoBulkEntry x + uptoBulkEntries r
def uptoBulkEntry {H : Type} : Lit × DataW H → Nat
  | (.string bytes, d) => bytes.length + uptoBulk d + 1
  | (_, d) => uptoBulk d + 1
 end
def uptoSmall : (H : Type) → List (DataW H) → Bool := fun _ ds => decide (uptoBulkAll ds ≤ 1048576)
def OpenSpec.upto (s : _root_.Go.ChangeSpec) : _root_.Go.OpenSpec := { _root_.Go.OpenSpec.ofChange s with cond := some uptoSmall }

/-- 'laws.FnExactDeckAt', WHERE WHAT IT READS IS OF BULK AT MOST 1048576: true; the input reads as it did. -/
def fnExactDeckAtUptoRow : OpenClaim := { program := "ytokfhfdnmnblfaa", sum := "fe0879f4e2e83b1ba2f910d8d0ae424a3147b3aecd4f7cc4ff88f3e28ea4cc6e", func := "loop.example/g01012/laws.FnExactDeckAt", spec := "fnExactDeckAt", unfollowed := true, recurses := true, apart := false, narrowed := true }
def FnExactDeckAtUptoSaid : Prop := fnExactDeckAtUptoRow.holds Try.pinned (OpenSpec.upto fnExactDeckAtSpec)

/-- 'laws.FnExactNewOffice', WHERE WHAT IT READS IS OF BULK AT MOST 1048576: true; the input reads as it did. -/
def fnExactNewOfficeUptoRow : OpenClaim := { program := "ytokfhfdnmnblfaa", sum := "fe0879f4e2e83b1ba2f910d8d0ae424a3147b3aecd4f7cc4ff88f3e28ea4cc6e", func := "loop.example/g01012/laws.FnExactNewOffice", spec := "fnExactNewOffice", unfollowed := true, recurses := true, apart := false, narrowed := true }
def FnExactNewOfficeUptoSaid : Prop := fnExactNewOfficeUptoRow.holds Try.pinned (OpenSpec.upto fnExactNewOfficeSpec)

/-- 'laws.FnExactCardsFor', WHERE WHAT IT READS IS OF BULK AT MOST 1048576: true; the input reads as it did. -/
def fnExactCardsForUptoRow : OpenClaim := { program := "ytokfhfdnmnblfaa", sum := "fe0879f4e2e83b1ba2f910d8d0ae424a3147b3aecd4f7cc4ff88f3e28ea4cc6e", func := "loop.example/g01012/laws.FnExactCardsFor", spec := "fnExactCardsFor", inPlace := ["internal/bytealg.IndexByteString"], unfollowed := true, recurses := true, apart := false, narrowed := true }
def FnExactCardsForUptoSaid : Prop := fnExactCardsForUptoRow.holds Try.pinned (OpenSpec.upto fnExactCardsForSpec)

end Rows
end Go.Proofs.Ytokfhfdnmnblfaa
