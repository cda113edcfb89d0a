/-
  DERIVED. GIVEN WITH THE SEED: THE CARDS: each row of YtpdmjalhahblmaaDoorRows.lean that lists a variable, with what it lists TIED to the program's text (the seventh form; the later family's looks); each row that meets fmt, with fmt's text TOLD by the authors' own Lean function (tested against real Go, not proved from fmt's source: count such statements apart). THE CARD IS WHAT COUNTS. Prove the row's statement (the work); the ties are given (YtpdmjalhahblmaaDoorTie.lean); close each card by the builder's one call (the guide's Derived/Test/ToyasCard.lean, 'card_holds'). Laid BY PROGRAM, IN A SANDBOX (cutbox-door.mjs). By AI agents, Wed Nov 11 2026. No macro, syntax, notation, axiom, sorry.
-/
import Derived.Test.YtpdmjalhahblmaaDoorRows
import GoSem.ClaimSeven
namespace Go.Proofs.YtpdmjalhahblmaaDoor
namespace Rows

/-- THE TIED CARD OF 'laws.FnExactReadControl'. -/
def fnExactReadControlCard : Claim7 := { stood := { row := fnExactReadControlRow, standIns := [], harness := (true, "a1f7d5df108f10eece4ded459ff765594ac60936fdae3d30e09dd632d5bc4bb0"), looks := true }, kinds := [], alts := [], laidByText := true, laidKinds := [.data, .data, .data, .data, .sentinel, .sentinel, .pinned], laidTests := true, laidLooks := .later }
def FnExactReadControlCardSaid : Prop := Claim7.holds Tryd.pinned (.plain (OpenSpec.ofChange fnExactReadControlSpec)) fnExactReadControlCard

/-- THE SECOND FORM's CARD OF 'laws.FnExactReadControl'. -/
def fnExactReadControlUptoCard : Claim7 := { stood := { row := fnExactReadControlUptoRow, standIns := [], harness := (true, "a1f7d5df108f10eece4ded459ff765594ac60936fdae3d30e09dd632d5bc4bb0"), looks := true }, kinds := [], alts := [], laidByText := true, laidKinds := [.data, .data, .data, .data, .sentinel, .sentinel, .pinned], laidTests := true, laidLooks := .later }
def FnExactReadControlUptoCardSaid : Prop := Claim7.holds Tryd.pinned (.plain (OpenSpec.upto fnExactReadControlSpec)) fnExactReadControlUptoCard
end Rows
end Go.Proofs.YtpdmjalhahblmaaDoor
