/-
  DERIVED. GIVEN WITH THE SEED: THE CARDS: each row of YtklmdppgonhflaaGreatDoorRows.lean that lists a variable, with what it lists TIED to the program's text (the seventh form; the later family's looks); each row that meets fmt, with fmt's text TOLD by the authors' own Lean function (tested against real Go, not proved from fmt's source: count such statements apart). THE CARD IS WHAT COUNTS. Prove the row's statement (the work); the ties are given (YtklmdppgonhflaaGreatDoorTie.lean); close each card by the builder's one call (the guide's Derived/Test/ToyasCard.lean, 'card_holds'). Laid BY PROGRAM, IN A SANDBOX (cutbox-door.mjs). By AI agents, Wed Nov 11 2026. No macro, syntax, notation, axiom, sorry.
-/
import Derived.Test.YtklmdppgonhflaaGreatDoorRows
import GoSem.ClaimSeven
namespace Go.Proofs.YtklmdppgonhflaaGreatDoor
namespace Rows

/-- THE TIED CARD OF 'laws.FnControls'. -/
def fnControlsCard : Claim7 := { stood := { row := fnControlsRow, standIns := [], harness := (true, "1d0410a139da42ea26494d7cd14bc94248946b5ab75b52917510fb203f034cee"), looks := true }, kinds := [], alts := [], laidByText := true, laidKinds := [.data, .data, .data, .data, .sentinel, .sentinel, .pinned], laidTests := true, laidLooks := .later }
def FnControlsCardSaid : Prop := Claim7.holds Tryz.pinned (.plain (OpenSpec.ofChange fnControlsSpec)) fnControlsCard

/-- THE SECOND FORM's CARD OF 'laws.FnControls'. -/
def fnControlsUptoCard : Claim7 := { stood := { row := fnControlsUptoRow, standIns := [], harness := (true, "1d0410a139da42ea26494d7cd14bc94248946b5ab75b52917510fb203f034cee"), looks := true }, kinds := [], alts := [], laidByText := true, laidKinds := [.data, .data, .data, .data, .sentinel, .sentinel, .pinned], laidTests := true, laidLooks := .later }
def FnControlsUptoCardSaid : Prop := Claim7.holds Tryz.pinned (.plain (OpenSpec.upto fnControlsSpec)) fnControlsUptoCard
end Rows
end Go.Proofs.YtklmdppgonhflaaGreatDoor
