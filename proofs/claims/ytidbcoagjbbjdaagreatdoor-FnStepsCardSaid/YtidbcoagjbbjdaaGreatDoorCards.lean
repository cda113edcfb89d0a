/-
  DERIVED. GIVEN WITH THE SEED: THE CARDS: each row of YtidbcoagjbbjdaaGreatDoorRows.lean that lists a variable, with what it lists TIED to the program's text (the seventh form; the later family's looks); each row that meets fmt, with fmt's text TOLD by the authors' own Lean function (tested against real Go, not proved from fmt's source: count such statements apart). THE CARD IS WHAT COUNTS. Prove the row's statement (the work); the ties are given (YtidbcoagjbbjdaaGreatDoorTie.lean); close each card by the builder's one call (the guide's Derived/Test/ToyasCard.lean, 'card_holds'). Laid BY PROGRAM, IN A SANDBOX (cutbox-door.mjs). By AI agents, Wed Nov 11 2026. No macro, syntax, notation, axiom, sorry.
-/
import Derived.Test.YtidbcoagjbbjdaaGreatDoorRows
import GoSem.ClaimSeven
namespace Go.Proofs.YtidbcoagjbbjdaaGreatDoor
namespace Rows

/-- THE TIED CARD OF 'laws.FnSpecs'. -/
def fnSpecsCard : Claim7 := { stood := { row := fnSpecsRow, standIns := [], harness := (true, "8dcfd78064120098c67ac1ef3f348986e4cfc3bbf1bcc803b4a5c0b17e5e8ae6"), looks := false }, kinds := [], alts := [], laidByText := true, laidKinds := [.data, .data, .data], laidTests := true, laidLooks := .later }
def FnSpecsCardSaid : Prop := Claim7.holds Tryz.pinned (.plain (OpenSpec.ofChange fnSpecsSpec)) fnSpecsCard

/-- THE TIED CARD OF 'laws.FnSteps'. -/
def fnStepsCard : Claim7 := { stood := { row := fnStepsRow, standIns := [], harness := (true, "8dcfd78064120098c67ac1ef3f348986e4cfc3bbf1bcc803b4a5c0b17e5e8ae6"), looks := false }, kinds := [], alts := [], laidByText := true, laidKinds := [.data, .data, .data], laidTests := true, laidLooks := .later }
def FnStepsCardSaid : Prop := Claim7.holds Tryz.pinned (.plain (OpenSpec.ofChange fnStepsSpec)) fnStepsCard

/-- THE SECOND FORM's CARD OF 'laws.FnSpecs'. -/
def fnSpecsUptoCard : Claim7 := { stood := { row := fnSpecsUptoRow, standIns := [], harness := (true, "8dcfd78064120098c67ac1ef3f348986e4cfc3bbf1bcc803b4a5c0b17e5e8ae6"), looks := false }, kinds := [], alts := [], laidByText := true, laidKinds := [.data, .data, .data], laidTests := true, laidLooks := .later }
def FnSpecsUptoCardSaid : Prop := Claim7.holds Tryz.pinned (.plain (OpenSpec.upto fnSpecsSpec)) fnSpecsUptoCard

/-- THE SECOND FORM's CARD OF 'laws.FnSteps'. -/
def fnStepsUptoCard : Claim7 := { stood := { row := fnStepsUptoRow, standIns := [], harness := (true, "8dcfd78064120098c67ac1ef3f348986e4cfc3bbf1bcc803b4a5c0b17e5e8ae6"), looks := false }, kinds := [], alts := [], laidByText := true, laidKinds := [.data, .data, .data], laidTests := true, laidLooks := .later }
def FnStepsUptoCardSaid : Prop := Claim7.holds Tryz.pinned (.plain (OpenSpec.upto fnStepsSpec)) fnStepsUptoCard
end Rows
end Go.Proofs.YtidbcoagjbbjdaaGreatDoor
