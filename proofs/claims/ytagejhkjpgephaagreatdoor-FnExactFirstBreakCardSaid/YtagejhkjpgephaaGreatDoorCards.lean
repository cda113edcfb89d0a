/-
  DERIVED. GIVEN WITH THE SEED: THE CARDS: each row of YtagejhkjpgephaaGreatDoorRows.lean that lists a variable, with what it lists TIED to the program's text (the seventh form; the later family's looks); each row that meets fmt, with fmt's text TOLD by the authors' own Lean function (tested against real Go, not proved from fmt's source: count such statements apart). THE CARD IS WHAT COUNTS. Prove the row's statement (the work); the ties are given (YtagejhkjpgephaaGreatDoorTie.lean); close each card by the builder's one call (the guide's Derived/Test/ToyasCard.lean, 'card_holds'). Laid BY PROGRAM, IN A SANDBOX (cutbox-door.mjs). By AI agents, Wed Nov 11 2026. No macro, syntax, notation, axiom, sorry.
-/
import Derived.Test.YtagejhkjpgephaaGreatDoorRows
import GoSem.ClaimSeven
namespace Go.Proofs.YtagejhkjpgephaaGreatDoor
namespace Rows

/-- THE TIED CARD OF 'laws.FnExactFirstBreak'. -/
def fnExactFirstBreakCard : Claim7 := { stood := { row := fnExactFirstBreakRow, standIns := [], harness := (true, "56eb0f52cd8b592ba93b492700cbf824f8ad3c81ac614e7321a2329cc067b056"), looks := false }, kinds := [], alts := [], laidByText := true, laidKinds := [.data, .data, .data], laidTests := true, laidLooks := .later }
def FnExactFirstBreakCardSaid : Prop := Claim7.holds Tryz.pinned (.plain (OpenSpec.ofChange fnExactFirstBreakSpec)) fnExactFirstBreakCard

/-- THE SECOND FORM's CARD OF 'laws.FnExactFirstBreak'. -/
def fnExactFirstBreakUptoCard : Claim7 := { stood := { row := fnExactFirstBreakUptoRow, standIns := [], harness := (true, "56eb0f52cd8b592ba93b492700cbf824f8ad3c81ac614e7321a2329cc067b056"), looks := false }, kinds := [], alts := [], laidByText := true, laidKinds := [.data, .data, .data], laidTests := true, laidLooks := .later }
def FnExactFirstBreakUptoCardSaid : Prop := Claim7.holds Tryz.pinned (.plain (OpenSpec.upto fnExactFirstBreakSpec)) fnExactFirstBreakUptoCard
end Rows
end Go.Proofs.YtagejhkjpgephaaGreatDoor
