/-
  DERIVED. GIVEN WITH THE SEED: THE CARDS: each row of YtimcedhcefcbbaaDoorRows.lean that lists a variable, with what it lists TIED to the program's text (the seventh form; the later family's looks); each row that meets fmt, with fmt's text TOLD by the authors' own Lean function (tested against real Go, not proved from fmt's source: count such statements apart). THE CARD IS WHAT COUNTS. Prove the row's statement (the work); the ties are given (YtimcedhcefcbbaaDoorTie.lean); close each card by the builder's one call (the guide's Derived/Test/ToyasCard.lean, 'card_holds'). Laid BY PROGRAM, IN A SANDBOX (cutbox-door.mjs). By AI agents, Wed Nov 11 2026. No macro, syntax, notation, axiom, sorry.
-/
import Derived.Test.YtimcedhcefcbbaaDoorRows
import GoSem.ClaimSeven
namespace Go.Proofs.YtimcedhcefcbbaaDoor
namespace Rows

/-- THE TIED CARD OF 'laws.FnExactCalculateDeck'. -/
def fnExactCalculateDeckCard : Claim7 := { stood := { row := fnExactCalculateDeckRow, standIns := [], harness := (true, "f3f0eb5ab4eb878c2f3124bc61363b0be9119c45db058f6fa63dff85ed4a57d6"), looks := false }, kinds := [], alts := [], laidByText := true, laidKinds := [.data, .data, .data], laidTests := true, laidLooks := .later }
def FnExactCalculateDeckCardSaid : Prop := Claim7.holds Tryd.pinned (.plain (OpenSpec.ofChange fnExactCalculateDeckSpec)) fnExactCalculateDeckCard

/-- THE SECOND FORM's CARD OF 'laws.FnExactCalculateDeck'. -/
def fnExactCalculateDeckUptoCard : Claim7 := { stood := { row := fnExactCalculateDeckUptoRow, standIns := [], harness := (true, "f3f0eb5ab4eb878c2f3124bc61363b0be9119c45db058f6fa63dff85ed4a57d6"), looks := false }, kinds := [], alts := [], laidByText := true, laidKinds := [.data, .data, .data], laidTests := true, laidLooks := .later }
def FnExactCalculateDeckUptoCardSaid : Prop := Claim7.holds Tryd.pinned (.plain (OpenSpec.upto fnExactCalculateDeckSpec)) fnExactCalculateDeckUptoCard
end Rows
end Go.Proofs.YtimcedhcefcbbaaDoor
