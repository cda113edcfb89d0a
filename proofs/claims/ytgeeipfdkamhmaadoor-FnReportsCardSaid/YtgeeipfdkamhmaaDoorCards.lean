/-
  DERIVED. GIVEN WITH THE SEED: THE CARDS: each row of YtgeeipfdkamhmaaDoorRows.lean that lists a variable, with what it lists TIED to the program's text (the seventh form; the later family's looks); each row that meets fmt, with fmt's text TOLD by the authors' own Lean function (tested against real Go, not proved from fmt's source: count such statements apart). THE CARD IS WHAT COUNTS. Prove the row's statement (the work); the ties are given (YtgeeipfdkamhmaaDoorTie.lean); close each card by the builder's one call (the guide's Derived/Test/ToyasCard.lean, 'card_holds'). Laid BY PROGRAM, IN A SANDBOX (cutbox-door.mjs). By AI agents, Wed Nov 11 2026. No macro, syntax, notation, axiom, sorry.
-/
import Derived.Test.YtgeeipfdkamhmaaDoorRows
import GoSem.ClaimSeven
namespace Go.Proofs.YtgeeipfdkamhmaaDoor
namespace Rows

/-- THE TIED CARD OF 'laws.FnReports'. -/
def fnReportsCard : Claim7 := { stood := { row := fnReportsRow, standIns := [], harness := (true, "a55750d19db051674421ac5894026f973f1c8ef4fb1aab59d0a49478bd855fd5"), looks := true }, kinds := [], alts := [], laidByText := true, laidKinds := [.data, .data, .data], laidTests := true, laidLooks := .later }
def FnReportsCardSaid : Prop := Claim7.holds Tryd.pinned (.plain (OpenSpec.ofChange fnReportsSpec)) fnReportsCard

/-- THE TIED CARD OF 'laws.FnExactCalculateDeck'. -/
def fnExactCalculateDeckCard : Claim7 := { stood := { row := fnExactCalculateDeckRow, standIns := [], harness := (true, "a55750d19db051674421ac5894026f973f1c8ef4fb1aab59d0a49478bd855fd5"), looks := true }, kinds := [], alts := [], laidByText := true, laidKinds := [.data, .data, .data], laidTests := true, laidLooks := .later }
def FnExactCalculateDeckCardSaid : Prop := Claim7.holds Tryd.pinned (.plain (OpenSpec.ofChange fnExactCalculateDeckSpec)) fnExactCalculateDeckCard

/-- THE TIED CARD OF 'laws.FnExactReadControl'. -/
def fnExactReadControlCard : Claim7 := { stood := { row := fnExactReadControlRow, standIns := [], harness := (true, "a55750d19db051674421ac5894026f973f1c8ef4fb1aab59d0a49478bd855fd5"), looks := true }, kinds := [], alts := [], laidByText := true, laidKinds := [.data, .data, .data, .data, .sentinel, .sentinel, .pinned], laidTests := true, laidLooks := .later }
def FnExactReadControlCardSaid : Prop := Claim7.holds Tryd.pinned (.plain (OpenSpec.ofChange fnExactReadControlSpec)) fnExactReadControlCard

/-- THE SECOND FORM's CARD OF 'laws.FnReports'. -/
def fnReportsUptoCard : Claim7 := { stood := { row := fnReportsUptoRow, standIns := [], harness := (true, "a55750d19db051674421ac5894026f973f1c8ef4fb1aab59d0a49478bd855fd5"), looks := true }, kinds := [], alts := [], laidByText := true, laidKinds := [.data, .data, .data], laidTests := true, laidLooks := .later }
def FnReportsUptoCardSaid : Prop := Claim7.holds Tryd.pinned (.plain (OpenSpec.upto fnReportsSpec)) fnReportsUptoCard

/-- THE SECOND FORM's CARD OF 'laws.FnExactCalculateDeck'. -/
def fnExactCalculateDeckUptoCard : Claim7 := { stood := { row := fnExactCalculateDeckUptoRow, standIns := [], harness := (true, "a55750d19db051674421ac5894026f973f1c8ef4fb1aab59d0a49478bd855fd5"), looks := true }, kinds := [], alts := [], laidByText := true, laidKinds := [.data, .data, .data], laidTests := true, laidLooks := .later }
def FnExactCalculateDeckUptoCardSaid : Prop := Claim7.holds Tryd.pinned (.plain (OpenSpec.upto fnExactCalculateDeckSpec)) fnExactCalculateDeckUptoCard

/-- THE SECOND FORM's CARD OF 'laws.FnExactReadControl'. -/
def fnExactReadControlUptoCard : Claim7 := { stood := { row := fnExactReadControlUptoRow, standIns := [], harness := (true, "a55750d19db051674421ac5894026f973f1c8ef4fb1aab59d0a49478bd855fd5"), looks := true }, kinds := [], alts := [], laidByText := true, laidKinds := [.data, .data, .data, .data, .sentinel, .sentinel, .pinned], laidTests := true, laidLooks := .later }
def FnExactReadControlUptoCardSaid : Prop := Claim7.holds Tryd.pinned (.plain (OpenSpec.upto fnExactReadControlSpec)) fnExactReadControlUptoCard
end Rows
end Go.Proofs.YtgeeipfdkamhmaaDoor
