/-
  DERIVED. GIVEN WITH THE SEED: THE CARDS: each row of YtclfhgcngodljaaDoorRows.lean that lists a variable, with what it lists TIED to the program's text (the seventh form; the later family's looks); each row that meets fmt, with fmt's text TOLD by the authors' own Lean function (tested against real Go, not proved from fmt's source: count such statements apart). THE CARD IS WHAT COUNTS. Prove the row's statement (the work); the ties are given (YtclfhgcngodljaaDoorTie.lean); close each card by the builder's one call (the guide's Derived/Test/ToyasCard.lean, 'card_holds'). Laid BY PROGRAM, IN A SANDBOX (cutbox-door.mjs). By AI agents, Wed Nov 11 2026. No macro, syntax, notation, axiom, sorry.
-/
import Derived.Test.YtclfhgcngodljaaDoorRows
import GoSem.ClaimSeven
namespace Go.Proofs.YtclfhgcngodljaaDoor
namespace Rows

/-- THE TIED CARD OF 'laws.FnExactReportOf'. -/
def fnExactReportOfCard : Claim7 := { stood := { row := fnExactReportOfRow, standIns := [], harness := (true, "a1d2fbe31aac8580ccef33ef4c0f5f133d06fad33ae3b248e26c509207f6538a"), looks := false }, kinds := [], alts := [], laidByText := true, laidKinds := [.data, .data, .data], laidTests := true, laidLooks := .later }
def FnExactReportOfCardSaid : Prop := Claim7.holds Tryd.pinned (.plain (OpenSpec.ofChange fnExactReportOfSpec)) fnExactReportOfCard

/-- THE TIED CARD OF 'laws.FnExactMissingBy'. -/
def fnExactMissingByCard : Claim7 := { stood := { row := fnExactMissingByRow, standIns := [], harness := (true, "a1d2fbe31aac8580ccef33ef4c0f5f133d06fad33ae3b248e26c509207f6538a"), looks := false }, kinds := [], alts := [], laidByText := true, laidKinds := [.data, .data, .data], laidTests := true, laidLooks := .later }
def FnExactMissingByCardSaid : Prop := Claim7.holds Tryd.pinned (.plain (OpenSpec.ofChange fnExactMissingBySpec)) fnExactMissingByCard

/-- THE TIED CARD OF 'laws.FnExactReportAfter'. -/
def fnExactReportAfterCard : Claim7 := { stood := { row := fnExactReportAfterRow, standIns := [], harness := (true, "a1d2fbe31aac8580ccef33ef4c0f5f133d06fad33ae3b248e26c509207f6538a"), looks := false }, kinds := [], alts := [], laidByText := true, laidKinds := [.data, .data, .data], laidTests := true, laidLooks := .later }
def FnExactReportAfterCardSaid : Prop := Claim7.holds Tryd.pinned (.plain (OpenSpec.ofChange fnExactReportAfterSpec)) fnExactReportAfterCard

/-- THE TIED CARD OF 'laws.FnExactControlOf'. -/
def fnExactControlOfCard : Claim7 := { stood := { row := fnExactControlOfRow, standIns := [], harness := (true, "a1d2fbe31aac8580ccef33ef4c0f5f133d06fad33ae3b248e26c509207f6538a"), looks := false }, kinds := [], alts := [], laidByText := true, laidKinds := [.data, .data, .data], laidTests := true, laidLooks := .later }
def FnExactControlOfCardSaid : Prop := Claim7.holds Tryd.pinned (.plain (OpenSpec.ofChange fnExactControlOfSpec)) fnExactControlOfCard

/-- THE TIED CARD OF 'laws.FnExactCyclesOfDeck'. -/
def fnExactCyclesOfDeckCard : Claim7 := { stood := { row := fnExactCyclesOfDeckRow, standIns := [], harness := (true, "a1d2fbe31aac8580ccef33ef4c0f5f133d06fad33ae3b248e26c509207f6538a"), looks := false }, kinds := [], alts := [], laidByText := true, laidKinds := [.data, .data, .data], laidTests := true, laidLooks := .later }
def FnExactCyclesOfDeckCardSaid : Prop := Claim7.holds Tryd.pinned (.plain (OpenSpec.ofChange fnExactCyclesOfDeckSpec)) fnExactCyclesOfDeckCard

/-- THE SECOND FORM's CARD OF 'laws.FnExactReportOf'. -/
def fnExactReportOfUptoCard : Claim7 := { stood := { row := fnExactReportOfUptoRow, standIns := [], harness := (true, "a1d2fbe31aac8580ccef33ef4c0f5f133d06fad33ae3b248e26c509207f6538a"), looks := false }, kinds := [], alts := [], laidByText := true, laidKinds := [.data, .data, .data], laidTests := true, laidLooks := .later }
def FnExactReportOfUptoCardSaid : Prop := Claim7.holds Tryd.pinned (.plain (OpenSpec.upto fnExactReportOfSpec)) fnExactReportOfUptoCard

/-- THE SECOND FORM's CARD OF 'laws.FnExactMissingBy'. -/
def fnExactMissingByUptoCard : Claim7 := { stood := { row := fnExactMissingByUptoRow, standIns := [], harness := (true, "a1d2fbe31aac8580ccef33ef4c0f5f133d06fad33ae3b248e26c509207f6538a"), looks := false }, kinds := [], alts := [], laidByText := true, laidKinds := [.data, .data, .data], laidTests := true, laidLooks := .later }
def FnExactMissingByUptoCardSaid : Prop := Claim7.holds Tryd.pinned (.plain (OpenSpec.upto fnExactMissingBySpec)) fnExactMissingByUptoCard

/-- THE SECOND FORM's CARD OF 'laws.FnExactReportAfter'. -/
def fnExactReportAfterUptoCard : Claim7 := { stood := { row := fnExactReportAfterUptoRow, standIns := [], harness := (true, "a1d2fbe31aac8580ccef33ef4c0f5f133d06fad33ae3b248e26c509207f6538a"), looks := false }, kinds := [], alts := [], laidByText := true, laidKinds := [.data, .data, .data], laidTests := true, laidLooks := .later }
def FnExactReportAfterUptoCardSaid : Prop := Claim7.holds Tryd.pinned (.plain (OpenSpec.upto fnExactReportAfterSpec)) fnExactReportAfterUptoCard

/-- THE SECOND FORM's CARD OF 'laws.FnExactControlOf'. -/
def fnExactControlOfUptoCard : Claim7 := { stood := { row := fnExactControlOfUptoRow, standIns := [], harness := (true, "a1d2fbe31aac8580ccef33ef4c0f5f133d06fad33ae3b248e26c509207f6538a"), looks := false }, kinds := [], alts := [], laidByText := true, laidKinds := [.data, .data, .data], laidTests := true, laidLooks := .later }
def FnExactControlOfUptoCardSaid : Prop := Claim7.holds Tryd.pinned (.plain (OpenSpec.upto fnExactControlOfSpec)) fnExactControlOfUptoCard

/-- THE SECOND FORM's CARD OF 'laws.FnExactCyclesOfDeck'. -/
def fnExactCyclesOfDeckUptoCard : Claim7 := { stood := { row := fnExactCyclesOfDeckUptoRow, standIns := [], harness := (true, "a1d2fbe31aac8580ccef33ef4c0f5f133d06fad33ae3b248e26c509207f6538a"), looks := false }, kinds := [], alts := [], laidByText := true, laidKinds := [.data, .data, .data], laidTests := true, laidLooks := .later }
def FnExactCyclesOfDeckUptoCardSaid : Prop := Claim7.holds Tryd.pinned (.plain (OpenSpec.upto fnExactCyclesOfDeckSpec)) fnExactCyclesOfDeckUptoCard
end Rows
end Go.Proofs.YtclfhgcngodljaaDoor
