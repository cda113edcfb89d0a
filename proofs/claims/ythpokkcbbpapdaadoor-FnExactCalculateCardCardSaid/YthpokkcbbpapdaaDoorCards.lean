/-
  DERIVED. GIVEN WITH THE SEED: THE CARDS: each row of YthpokkcbbpapdaaDoorRows.lean that lists a variable, with what it lists TIED to the program's text (the seventh form; the later family's looks); each row that meets fmt, with fmt's text TOLD by the authors' own Lean function (tested against real Go, not proved from fmt's source: count such statements apart). THE CARD IS WHAT COUNTS. Prove the row's statement (the work); the ties are given (YthpokkcbbpapdaaDoorTie.lean); close each card by the builder's one call (the guide's Derived/Test/ToyasCard.lean, 'card_holds'). Laid BY PROGRAM, IN A SANDBOX (cutbox-door.mjs). By AI agents, Wed Nov 11 2026. No macro, syntax, notation, axiom, sorry.
-/
import Derived.Test.YthpokkcbbpapdaaDoorRows
import GoSem.ClaimSeven
namespace Go.Proofs.YthpokkcbbpapdaaDoor
namespace Rows

/-- THE TIED CARD OF 'laws.FnExactCyclesOfDeck'. -/
def fnExactCyclesOfDeckCard : Claim7 := { stood := { row := fnExactCyclesOfDeckRow, standIns := [], harness := (true, "004038f737d31b2fcbda6d5445d047d16d059703891258f050bfa8e12e72f56b"), looks := true }, kinds := [], alts := [], laidByText := true, laidKinds := [.data, .data, .data], laidTests := true, laidLooks := .later }
def FnExactCyclesOfDeckCardSaid : Prop := Claim7.holds Tryd.pinned (.plain (OpenSpec.ofChange fnExactCyclesOfDeckSpec)) fnExactCyclesOfDeckCard

/-- THE TIED CARD OF 'laws.FnExactCalculateCard'. -/
def fnExactCalculateCardCard : Claim7 := { stood := { row := fnExactCalculateCardRow, standIns := [], harness := (true, "004038f737d31b2fcbda6d5445d047d16d059703891258f050bfa8e12e72f56b"), looks := true }, kinds := [], alts := [], laidByText := true, laidKinds := [.data, .data, .data], laidTests := true, laidLooks := .later }
def FnExactCalculateCardCardSaid : Prop := Claim7.holds Tryd.pinned (.plain (OpenSpec.ofChange fnExactCalculateCardSpec)) fnExactCalculateCardCard

/-- THE TIED CARD OF 'laws.FnExactCalculateDeck'. -/
def fnExactCalculateDeckCard : Claim7 := { stood := { row := fnExactCalculateDeckRow, standIns := [], harness := (true, "004038f737d31b2fcbda6d5445d047d16d059703891258f050bfa8e12e72f56b"), looks := true }, kinds := [], alts := [], laidByText := true, laidKinds := [.data, .data, .data], laidTests := true, laidLooks := .later }
def FnExactCalculateDeckCardSaid : Prop := Claim7.holds Tryd.pinned (.plain (OpenSpec.ofChange fnExactCalculateDeckSpec)) fnExactCalculateDeckCard

/-- THE TIED CARD OF 'laws.FnExactControlText'. -/
def fnExactControlTextCard : Claim7 := { stood := { row := fnExactControlTextRow, standIns := [], harness := (true, "004038f737d31b2fcbda6d5445d047d16d059703891258f050bfa8e12e72f56b"), looks := true }, kinds := [], alts := [], laidByText := true, laidKinds := [.data, .data, .data], laidTests := true, laidLooks := .later }
def FnExactControlTextCardSaid : Prop := Claim7.holds Tryd.pinned (.plain (OpenSpec.ofChange fnExactControlTextSpec)) fnExactControlTextCard

/-- THE TIED CARD OF 'laws.FnExactFaultText'. -/
def fnExactFaultTextCard : Claim7 := { stood := { row := fnExactFaultTextRow, standIns := [], harness := (true, "004038f737d31b2fcbda6d5445d047d16d059703891258f050bfa8e12e72f56b"), looks := true }, kinds := [], alts := [], laidByText := true, laidKinds := [.data, .data, .data], laidTests := true, laidLooks := .later }
def FnExactFaultTextCardSaid : Prop := Claim7.holds Tryd.pinned (.plain (OpenSpec.ofChange fnExactFaultTextSpec)) fnExactFaultTextCard

/-- THE TIED CARD OF 'laws.FnExactSpecText'. -/
def fnExactSpecTextCard : Claim7 := { stood := { row := fnExactSpecTextRow, standIns := [], harness := (true, "004038f737d31b2fcbda6d5445d047d16d059703891258f050bfa8e12e72f56b"), looks := true }, kinds := [], alts := [], laidByText := true, laidKinds := [.data, .data, .data], laidTests := true, laidLooks := .later }
def FnExactSpecTextCardSaid : Prop := Claim7.holds Tryd.pinned (.plain (OpenSpec.ofChange fnExactSpecTextSpec)) fnExactSpecTextCard

/-- THE TIED CARD OF 'laws.FnExactTotalsText'. -/
def fnExactTotalsTextCard : Claim7 := { stood := { row := fnExactTotalsTextRow, standIns := [], harness := (true, "004038f737d31b2fcbda6d5445d047d16d059703891258f050bfa8e12e72f56b"), looks := true }, kinds := [], alts := [], laidByText := true, laidKinds := [.data, .data, .data], laidTests := true, laidLooks := .later }
def FnExactTotalsTextCardSaid : Prop := Claim7.holds Tryd.pinned (.plain (OpenSpec.ofChange fnExactTotalsTextSpec)) fnExactTotalsTextCard

/-- THE TIED CARD OF 'laws.FnExactStepText'. -/
def fnExactStepTextCard : Claim7 := { stood := { row := fnExactStepTextRow, standIns := [], harness := (true, "004038f737d31b2fcbda6d5445d047d16d059703891258f050bfa8e12e72f56b"), looks := true }, kinds := [], alts := [], laidByText := true, laidKinds := [.data, .data, .data], laidTests := true, laidLooks := .later }
def FnExactStepTextCardSaid : Prop := Claim7.holds Tryd.pinned (.plain (OpenSpec.ofChange fnExactStepTextSpec)) fnExactStepTextCard

/-- THE TIED CARD OF 'laws.FnExactReadControl'. -/
def fnExactReadControlCard : Claim7 := { stood := { row := fnExactReadControlRow, standIns := [], harness := (true, "004038f737d31b2fcbda6d5445d047d16d059703891258f050bfa8e12e72f56b"), looks := true }, kinds := [], alts := [], laidByText := true, laidKinds := [.data, .data, .data, .data, .sentinel, .sentinel, .pinned], laidTests := true, laidLooks := .later }
def FnExactReadControlCardSaid : Prop := Claim7.holds Tryd.pinned (.plain (OpenSpec.ofChange fnExactReadControlSpec)) fnExactReadControlCard

/-- THE SECOND FORM's CARD OF 'laws.FnExactCyclesOfDeck'. -/
def fnExactCyclesOfDeckUptoCard : Claim7 := { stood := { row := fnExactCyclesOfDeckUptoRow, standIns := [], harness := (true, "004038f737d31b2fcbda6d5445d047d16d059703891258f050bfa8e12e72f56b"), looks := true }, kinds := [], alts := [], laidByText := true, laidKinds := [.data, .data, .data], laidTests := true, laidLooks := .later }
def FnExactCyclesOfDeckUptoCardSaid : Prop := Claim7.holds Tryd.pinned (.plain (OpenSpec.upto fnExactCyclesOfDeckSpec)) fnExactCyclesOfDeckUptoCard

/-- THE SECOND FORM's CARD OF 'laws.FnExactCalculateCard'. -/
def fnExactCalculateCardUptoCard : Claim7 := { stood := { row := fnExactCalculateCardUptoRow, standIns := [], harness := (true, "004038f737d31b2fcbda6d5445d047d16d059703891258f050bfa8e12e72f56b"), looks := true }, kinds := [], alts := [], laidByText := true, laidKinds := [.data, .data, .data], laidTests := true, laidLooks := .later }
def FnExactCalculateCardUptoCardSaid : Prop := Claim7.holds Tryd.pinned (.plain (OpenSpec.upto fnExactCalculateCardSpec)) fnExactCalculateCardUptoCard

/-- THE SECOND FORM's CARD OF 'laws.FnExactCalculateDeck'. -/
def fnExactCalculateDeckUptoCard : Claim7 := { stood := { row := fnExactCalculateDeckUptoRow, standIns := [], harness := (true, "004038f737d31b2fcbda6d5445d047d16d059703891258f050bfa8e12e72f56b"), looks := true }, kinds := [], alts := [], laidByText := true, laidKinds := [.data, .data, .data], laidTests := true, laidLooks := .later }
def FnExactCalculateDeckUptoCardSaid : Prop := Claim7.holds Tryd.pinned (.plain (OpenSpec.upto fnExactCalculateDeckSpec)) fnExactCalculateDeckUptoCard

/-- THE SECOND FORM's CARD OF 'laws.FnExactControlText'. -/
def fnExactControlTextUptoCard : Claim7 := { stood := { row := fnExactControlTextUptoRow, standIns := [], harness := (true, "004038f737d31b2fcbda6d5445d047d16d059703891258f050bfa8e12e72f56b"), looks := true }, kinds := [], alts := [], laidByText := true, laidKinds := [.data, .data, .data], laidTests := true, laidLooks := .later }
def FnExactControlTextUptoCardSaid : Prop := Claim7.holds Tryd.pinned (.plain (OpenSpec.upto fnExactControlTextSpec)) fnExactControlTextUptoCard

/-- THE SECOND FORM's CARD OF 'laws.FnExactFaultText'. -/
def fnExactFaultTextUptoCard : Claim7 := { stood := { row := fnExactFaultTextUptoRow, standIns := [], harness := (true, "004038f737d31b2fcbda6d5445d047d16d059703891258f050bfa8e12e72f56b"), looks := true }, kinds := [], alts := [], laidByText := true, laidKinds := [.data, .data, .data], laidTests := true, laidLooks := .later }
def FnExactFaultTextUptoCardSaid : Prop := Claim7.holds Tryd.pinned (.plain (OpenSpec.upto fnExactFaultTextSpec)) fnExactFaultTextUptoCard

/-- THE SECOND FORM's CARD OF 'laws.FnExactSpecText'. -/
def fnExactSpecTextUptoCard : Claim7 := { stood := { row := fnExactSpecTextUptoRow, standIns := [], harness := (true, "004038f737d31b2fcbda6d5445d047d16d059703891258f050bfa8e12e72f56b"), looks := true }, kinds := [], alts := [], laidByText := true, laidKinds := [.data, .data, .data], laidTests := true, laidLooks := .later }
def FnExactSpecTextUptoCardSaid : Prop := Claim7.holds Tryd.pinned (.plain (OpenSpec.upto fnExactSpecTextSpec)) fnExactSpecTextUptoCard

/-- THE SECOND FORM's CARD OF 'laws.FnExactTotalsText'. -/
def fnExactTotalsTextUptoCard : Claim7 := { stood := { row := fnExactTotalsTextUptoRow, standIns := [], harness := (true, "004038f737d31b2fcbda6d5445d047d16d059703891258f050bfa8e12e72f56b"), looks := true }, kinds := [], alts := [], laidByText := true, laidKinds := [.data, .data, .data], laidTests := true, laidLooks := .later }
def FnExactTotalsTextUptoCardSaid : Prop := Claim7.holds Tryd.pinned (.plain (OpenSpec.upto fnExactTotalsTextSpec)) fnExactTotalsTextUptoCard

/-- THE SECOND FORM's CARD OF 'laws.FnExactStepText'. -/
def fnExactStepTextUptoCard : Claim7 := { stood := { row := fnExactStepTextUptoRow, standIns := [], harness := (true, "004038f737d31b2fcbda6d5445d047d16d059703891258f050bfa8e12e72f56b"), looks := true }, kinds := [], alts := [], laidByText := true, laidKinds := [.data, .data, .data], laidTests := true, laidLooks := .later }
def FnExactStepTextUptoCardSaid : Prop := Claim7.holds Tryd.pinned (.plain (OpenSpec.upto fnExactStepTextSpec)) fnExactStepTextUptoCard

/-- THE SECOND FORM's CARD OF 'laws.FnExactReadControl'. -/
def fnExactReadControlUptoCard : Claim7 := { stood := { row := fnExactReadControlUptoRow, standIns := [], harness := (true, "004038f737d31b2fcbda6d5445d047d16d059703891258f050bfa8e12e72f56b"), looks := true }, kinds := [], alts := [], laidByText := true, laidKinds := [.data, .data, .data, .data, .sentinel, .sentinel, .pinned], laidTests := true, laidLooks := .later }
def FnExactReadControlUptoCardSaid : Prop := Claim7.holds Tryd.pinned (.plain (OpenSpec.upto fnExactReadControlSpec)) fnExactReadControlUptoCard
end Rows
end Go.Proofs.YthpokkcbbpapdaaDoor
