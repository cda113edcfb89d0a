/-
  DERIVED. GIVEN WITH THE SEED: THE CARDS: each row of YtgeeipfdkamhmaaGreatDoorRows.lean that lists a variable, with what it lists TIED to the program's text (the seventh form; the later family's looks); each row that meets fmt, with fmt's text TOLD by the authors' own Lean function (tested against real Go, not proved from fmt's source: count such statements apart). THE CARD IS WHAT COUNTS. Prove the row's statement (the work); the ties are given (YtgeeipfdkamhmaaGreatDoorTie.lean); close each card by the builder's one call (the guide's Derived/Test/ToyasCard.lean, 'card_holds'). Laid BY PROGRAM, IN A SANDBOX (cutbox-door.mjs). By AI agents, Wed Nov 11 2026. No macro, syntax, notation, axiom, sorry.
-/
import Derived.Test.YtgeeipfdkamhmaaGreatDoorRows
import GoSem.ClaimSeven
namespace Go.Proofs.YtgeeipfdkamhmaaGreatDoor
namespace Rows

/-- THE TIED CARD OF 'laws.FnExactExpectedControl'. -/
def fnExactExpectedControlCard : Claim7 := { stood := { row := fnExactExpectedControlRow, standIns := [], harness := (true, "1fd3d672e0c2c3cd4124d20a1b2c692b2b98f108cf605e77e07df876be5916f0"), looks := false }, kinds := [], alts := [], laidByText := true, laidKinds := [.data, .data, .data], laidTests := true, laidLooks := .later }
def FnExactExpectedControlCardSaid : Prop := Claim7.holds Tryz.pinned (.plain (OpenSpec.ofChange fnExactExpectedControlSpec)) fnExactExpectedControlCard

/-- THE TIED CARD OF 'laws.FnExactSplitHolds'. -/
def fnExactSplitHoldsCard : Claim7 := { stood := { row := fnExactSplitHoldsRow, standIns := [], harness := (true, "1fd3d672e0c2c3cd4124d20a1b2c692b2b98f108cf605e77e07df876be5916f0"), looks := false }, kinds := [], alts := [], laidByText := true, laidKinds := [.data, .data, .data], laidTests := true, laidLooks := .later }
def FnExactSplitHoldsCardSaid : Prop := Claim7.holds Tryz.pinned (.plain (OpenSpec.ofChange fnExactSplitHoldsSpec)) fnExactSplitHoldsCard

/-- THE SECOND FORM's CARD OF 'laws.FnExactExpectedControl'. -/
def fnExactExpectedControlUptoCard : Claim7 := { stood := { row := fnExactExpectedControlUptoRow, standIns := [], harness := (true, "1fd3d672e0c2c3cd4124d20a1b2c692b2b98f108cf605e77e07df876be5916f0"), looks := false }, kinds := [], alts := [], laidByText := true, laidKinds := [.data, .data, .data], laidTests := true, laidLooks := .later }
def FnExactExpectedControlUptoCardSaid : Prop := Claim7.holds Tryz.pinned (.plain (OpenSpec.upto fnExactExpectedControlSpec)) fnExactExpectedControlUptoCard

/-- THE SECOND FORM's CARD OF 'laws.FnExactSplitHolds'. -/
def fnExactSplitHoldsUptoCard : Claim7 := { stood := { row := fnExactSplitHoldsUptoRow, standIns := [], harness := (true, "1fd3d672e0c2c3cd4124d20a1b2c692b2b98f108cf605e77e07df876be5916f0"), looks := false }, kinds := [], alts := [], laidByText := true, laidKinds := [.data, .data, .data], laidTests := true, laidLooks := .later }
def FnExactSplitHoldsUptoCardSaid : Prop := Claim7.holds Tryz.pinned (.plain (OpenSpec.upto fnExactSplitHoldsSpec)) fnExactSplitHoldsUptoCard
end Rows
end Go.Proofs.YtgeeipfdkamhmaaGreatDoor
