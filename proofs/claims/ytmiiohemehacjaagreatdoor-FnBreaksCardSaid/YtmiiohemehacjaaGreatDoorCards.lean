/-
  DERIVED. GIVEN WITH THE SEED: THE CARDS: each row of YtmiiohemehacjaaGreatDoorRows.lean that lists a variable, with what it lists TIED to the program's text (the seventh form; the later family's looks); each row that meets fmt, with fmt's text TOLD by the authors' own Lean function (tested against real Go, not proved from fmt's source: count such statements apart). THE CARD IS WHAT COUNTS. Prove the row's statement (the work); the ties are given (YtmiiohemehacjaaGreatDoorTie.lean); close each card by the builder's one call (the guide's Derived/Test/ToyasCard.lean, 'card_holds'). Laid BY PROGRAM, IN A SANDBOX (cutbox-door.mjs). By AI agents, Wed Nov 11 2026. No macro, syntax, notation, axiom, sorry.
-/
import Derived.Test.YtmiiohemehacjaaGreatDoorRows
import GoSem.ClaimSeven
namespace Go.Proofs.YtmiiohemehacjaaGreatDoor
namespace Rows

/-- THE TIED CARD OF 'laws.FnExactControlsAlong'. -/
def fnExactControlsAlongCard : Claim7 := { stood := { row := fnExactControlsAlongRow, standIns := [], harness := (true, "7d56d52943e766d7559e8d60ca341e3aecfd9a360a6911b363645ea57424ef63"), looks := false }, kinds := [], alts := [], laidByText := true, laidKinds := [.data, .data, .data], laidTests := true, laidLooks := .later }
def FnExactControlsAlongCardSaid : Prop := Claim7.holds Tryz.pinned (.plain (OpenSpec.ofChange fnExactControlsAlongSpec)) fnExactControlsAlongCard

/-- THE TIED CARD OF 'laws.FnBreaks'. -/
def fnBreaksCard : Claim7 := { stood := { row := fnBreaksRow, standIns := [], harness := (true, "7d56d52943e766d7559e8d60ca341e3aecfd9a360a6911b363645ea57424ef63"), looks := false }, kinds := [], alts := [], laidByText := true, laidKinds := [.data, .data, .data], laidTests := true, laidLooks := .later }
def FnBreaksCardSaid : Prop := Claim7.holds Tryz.pinned (.plain (OpenSpec.ofChange fnBreaksSpec)) fnBreaksCard

/-- THE SECOND FORM's CARD OF 'laws.FnExactControlsAlong'. -/
def fnExactControlsAlongUptoCard : Claim7 := { stood := { row := fnExactControlsAlongUptoRow, standIns := [], harness := (true, "7d56d52943e766d7559e8d60ca341e3aecfd9a360a6911b363645ea57424ef63"), looks := false }, kinds := [], alts := [], laidByText := true, laidKinds := [.data, .data, .data], laidTests := true, laidLooks := .later }
def FnExactControlsAlongUptoCardSaid : Prop := Claim7.holds Tryz.pinned (.plain (OpenSpec.upto fnExactControlsAlongSpec)) fnExactControlsAlongUptoCard

/-- THE SECOND FORM's CARD OF 'laws.FnBreaks'. -/
def fnBreaksUptoCard : Claim7 := { stood := { row := fnBreaksUptoRow, standIns := [], harness := (true, "7d56d52943e766d7559e8d60ca341e3aecfd9a360a6911b363645ea57424ef63"), looks := false }, kinds := [], alts := [], laidByText := true, laidKinds := [.data, .data, .data], laidTests := true, laidLooks := .later }
def FnBreaksUptoCardSaid : Prop := Claim7.holds Tryz.pinned (.plain (OpenSpec.upto fnBreaksSpec)) fnBreaksUptoCard
end Rows
end Go.Proofs.YtmiiohemehacjaaGreatDoor
