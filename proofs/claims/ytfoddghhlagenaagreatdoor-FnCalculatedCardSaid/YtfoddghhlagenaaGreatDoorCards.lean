/-
  DERIVED. GIVEN WITH THE SEED: THE CARDS: each row of YtfoddghhlagenaaGreatDoorRows.lean that lists a variable, with what it lists TIED to the program's text (the seventh form; the later family's looks); each row that meets fmt, with fmt's text TOLD by the authors' own Lean function (tested against real Go, not proved from fmt's source: count such statements apart). THE CARD IS WHAT COUNTS. Prove the row's statement (the work); the ties are given (YtfoddghhlagenaaGreatDoorTie.lean); close each card by the builder's one call (the guide's Derived/Test/ToyasCard.lean, 'card_holds'). Laid BY PROGRAM, IN A SANDBOX (cutbox-door.mjs). By AI agents, Wed Nov 11 2026. No macro, syntax, notation, axiom, sorry.
-/
import Derived.Test.YtfoddghhlagenaaGreatDoorRows
import GoSem.ClaimSeven
namespace Go.Proofs.YtfoddghhlagenaaGreatDoor
namespace Rows

/-- THE TIED CARD OF 'laws.FnCalculated'. -/
def fnCalculatedCard : Claim7 := { stood := { row := fnCalculatedRow, standIns := [], harness := (true, "b64293cdd5db170c5f61de6b591c65de87396acc64a47a501bb606d4205c544e"), looks := false }, kinds := [], alts := [], laidByText := true, laidKinds := [.data, .data, .data], laidTests := true, laidLooks := .later }
def FnCalculatedCardSaid : Prop := Claim7.holds Tryz.pinned (.plain (OpenSpec.ofChange fnCalculatedSpec)) fnCalculatedCard

/-- THE SECOND FORM's CARD OF 'laws.FnCalculated'. -/
def fnCalculatedUptoCard : Claim7 := { stood := { row := fnCalculatedUptoRow, standIns := [], harness := (true, "b64293cdd5db170c5f61de6b591c65de87396acc64a47a501bb606d4205c544e"), looks := false }, kinds := [], alts := [], laidByText := true, laidKinds := [.data, .data, .data], laidTests := true, laidLooks := .later }
def FnCalculatedUptoCardSaid : Prop := Claim7.holds Tryz.pinned (.plain (OpenSpec.upto fnCalculatedSpec)) fnCalculatedUptoCard
end Rows
end Go.Proofs.YtfoddghhlagenaaGreatDoor
