/- A function may leave a block that it was handed dead: a row that it has appended to, or that it keeps for itself. -/
import Derived.Test.YtpdmjalhahblmaaDoorVtR
namespace Go.Vs
set_option linter.unusedSectionVars false
variable [Envs]
variable {P : Program} {C : Ctx} {a : Act} {w : World} {S : Nat → Prop} {ρ : Name → Option Nat} {κ : Name → Nat} {h : Name → Option Blk}
set_option linter.unusedSimpArgs false

def blksD (h : Name → Option Blk) (E : List Name) : List Name → Option (List (Option Blk) × List Name)
  | [] => some ([], [])
  | n :: r => match h n, blksD h E r with
    | none, some (bs, L) => some (none :: bs, L)
    | some b, some (bs, L') => match convB h E b with
      | some (b', L) => if b'.fz then none else some (some b' :: bs, L ++ L')
      | none => none
    | _, none => none

/-- The value that is handed back, and the blocks that the caller may write, dead ones among them. -/
def retKD (P : Program) (rs : List ResultVar) (B : List Name) (r : AV) (hout : List (Option Blk)) (σ : St) : Prop :=
  resL P σ (fun xs => ∃ L1 L2, conv (hlook σ.h) 8 B false (oneOr xs) = some (r, L1) ∧ blksD (hlook σ.h) B B = some (hout, L2)) rs

attribute [go_sem] retKD blksD
end Go.Vs
