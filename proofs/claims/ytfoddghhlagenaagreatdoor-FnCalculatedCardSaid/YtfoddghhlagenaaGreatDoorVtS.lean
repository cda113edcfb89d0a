/- A function may leave a block that it was handed dead: a row that it has appended to, or that it keeps for itself. -/
import Derived.Test.YtfoddghhlagenaaGreatDoorVtR
set_option linter.all false
set_option maxHeartbeats 8000000
namespace Go.Vs
variable [Envs]
variable {P:Program}{C:Ctx}{a:Act}{w:World}{S:Nat->Prop}{ρ:Name->Option Nat}{κ:Name->Nat}{h:Name->Option Blk}
def aEH (h:Name->Option Blk) (E:List Name):List Name->Option (List (Option Blk)×List Name)
 | []=>some ([],[])
 | n::r=>match h n,aEH h E r with
  |none,some (bs,L)=>some (none::bs,L)
  | some b,some (bs,L')=>match gL h E b with
   |some (b',L)=>if b'.fz then none else some (some b'::bs,L++L')
   |none=>none
  |_,none=>none
def retKD (P:Program) (rs:List ResultVar) (B:List Name) (r:AV) (hout:List (Option Blk)) (σ:St):Prop:=
 tL P σ (λxs=>∃L1 L2,conv (aA σ.h) 8 B false (tT xs)=some (r,L1)∧aEH (aA σ.h) B B=some (hout,L2)) rs
attribute [go_sem] retKD aEH
end Go.Vs
